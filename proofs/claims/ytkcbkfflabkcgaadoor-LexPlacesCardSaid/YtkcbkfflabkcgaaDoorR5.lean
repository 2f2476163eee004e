/-
  The references' Parse is what the document says of a text: the joint.
-/
import Derived.Test.YtkcbkfflabkcgaaDoorR4
namespace Go.Proofs.YtkcbkfflabkcgaaDoor
open Go.RowKit Ieee

def signed (below : Bool) (v : Nat) : Int := if below then -(v : Int) else v

/-- what the document says of a text behind its sign, by where its digits end -/
theorem parseB_bad {l : List UInt8} (h1 : ¬ l = [110, 97, 110]) (h2 : ¬ unNeg l = [105, 110, 102]) (h : rform (unNeg l) = false) : parseB l = (0, 5) := by
  rw [← rform_split] at h
  unfold parseB
  rw [if_neg h1, if_neg h2]
  cases hs : splitP (unNeg l) with
  | none => rfl
  | some y =>
    obtain ⟨m, p⟩ := y
    rw [hs] at h
    have h' : (digsOK m 20 && digsOK (unNeg p) 4) = false := h
    simp only [h', Bool.false_eq_true, if_false]
theorem parseB_good {l r : List UInt8} (h1 : ¬ l = [110, 97, 110]) (h2 : ¬ unNeg l = [105, 110, 102]) (hr : rst (unNeg l) = 112 :: r) (b1 : 1 ≤ (digs (unNeg l)).length) (b2 : (digs (unNeg l)).length ≤ 20) (h4 : digsOK (unNeg r) 4 = true) (hd : digs (unNeg r) = unNeg r) :
    parseB l = (madeV (isNeg l) (capN (decVal (digs (unNeg l)))) (signed (isNeg r) (decVal (digs (unNeg r)))), madeE (capN (decVal (digs (unNeg l)))) (signed (isNeg r) (decVal (digs (unNeg r))))) := by
  have hu := digs_rst (unNeg l)
  rw [hr] at hu
  have hs := split_digs (digs (unNeg l)) r (digs_all _)
  rw [hu] at hs
  have h20 : digsOK (digs (unNeg l)) 20 = true := by
    unfold digsOK; rw [digs_all]; simp; omega
  unfold parseB madeV madeE
  rw [if_neg h1, if_neg h2, hs]
  simp only [h20, h4, Bool.and_self, if_true, hd]
  by_cases hb : 9007199254740992 < decVal (digs (unNeg l))
  · rw [if_pos hb, if_pos ((cap_big _).2 hb), if_pos ((cap_big _).2 hb)]
  · rw [if_neg hb, if_neg (fun x => hb ((cap_big _).1 x)), if_neg (fun x => hb ((cap_big _).1 x)), cap_id (by omega)]
    rfl

theorem bs_toList (l : List UInt8) : (⟨l.toArray⟩ : ByteArray).toList = l := by rw [ByteArray.toList_eq]
theorem bs_eq (l m : List UInt8) (h : l = m) : ((⟨l.toArray⟩ : ByteArray).toList == m) = true := by rw [bs_toList, h]; simp
theorem bs_ne (l m : List UInt8) (h : ¬ l = m) : ((⟨l.toArray⟩ : ByteArray).toList == m) = false := by rw [bs_toList]; exact beq_eq_false_iff_ne.2 h
theorem bs_size (l : List UInt8) : (⟨l.toArray⟩ : ByteArray).size = l.length := by show l.toArray.size = _; simp
theorem bs_tail (c : UInt8) (r : List UInt8) : (⟨(c :: r).toArray⟩ : ByteArray).extract 1 (⟨(c :: r).toArray⟩ : ByteArray).size = ⟨r.toArray⟩ := by
  apply ByteArray.ext
  apply Array.toList_inj.1
  show _ = r
  rw [bs_size]
  simp only [ByteArray.data_extract, Array.toList_extract, List.extract_eq_take_drop, List.drop_succ_cons, List.drop_zero]
  exact List.take_of_length_le (by simp)

theorem bad_head (L : List UInt8) (c : UInt8) (r : List UInt8) (hL : L = c :: r) (hr1 : 1 ≤ r.length) (hc : ¬ c = 112) : ∃ h : 1 < (⟨L.toArray⟩ : ByteArray).size, ((((⟨L.toArray⟩ : ByteArray)[0]'(by omega)).toNat : Int) == 112) = false := by
  subst hL
  refine ⟨by rw [bs_size, List.length_cons]; omega, ?_⟩
  show ((c.toNat : Int) == 112) = false
  rw [beq_eq_false_iff_ne]
  intro e
  apply hc
  apply UInt8.toNat_inj.1
  show c.toNat = 112
  omega

end Go.Proofs.YtkcbkfflabkcgaaDoor
