/-
  The law SnapshotDiffers: for every input the call returns true, and each argument reads afterwards as it read before. No condition beside these.
-/
import Derived.Test.YtnaamiecljinnaaGreatRows
import Derived.Test.YtnaamiecljinnaaGreatSb
import Derived.ProofKit
import Derived.OpenShut
import Derived.SliceStrings
import Derived.Carry
import Derived.Handed
namespace Go.Proofs.YtnaamiecljinnaaGreat
open Go Go.ChangeShapes Go.WideShapes Go.ChangeAt Go.RowKit
namespace PSnapshotDiffers

theorem laidOutP : laidOutB Tryz.prog = true := by kernel_rfl
theorem own : ownKnob Tryz.prog.godebug = none := by kernel_rfl

theorem strSl_of {w : World} {a : Addr} {len cap : Nat} {ss : List ByteArray} (hl : len ≤ ss.length) (h : ∀ i, i < ss.length → w.cell? (a.add i) = some (.string (ss.getD i ByteArray.empty))) : StrSl w ((ss.take len).map fun s => s.data.toList) (.slice (some a) len cap) := by
  have hlen : ((ss.take len).map fun s => s.data.toList).length = len := by rw [List.length_map, List.length_take]; omega
  refine ⟨some a, cap, by rw [hlen], fun i hi => ?_⟩
  rw [hlen] at hi
  obtain ⟨b, off, e⟩ := a
  have h0 := h 0 (by omega)
  have hspot : e = none := by simpa [Addr.add] using World.cell?_spot h0
  subst hspot
  have hi2 := h i (by omega)
  rw [Go.WideShapes.add_plain] at hi2
  refine ⟨b, off, rfl, World.block_lt_of_cell? w _ hi2, ?_⟩
  rw [hi2]
  have hs : ((ss.take len).map fun s => s.data.toList).getD i [] = (ss.getD i ByteArray.empty).data.toList := by
    have h1 : i < ss.length := by omega
    simp [List.getD, hi, h1]
  rw [hs]

set_option maxRecDepth 100000 in
theorem lifted (os : Os) (started : os.Started) (H : Type) (enc : TypeId × Value → H) :
    ReturnsInHanded {} Tryz.checked os 5 .any (Rows.snapshotDiffersSpec.pre6 enc Tryz.prog Tryz.f5 Rows.snapshotDiffersRow.domain false)
      (Rows.snapshotDiffersSpec.post enc Tryz.prog Tryz.f5 false true false false) := by
  refine returnsInHanded_of_change (C := Tryz.checked) own started (by kernel_rfl) Tryz.func5
    (ChangeSpec.witness6 (enc := enc) (C := Tryz.checked) false ⟨#[], #[.slice none 0 0, .slice none 0 0], []⟩ 8 (by kernel_rfl) (by kernel_rfl) (by kernel_rfl) (by kernel_rfl)) ?_
  intro W base args ds gs before hval0 hW hcnd _
  have hval : ∀ (j : Nat) t v, Tryz.f5.params[j]? = some t → args[j]? = some v → Value.okWide Tryz.prog W .any base t v := hval0
  have hW' := hW
  obtain ⟨p, q, hA0, hV, rfl, _, _⟩ := hW
  have hA : DataW.TrodAll enc Tryz.prog W 0 (fun _ => true) true Tryz.f5.params.toList args.toList ds p := hA0
  rw [Tryz.params5] at hA hval
  obtain ⟨v0, v1, d0, d1, p0, p1, rfl, rfl, rfl, h0, h1⟩ := trodAll_two hA
  obtain ⟨rfl, rfl⟩ := trodVars_none hV
  have hlt : ∀ x ∈ p0 ++ p1, x.block < W.heap.size := fun x hx => by simpa using hW'.lt x (by simpa using hx)
  have h0k := h0
  have h1k := h1
  simp only [List.append_nil] at hW'
  obtain ⟨a0, n0, c0, rfl⟩ := okWide_slice Tryz.underlying42 (hval 0 42 v0 rfl rfl)
  obtain ⟨a1, n1, c1, rfl⟩ := okWide_slice Tryz.underlying42 (hval 1 42 v1 rfl rfl)
  have sl : ∀ {a : Option Addr} {n c : Nat} {d : DataW H} {ps : List MemPlace}, DataW.Trod enc Tryz.prog W 0 (fun _ => true) true 42 (.slice a n c) d ps → ∃ (l : List (List UInt8)), StrSl W l (.slice a n c) := by
    rintro a n c d ps ⟨fuel, hf⟩
    rcases open_strings Tryz.underlying42 Tryz.underlying9 (by kernel_rfl) hf with ⟨hcs, _⟩ | ⟨a', len, cap, ss, hcs, _, hl, hm, hz, _, hcell, _⟩
    · simp [Value.cells] at hcs
      obtain ⟨rfl, rfl, rfl⟩ := hcs
      exact ⟨[], none, 0, rfl, fun i hi => by simp at hi⟩
    · simp [Value.cells] at hcs
      obtain ⟨rfl, rfl, rfl⟩ := hcs
      exact ⟨_, strSl_of (by rw [hz]; split <;> omega) hcell⟩
  obtain ⟨l0, s0⟩ := sl h0
  obtain ⟨l1, s1⟩ := sl h1
  have hcall : Calls Tryz.prog 5 #[.slice a0 n0 c0, .slice a1 n1 c1] W (Gives (.bool true) W) := by
    by_cases ho : l0.length ≤ 30 ∧ l1.length ≤ 30
    · exact differs_on l0 l1 _ _ W s0 s1 ho.1 ho.2
    · obtain ⟨pa, ca, e0, _⟩ := s0
      obtain ⟨pb, cb, e1, _⟩ := s1
      injection e0 with _ e0
      injection e1 with _ e1
      exact differs_off _ _ _ _ _ _ W (by omega)
  refine hcall.mono fun e W' ⟨he, hb⟩ => ?_
  subst he
  exact ⟨_, rfl, _, _, _, [], p0 ++ p1, [], hW', trodAll_mk1 (shut_bool Tryz.underlying4 _), trodAll_mk2 (Below.trod laidOutP (by kernel_rfl) (of_decide_eq_true (by kernel_rfl)) h0k hb (fun x hx => hlt x (by simp [hx]))) (Below.trod laidOutP (by kernel_rfl) (of_decide_eq_true (by kernel_rfl)) h1k hb (fun x hx => hlt x (by simp [hx]))), rfl, hb.frame _, fun h => by cases h⟩

theorem holds : Rows.SnapshotDiffersSaid :=
  OpenClaim.holds_of_wide 5 Tryz.f5 rfl rfl rfl rfl rfl rfl rfl ⟨rfl, rfl, rfl, rfl, rfl⟩ rfl rfl rfl rfl rfl (by kernel_rfl) Tryz.func5 (by kernel_rfl)
    (of_decide_eq_true (by kernel_rfl)) (by unfold Func.isWrapper; rw [if_neg (of_decide_eq_false (by kernel_rfl))]; exact ⟨rfl, rfl⟩)
    (fun os started H enc _ => lifted os started H enc)
#print axioms holds
end PSnapshotDiffers
end Go.Proofs.YtnaamiecljinnaaGreat
