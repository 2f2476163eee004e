/-
  The evaluator, in stages: one operation.
-/
import Derived.Test.YthponidjednfbaaGreatDoorEvB
namespace Go.Proofs.YthponidjednfbaaGreatDoor.Ev
open RowKit

def quietOp : Op → Bool
  | .alloc _ | .box _ _ | .makeSlice _ _ _ | .buildSlice _ _ _ | .store _ _ _ | .makeMap _ _ | .lookup _ _ _ _ | .mapUpdate _ _ _ _ | .convert _ _ _ | .defer _ | .call _ => false
  | _ => true
theorem evDo_quiet {P : Program} {call : CallE} {ev : Val} {hp : T Blk} {nx : Nat} {o : Oper} {v : Value} (hk : quietOp o.op = true) (hq : evQ P ev hp o = some v) : evDo P call ev hp nx o = some (v, hp, nx, none) := by
  unfold evDo
  split <;> first
    | (rename_i h; rw [h] at hk; cases hk; done)
    | (rename_i h _; rw [h] at hk; cases hk; done)
    | (rw [hq])
    | skip
  all_goals (simp_all [quietOp])
theorem intB_some {α : Type} {v : Value} {f : IntKind → Int → Option α} {e : Option α} {r : α} (h : intB v f e = some r) : (∃ k i, v = .int k i ∧ f k i = some r) ∨ e = some r := by
  cases v with
  | int k i => exact .inl ⟨k, i, rfl, h⟩
  | _ => exact .inr h
section
variable {P : Program} {o : Oper} {call : CallE} {s s' : St}
theorem step_quiet {p : Value → St → Option St} (hp : putB o.dst = .yes p) {v : Value} (hk : quietOp o.op = true) (hq : evQ P (evF s.tm.get) s.hp o = some v) (hs : p v s = some s') : stepV P call s o = some s' :=
  stepV_of (evDo_quiet hk hq) (putB_put hp hs)
theorem stepB_sound {f : SF} (h : stepB P o = .yes f) (hs : f call s = some s') : stepV P call s o = some s' := by
  unfold stepB at h
  split at h
  · next x ho =>
    obtain ⟨g, hg, h⟩ := on_yes h
    obtain ⟨p, hp, h⟩ := on_yes h
    cases h
    obtain ⟨v, hv, hs⟩ := oB_some hs
    rw [gvB_ev hg] at hv
    exact step_quiet hp (by rw [ho]; rfl) (by unfold evQ evS; rw [ho]; simp only [hv]) hs
  · next x ho =>
    obtain ⟨g, hg, h⟩ := on_yes h
    obtain ⟨p, hp, h⟩ := on_yes h
    cases h
    obtain ⟨v, hv, hs⟩ := oB_some hs
    rw [gvB_ev hg] at hv
    exact step_quiet hp (by rw [ho]; rfl) (by unfold evQ evS; rw [ho]; simp only [hv]) hs
  · next c a b ho =>
    obtain ⟨gc, hc, h⟩ := on_yes h
    obtain ⟨ga, ha, h⟩ := on_yes h
    obtain ⟨gb, hb, h⟩ := on_yes h
    obtain ⟨p, hp, h⟩ := on_yes h
    cases h
    obtain ⟨u, hu, hs⟩ := oB_some hs
    obtain ⟨v, hv, hs⟩ := oB_some hs
    obtain ⟨w, hw, hs⟩ := oB_some hs
    rw [gvB_ev ha] at hu
    rw [gvB_ev hb] at hv
    rw [gvB_ev hc] at hw
    cases w <;> try (cases hs; done)
    rename_i t
    have hs : p (Bool.rec v u t) s = some s' := hs
    refine step_quiet hp (by rw [ho]; rfl) ?_ hs
    unfold evQ evS
    rw [ho]
    simp only [hu, hv, hw]
    cases t <;> rfl
  · next x ho =>
    obtain ⟨g, hg, h⟩ := on_yes h
    obtain ⟨p, hp, h⟩ := on_yes h
    cases h
    obtain ⟨v, hv, hs⟩ := oB_some hs
    rw [gvB_ev hg] at hv
    split at hs
    · exact step_quiet hp (by rw [ho]; rfl) (by unfold evQ evS; rw [ho]; simp only [hv]) hs
    · exact hs
  · next st x i ho =>
    split at h
    · next fs hfs =>
      split at h
      · next fd hfd =>
        split at h
        · next k hk =>
          obtain ⟨g, hg, h⟩ := on_yes h
          obtain ⟨p, hp, h⟩ := on_yes h
          cases h
          obtain ⟨v, hv, hs⟩ := oB_some hs
          rw [gvB_ev hg] at hv
          obtain ⟨n, off, rfl, hs⟩ := ptrB_some hs
          exact step_quiet hp (by rw [ho]; rfl) (by unfold evQ evS; rw [ho]; simp only [hv, hfs, hfd, hk]) hs
        · cases h
      · cases h
    · cases h
  · next t a ho =>
    split at h
    · next k ha hk =>
      obtain ⟨g, hg, h⟩ := on_yes h
      obtain ⟨p, hp, h⟩ := on_yes h
      cases h
      obtain ⟨v, hv, hs⟩ := oB_some hs
      rw [gvB_ev hg] at hv
      obtain ⟨n, off, rfl, hs⟩ := ptrB_some hs
      obtain ⟨u, hu, hs⟩ := oB_some hs
      obtain ⟨cs, m, h1, h2⟩ := readB_some hu
      obtain ⟨h3, h4⟩ := boolRec_some h2
      obtain ⟨r, h5, h6⟩ := run_some h4
      obtain ⟨l, h7, h8⟩ := oB_some h6
      cases h8
      refine step_quiet hp (by rw [ho]; rfl) ?_ hs
      unfold evQ evL
      rw [ho]
      simp only [hv]
      unfold loadAt
      rw [h1]
      simp only [ha, hk, h3, cond_true, rowB_get k off r h5 cs l h7]
    · next k ha hk =>
      obtain ⟨g, hg, h⟩ := on_yes h
      obtain ⟨p, hp, h⟩ := on_yes h
      cases h
      obtain ⟨v, hv, hs⟩ := oB_some hs
      rw [gvB_ev hg] at hv
      obtain ⟨n, off, rfl, hs⟩ := ptrB_some hs
      obtain ⟨u, hu, hs⟩ := oB_some hs
      obtain ⟨cs, m, h1, h2⟩ := readB_some hu
      obtain ⟨h3, h4⟩ := boolRec_some h2
      obtain ⟨r, h5, h6⟩ := run_some h4
      refine step_quiet hp (by rw [ho]; rfl) ?_ hs
      unfold evQ evL
      rw [ho]
      simp only [hv]
      unfold loadAt
      rw [h1]
      rw [getB_get _ _ r h5 cs] at h6
      simp only [hk, h3, cond_true, h6]
    · cases h
  · next op t x y yt ho =>
    obtain ⟨gx, hx, h⟩ := on_yes h
    obtain ⟨gy, hy, h⟩ := on_yes h
    obtain ⟨p, hp, h⟩ := on_yes h
    cases h
    obtain ⟨u, hu, hs⟩ := oB_some hs
    obtain ⟨v, hv, hs⟩ := oB_some hs
    rw [gvB_ev hx] at hu
    rw [gvB_ev hy] at hv
    rcases intB_some hs with ⟨k, a, eu, hs1⟩ | hs1
    · rcases intB_some hs1 with ⟨k', b, ev, hs2⟩ | hs2
      · obtain ⟨r, hr, hs3⟩ := oB_some hs2
        obtain ⟨hf, hs4⟩ := boolRec_some hs3
        rw [eu] at hu
        rw [ev] at hv
        refine step_quiet hp (by rw [ho]; rfl) ?_ hs4
        have hnone : evS P (evF s.tm.get) o = none := by
          unfold evS
          rw [ho]
          simp only [hu, hv]
          cases P.underlying t with
          | none => rfl
          | some d => cases op <;> rfl
        unfold evQ
        rw [ho]
        simp only
        rw [hnone]
        simp only
        refine pureQ_of (by rw [ho]; rfl) (fun z hz => ?_) ?_ hf
        · rw [ho] at hz
          simp only [Op.operands, List.mem_cons, List.not_mem_nil, or_false] at hz
          rcases hz with rfl | rfl
          · exact ⟨_, hu, rfl⟩
          · exact ⟨_, hv, rfl⟩
        · unfold execOp
          rw [ho]
          simp only [hu, hv, Option.getD_some]
          have he : runP P (do eqGuard op t x y (.int k a) (.int k' b); binOp op t (.int k a) (.int k' b) : Sem Value) = some r := by
            have hg : runP P (eqGuard op t x y (.int k a) (.int k' b)) = some () := by cases op <;> rfl
            rw [runP_bind hg]; exact hr
          rw [runP_bind he]; rfl
      · exact hs2
    · exact hs1
  · next t x ix ho =>
    split at h
    · next e he =>
      split at h
      · next k hk =>
        obtain ⟨gx, hx, h⟩ := on_yes h
        obtain ⟨gi, hi, h⟩ := on_yes h
        obtain ⟨p, hp, h⟩ := on_yes h
        cases h
        obtain ⟨u, hu, hs⟩ := oB_some hs
        obtain ⟨v, hv, hs⟩ := oB_some hs
        rw [gvB_ev hx] at hu
        rw [gvB_ev hi] at hv
        split at hs
        · next n off len c =>
          rcases intB_some hs with ⟨k', i, ev, hs1⟩ | hs1
          · obtain ⟨hb, hs2⟩ := boolRec_some hs1
            rw [ev] at hv
            exact step_quiet hp (by rw [ho]; rfl) (by unfold evQ evS; rw [ho]; simp only [hu, hv, he, hk, hb, cond_true]) hs2
          · cases hs1
        · exact hs
      · cases h; exact hs
    · cases h; exact hs
  · next t a x ho =>
    split at h
    · next k hk =>
      obtain ⟨ga, ha, h⟩ := on_yes h
      obtain ⟨gx, hx, h⟩ := on_yes h
      obtain ⟨p, hp, h⟩ := on_yes h
      cases h
      obtain ⟨u, hu, hs⟩ := oB_some hs
      obtain ⟨v, hv, hs⟩ := oB_some hs
      rw [gvB_ev ha] at hu
      rw [gvB_ev hx] at hv
      obtain ⟨n, off, rfl, hs⟩ := ptrB_some hs
      obtain ⟨hb, hs⟩ := boolRec_some hs
      obtain ⟨hp', hst, hs⟩ := oB_some hs
      refine stepV_of (v := undef) (hp := hp') (nx := s.nx) ?_ (putB_put hp hs)
      unfold evDo
      rw [ho]
      simp only [hu, hv, hk, hb, cond_true, hst]
    · cases h
  · next x i ho =>
    obtain ⟨g, hg, h⟩ := on_yes h
    obtain ⟨p, hp, h⟩ := on_yes h
    cases h
    obtain ⟨v, hv, hs⟩ := oB_some hs
    rw [gvB_ev hg] at hv
    split at hs
    · next vs =>
      obtain ⟨u, hu, hs⟩ := oB_some hs
      exact step_quiet hp (by rw [ho]; rfl) (by unfold evQ evS; rw [ho]; simp only [hv, hu]) hs
    · cases hs
  · next t ho =>
    split at h
    · next z hz =>
      cases hb : Nat.ble z.length 1000000 with
      | false => rw [hb] at h; cases h
      | true =>
        rw [hb] at h
        obtain ⟨p, hp, h⟩ := on_yes h
        cases h
        refine stepV_of (v := .pointer (some ⟨s.nx, 0, none⟩)) (hp := s.hp.set (some (.row (setN .leaf 0 z) z.length t)) s.nx) (nx := s.nx + 1) ?_ (putB_put hp hs)
        unfold evDo evM
        rw [ho]
        simp only [hz, hb, cond_true]
        rfl
    · cases h
  · next op t x ho =>
    obtain ⟨g, hg, h⟩ := on_yes h
    obtain ⟨p, hp, h⟩ := on_yes h
    cases h
    obtain ⟨u, hu, hs⟩ := oB_some hs
    rw [gvB_ev hg] at hu
    obtain ⟨hf, hs⟩ := boolRec_some hs
    obtain ⟨r, hr, hs⟩ := oB_some hs
    obtain ⟨hfr, hs⟩ := boolRec_some hs
    refine step_quiet hp (by rw [ho]; rfl) ?_ hs
    have hnone : evS P (evF s.tm.get) o = none := by unfold evS; rw [ho]
    unfold evQ
    rw [ho]
    simp only
    rw [hnone]
    simp only
    refine pureQ_of (by rw [ho]; rfl) (fun z hz => ?_) ?_ hfr
    · rw [ho] at hz
      simp only [Op.operands, List.mem_cons, List.not_mem_nil, or_false] at hz
      subst hz
      exact ⟨_, hu, hf⟩
    · unfold execOp
      rw [ho]
      simp only [hu, Option.getD_some]
      rw [runP_bind hr]; rfl
  · next c ho =>
    split at h
    · next g hc =>
      cases hen : enters P g with
      | false => rw [hen] at h; cases h; exact hs
      | true =>
        rw [hen] at h
        obtain ⟨ga, ha, h⟩ := on_yes h
        obtain ⟨p, hp, h⟩ := on_yes h
        cases h
        obtain ⟨l, hl, hs⟩ := oB_some hs
        obtain ⟨r, hr, hs⟩ := oB_some hs
        obtain ⟨v, hp2, nx2⟩ := r
        refine stepV_of (v := v) (hp := hp2) (nx := nx2) ?_ (putB_put hp hs)
        have hl := argsB_evs _ _ ha s.tm l hl
        unfold evDo
        rw [ho]
        simp only [hc, evF, hen, cond_true, hl]
        simp only [List.nil_append, List.append_nil, hr]
    · next hc =>
      split at h
      · next x t ha ht =>
        split at h
        · next e he =>
          obtain ⟨g, hg, h⟩ := on_yes h
          obtain ⟨p, hp, h⟩ := on_yes h
          cases h
          obtain ⟨v, hv, hs⟩ := oB_some hs
          rw [gvB_ev hg] at hv
          split at hs
          · next ad n cp =>
            have hq : evQ P (evF s.tm.get) s.hp o = some (.int .i64 n) := by
              unfold evQ evS
              rw [ho]
              simp only
              unfold lenQ
              simp only [hc, ha, ht, hv, he]
            refine stepV_of (v := .int .i64 n) (hp := s.hp) (nx := s.nx) ?_ (putB_put hp hs)
            unfold evDo
            rw [ho]
            simp only [hc, hq]
          · cases hs
        · cases h; exact hs
      · cases h; exact hs
    · cases h; exact hs
  · cases h; exact hs
end
end Go.Proofs.YthponidjednfbaaGreatDoor.Ev
