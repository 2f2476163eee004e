/-
  Calls that are known beforehand: the one item of a row struck (slices.Delete).
-/
import Derived.Test.YthponidjednfbaaGreatDoorEvE
import Derived.Test.YthponidjednfbaaGreatDoorProg
import Derived.KernelRfl
import Derived.OwnWalk
import Derived.RegionTactic
import Derived.Lib.Hide
import Derived.Below
import Derived.BigQuiet
namespace Go.Proofs.YthponidjednfbaaGreatDoor
open Go.RowKit

def waitZ : List Value := [.int .i64 0, .int .i64 0, .int .i64 0, .int .i64 0, .int .i64 0, .int .i64 0, .float .f64 0, .string ⟨#[]⟩, .slice none 0 0, .slice none 0 0]
theorem run_sl {a : Addr} {n c l h m : Nat} {lo hi mx : Option Value} (hb : ∀ W : World, (Instr.sliceBounds true n c lo hi mx).run Tryz.prog W = .ok (l, h, m) W) (W : World) :
    (Instr.sliceAt 181 (.slice (some a) n c) lo hi mx).run Tryz.prog W = .ok (.slice (some (if m = l then a else a.add (l * 10))) (h - l) (m - l)) W := by
  have hz : ∀ W : World, (sizeOf 195).run Tryz.prog W = .ok 10 W := fun W => by kernel_rfl
  simp only [Instr.sliceAt, Instr.slice, Sem.run_bind, run_underlying Tryz.underlying181, Result.andThen_ok, hb, hz, Sem.run_pure]
  split <;> simp
set_option maxHeartbeats 1000000 in
set_option maxRecDepth 100000 in
theorem del_one (g c : Nat) (cs : Array Value) (w : World) (hg : w.heap[g]? = some (.cells cs 195 (0, 0))) (hs : cs.size = c * 10) (hc : 1 ≤ c) :
    Calls Tryz.prog 307 #[.slice (some ⟨g, 0, none⟩) 1 c, .int .i64 0, .int .i64 1] w fun e w' => e = .returned (.slice (some ⟨g, 0, none⟩) 0 c) ∧ ∃ nq, (storeCells ⟨g, 0, none⟩ waitZ).run Tryz.prog (w.drewN nq) = .ok () w' := by
  have hcI : (1 : Int) ≤ (c : Int) := by omega
  have hi : ∀ (k : Int) (W : World), (asIntOf (.int .i64 k)).run Tryz.prog W = .ok (.i64, k) W := fun k W => rfl
  have h1 : ∀ W : World, (Instr.sliceAt 181 (.slice (some ⟨g, 0, none⟩) 1 c) (some (.int .i64 0)) (some (.int .i64 1)) (some (.int .i64 1))).run Tryz.prog W = .ok (.slice (some ⟨g, 0, none⟩) 1 1) W := fun W => by
    rw [run_sl (l := 0) (h := 1) (m := 1) (fun W => by simp [Instr.sliceBounds, Instr.sliceBound, hi, hcI]; intro h; exfalso; revert h; decide) W]; simp [Ev.add_off]
  have h2 : ∀ W : World, (Instr.sliceAt 181 (.slice (some ⟨g, 0, none⟩) 1 c) none (some (.int .i64 0)) none).run Tryz.prog W = .ok (.slice (some ⟨g, 0, none⟩) 0 c) W := fun W => by
    rw [run_sl (l := 0) (h := 0) (m := c) (fun W => by simp [Instr.sliceBounds, Instr.sliceBound, hi]) W]; simp [Ev.add_off]
  obtain ⟨q, h3⟩ : ∃ q, ∀ W : World, (Instr.sliceAt 181 (.slice (some ⟨g, 0, none⟩) 1 c) (some (.int .i64 1)) none none).run Tryz.prog W = .ok (.slice (some q) 0 (c - 1)) W := ⟨_, fun W => by
    rw [run_sl (l := 1) (h := 1) (m := c) (fun W => by simp [Instr.sliceBounds, Instr.sliceBound, hi]) W]⟩
  have h4 : ∀ W : World, (Instr.sliceAt 181 (.slice (some ⟨g, 0, none⟩) 0 c) (some (.int .i64 0)) (some (.int .i64 1)) none).run Tryz.prog W = .ok (.slice (some ⟨g, 0, none⟩) 1 c) W := fun W => by
    rw [run_sl (l := 0) (h := 1) (m := c) (fun W => by simp [Instr.sliceBounds, Instr.sliceBound, hi, hcI]) W]; simp [Ev.add_off]
  have hz : ∀ W : World, (sizeOf 195).run Tryz.prog W = .ok 10 W := fun W => by kernel_rfl
  have hzv : ∀ W : World, (zeroValue 195).run Tryz.prog W = .ok (.agg ⟨waitZ⟩) W := fun W => by kernel_rfl
  have h5 : ∀ W : World, (Builtin.append_ #[181, 181] 181 #[.slice (some ⟨g, 0, none⟩) 0 c, .slice (some q) 0 (c - 1)]).run Tryz.prog W = .ok (.slice (some ⟨g, 0, none⟩) 0 c) W := fun W => by
    simp [Builtin.append_, run_underlying Tryz.underlying181, hz, Builtin.lenOf, Builtin.firstCells, loadCells, loadCellsFrom, storeCells]
  have hst : ∀ nq, (storeCells ⟨g, 0, none⟩ waitZ).run Tryz.prog (w.drewN nq) = .ok () ((w.drewN nq).setCells g 0 waitZ) := fun nq => by
    have hgd : (w.drewN nq).heap[g]? = some (.cells cs 195 (0, 0)) := by simpa using hg
    revert hgd
    generalize w.drewN nq = W
    intro hgd
    have := run_storeCells_cells (P := Tryz.prog) g 0 waitZ 0 W (fun j hj => by
      have hj : j < 10 := hj
      rw [Ev.cell_row hgd, Array.getElem?_eq_getElem (by omega)]; rfl) (fun j hj => by simp [World.frozen?, hgd]) (List.all_eq_true.1 (by kernel_rfl))
    exact this
  have h6 : ∀ nq, (Builtin.clear_ #[181] 0 #[.slice (some ⟨g, 0, none⟩) 1 c]).run Tryz.prog (w.drewN nq) = .ok (.tuple #[]) ((w.drewN nq).setCells g 0 waitZ) := fun nq => by
    have e : (Builtin.zeroCells (Value.agg ⟨waitZ⟩).cells 1).toList = waitZ := by kernel_rfl
    simp [Builtin.clear_, run_underlying Tryz.underlying181, hzv, e, hst]
  have HS := Lib.hid hst
  clear hst hg hs hi hz hzv hcI
  go_enter Tryz.func307, Tryz.ntmps307
  go_wp2_with fail
  go_quiet (fail)
  go_wp2_with fail
  go_ret
  exact ⟨rfl, _, HS.out _⟩
open Ev (CallE CallOK St T Blk storeAt Inv Where VL VR Frm Stp Ext)
noncomputable def delQ : CallE := fun f args hp nx =>
  Bool.rec none (match args with
    | [.slice (some ⟨n, 0, none⟩) 1 c, .int .i64 i, .int .i64 j] => bif decide (i = 0) && decide (j = 1) && Nat.ble 1 c then (match hp.get n with
      | some (.row _ m ty) => bif Nat.beq ty 195 && Nat.beq m (c * 10) then (match storeAt hp n 0 waitZ with
        | some hp' => some (.slice (some ⟨n, 0, none⟩) 0 c, hp', nx)
        | none => none) else none
      | _ => none) else none
    | _ => none) (Nat.beq f 307)
theorem inv_drewN {P : Program} {β : Where} {hp : T Blk} {nx N0 : Nat} {w : World} (I : Inv P β hp nx N0 w) (k : Nat) : Inv P β hp nx N0 (w.drewN k) :=
  ⟨I.bnd, I.inj, fun n r b h h' => (I.hr n r b h h').kept (Ext.refl _) rfl, I.base, I.cln⟩
theorem below_drewN (N0 : Nat) (w : World) (k : Nat) : Below N0 w (w.drewN k) := ⟨rfl, rfl, rfl, Nat.le_refl _, fun _ _ => rfl⟩
theorem esz_wait : Ev.esz Tryz.prog 195 = 10 := by kernel_rfl
theorem delQ_sound (N0 : Nat) : CallOK Tryz.prog N0 delQ := by
  intro f args hp nx v hp' nx' h β w args' I hl
  obtain ⟨hf, h'⟩ := Ev.boolRec_some (show (Bool.rec none _ (Nat.beq f 307) : Option (Value × T Blk × Nat)) = some (v, hp', nx') from h)
  replace h := h'
  obtain rfl := Nat.eq_of_beq_eq_true hf
  split at h
  next n c i j =>
    match args', hl.1 with
    | [p, q1, q2], _ =>
      obtain ⟨r, hr, rfl⟩ := (hl.2 0 _ _ rfl rfl).sl_inv
      obtain rfl := (hl.2 1 _ _ rfl rfl).int_inv
      obtain rfl := (hl.2 2 _ _ rfl rfl).int_inv
      cases hb : (decide (i = 0) && decide (j = 1) && Nat.ble 1 c) with
      | false => rw [hb] at h; cases h
      | true =>
        rw [hb, cond_true] at h
        simp only [Bool.and_eq_true, decide_eq_true_eq] at hb
        obtain ⟨⟨rfl, rfl⟩, hc⟩ := hb
        have hc := Nat.le_of_ble_eq_true hc
        split at h
        next cs m ty hg =>
          cases hb : (Nat.beq ty 195 && Nat.beq m (c * 10)) with
          | false => rw [hb] at h; cases h
          | true =>
            rw [hb, cond_true] at h
            simp only [Bool.and_eq_true] at hb
            obtain rfl := Nat.eq_of_beq_eq_true hb.1
            obtain rfl := Nat.eq_of_beq_eq_true hb.2
            split at h
            next hp1 hs =>
              simp only [Option.some.injEq, Prod.mk.injEq] at h
              obtain ⟨rfl, rfl, rfl⟩ := h
              obtain ⟨cs', c1, c2, c3, c4⟩ := I.hr n r _ hr hg
              rw [esz_wait] at c2
              refine Calls.mono (del_one r.1 (c + r.2) cs' w c1 (by rw [c2, Nat.add_mul]) (by omega)) ?_
              rintro e w' ⟨rfl, nq, hst⟩
              obtain ⟨w2, q1, q2, q3, q4⟩ := Ev.store_sound (inv_drewN I nq) hs hr (Ev.flat_VL (l := waitZ) (by kernel_rfl))
              rw [hst] at q1
              obtain rfl : w' = w2 := by injection q1
              refine ⟨β, _, rfl, ⟨Ext.refl _, Nat.le_refl _, q2, (below_drewN N0 w nq).trans q3, fun k _ hk => ⟨hk, ?_⟩, ⟨fun g hg hf => q4.fr g hg hf, fun g hg => q4.fp g hg⟩⟩, VR.sl hr⟩
              unfold storeAt at hs
              rw [hg] at hs
              simp only at hs
              cases hcc : (Nat.ble (0 + waitZ.length) (c * 10) && waitZ.all Ev.one) with
              | false => rw [hcc] at hs; cases hs
              | true =>
                rw [hcc] at hs
                cases hs
                rw [Ev.T.get_set, if_neg]
                intro e; rw [e, hr] at hk; cases hk
            next => cases h
        next => cases h
  next => cases h
end Go.Proofs.YthponidjednfbaaGreatDoor
