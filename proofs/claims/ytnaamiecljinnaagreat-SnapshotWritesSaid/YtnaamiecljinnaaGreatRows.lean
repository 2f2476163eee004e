/-
  NARROWER THAN 'FOR EVERY INPUT', by the rows' own cells (each row's printed sentence says how): SnapshotWrites: loops.
  DERIVED. THE GIVEN ROWS OF THIS SEAT. 3 by the template 'for every input the law returns true; each argument reads behind the call as it read before'; 0 by the template 'total and deterministic' (their statements: YtnaamiecljinnaaGreatTotals.lean).
  GIVEN WITH THE SEED: the statements are not yours to turn. If you find one false, say at which input.
  Laid BY PROGRAM, IN A SANDBOX (cutbox-rows.mjs): the forced cells as the released guide's own fill.sh prints them over the translation 3dee2f0b8f654f83… (all of the seat's roots in one cut). By AI agents, Wed Nov 11 2026. No macro, syntax, notation, axiom, sorry.
-/
import Derived.Test.YtnaamiecljinnaaGreatChecked
import GoSem.Claim
import GoSem.ClaimJoined
import GoSem.ClaimMapViews
import Derived.JoinedTies
import Derived.KernelRfl
namespace Go.Proofs.YtnaamiecljinnaaGreat
/- THE CELL 'sum', in the pinned program and in every row, IS THE sha256 OF THE DUMP (.gsa) THAT YtnaamiecljinnaaGreatProg.lean LOADS. Nothing in Lean hashes anything: it is a label: what it is worth is what the hold of that sum in a sandbox is worth. -/
noncomputable def Tryz.pinned : Pinned := { name := "ytnaamiecljinnaagreat", sum := "3dee2f0b8f654f8355916dc605740ab0178740a9a2882fcf60293ce28bdbbb60", checked := Tryz.checked }
namespace Rows
def none {H : Type} : Left H := { results := [], args := [] }

/-- 'basculelaw27.SnapshotWrites': WHATEVER THE INPUT: true; the input reads as it did. -/
def snapshotWritesSpec : ChangeSpec := { name := "snapshotWrites", fn := fun _ => fun
  | [d] => { results := [.lit (.bool true)], args := [d] }
  | _ => none }
def snapshotWritesRow : OpenClaim := { program := "ytnaamiecljinnaagreat", sum := "3dee2f0b8f654f8355916dc605740ab0178740a9a2882fcf60293ce28bdbbb60", func := "bascule/basculelaw27.SnapshotWrites", spec := "snapshotWrites", inPlace := ["internal/abi.NoEscape", "math.Float64frombits", "math.Float64bits"], unfollowed := true, recurses := true, loops := true, apart := false }
def SnapshotWritesSaid : Prop := snapshotWritesRow.holds Tryz.pinned (OpenSpec.ofChange snapshotWritesSpec)

/-- ITS FALSE NEIGHBOUR: 'it returns false'. Refute it at one input. -/
def snapshotWritesWrong : ChangeSpec := { name := "snapshotWrites", fn := fun _ => fun
  | [d] => { results := [.lit (.bool false)], args := [d] }
  | _ => none }
def SnapshotWritesWrongFalsely : Prop := snapshotWritesRow.holds Tryz.pinned (OpenSpec.ofChange snapshotWritesWrong)

/-- 'basculelaw27.SnapshotReads': WHATEVER THE INPUT: true; the input reads as it did. -/
def snapshotReadsSpec : ChangeSpec := { name := "snapshotReads", fn := fun _ => fun
  | [d] => { results := [.lit (.bool true)], args := [d] }
  | _ => none }
def snapshotReadsRow : OpenClaim := { program := "ytnaamiecljinnaagreat", sum := "3dee2f0b8f654f8355916dc605740ab0178740a9a2882fcf60293ce28bdbbb60", func := "bascule/basculelaw27.SnapshotReads", spec := "snapshotReads", inPlace := ["internal/abi.NoEscape", "math.Float64frombits", "math.Float64bits"], unfollowed := true, recurses := true, apart := false }
def SnapshotReadsSaid : Prop := snapshotReadsRow.holds Tryz.pinned (OpenSpec.ofChange snapshotReadsSpec)

/-- ITS FALSE NEIGHBOUR: 'it returns false'. Refute it at one input. -/
def snapshotReadsWrong : ChangeSpec := { name := "snapshotReads", fn := fun _ => fun
  | [d] => { results := [.lit (.bool false)], args := [d] }
  | _ => none }
def SnapshotReadsWrongFalsely : Prop := snapshotReadsRow.holds Tryz.pinned (OpenSpec.ofChange snapshotReadsWrong)

/-- 'basculelaw27.SnapshotDiffers': WHATEVER THE INPUT: true; the input reads as it did. -/
def snapshotDiffersSpec : ChangeSpec := { name := "snapshotDiffers", fn := fun _ => fun
  | [d1, d2] => { results := [.lit (.bool true)], args := [d1, d2] }
  | _ => none }
def snapshotDiffersRow : OpenClaim := { program := "ytnaamiecljinnaagreat", sum := "3dee2f0b8f654f8355916dc605740ab0178740a9a2882fcf60293ce28bdbbb60", func := "bascule/basculelaw27.SnapshotDiffers", spec := "snapshotDiffers", inPlace := ["internal/abi.NoEscape", "math.Float64frombits", "math.Float64bits", "internal/bytealg.abigen_runtime_cmpstring"], unfollowed := true, recurses := true, apart := false }
def SnapshotDiffersSaid : Prop := snapshotDiffersRow.holds Tryz.pinned (OpenSpec.ofChange snapshotDiffersSpec)

/-- ITS FALSE NEIGHBOUR: 'it returns false'. Refute it at one input. -/
def snapshotDiffersWrong : ChangeSpec := { name := "snapshotDiffers", fn := fun _ => fun
  | [d1, d2] => { results := [.lit (.bool false)], args := [d1, d2] }
  | _ => none }
def SnapshotDiffersWrongFalsely : Prop := snapshotDiffersRow.holds Tryz.pinned (OpenSpec.ofChange snapshotDiffersWrong)

/- THE SECOND FORM. 'bulk': how many values and letters a reading holds, each counted each time it is reached (what is shared counts as often as it is met; a slice's spare places count too). A statement '..UptoSaid' is the law's where the arguments, and the package variables that the reading takes, are together of bulk at most 1048576: NARROWER than '..Said'. Prove '..Said' where nothing that the law and all that it calls make is longer than what came in: it says more and counts as full. Else prove '..UptoSaid'. A law counts once. -/
mutual
def uptoBulk {H : Type} : DataW H → Nat
  | .lit (.string bytes) => bytes.length + 1
  | .lit _ => 1
  | .nil => 1
  | .ptr d => uptoBulk d + 1
  | .slice elems spare => uptoBulkAll elems + uptoBulkAll spare + 1
  | .agg parts => uptoBulkAll parts + 1
  | .iface _ d => uptoBulk d + 1
  | .map entries => uptoBulkEntries entries + 1
  | .held _ => 1
def uptoBulkAll {H : Type} : List (DataW H) → Nat
  | [] => 0
  | d :: r => uptoBulk d + uptoBulkAll r
def uptoBulkEntries {H : Type} : List (Lit × DataW H) → Nat
  | [] => 0
  | x :: r => uptoBulkEntry x + uptoBulkEntries r
def uptoBulkEntry {H : Type} : Lit × DataW H → Nat
  | (.string bytes, d) => bytes.length + uptoBulk d + 1
  | (_, d) => uptoBulk d + 1
 end
def uptoSmall : (H : Type) → List (DataW H) → Bool := fun _ ds => decide (uptoBulkAll ds ≤ 1048576)
def OpenSpec.upto (s : _root_.Go.ChangeSpec) : _root_.Go.OpenSpec := { _root_.Go.OpenSpec.ofChange s with cond := some uptoSmall }

/-- 'basculelaw27.SnapshotWrites', WHERE WHAT IT READS IS OF BULK AT MOST 1048576: true; the input reads as it did. -/
def snapshotWritesUptoRow : OpenClaim := { program := "ytnaamiecljinnaagreat", sum := "3dee2f0b8f654f8355916dc605740ab0178740a9a2882fcf60293ce28bdbbb60", func := "bascule/basculelaw27.SnapshotWrites", spec := "snapshotWrites", inPlace := ["internal/abi.NoEscape", "math.Float64frombits", "math.Float64bits"], unfollowed := true, recurses := true, loops := true, apart := false, narrowed := true }
def SnapshotWritesUptoSaid : Prop := snapshotWritesUptoRow.holds Tryz.pinned (OpenSpec.upto snapshotWritesSpec)

/-- 'basculelaw27.SnapshotReads', WHERE WHAT IT READS IS OF BULK AT MOST 1048576: true; the input reads as it did. -/
def snapshotReadsUptoRow : OpenClaim := { program := "ytnaamiecljinnaagreat", sum := "3dee2f0b8f654f8355916dc605740ab0178740a9a2882fcf60293ce28bdbbb60", func := "bascule/basculelaw27.SnapshotReads", spec := "snapshotReads", inPlace := ["internal/abi.NoEscape", "math.Float64frombits", "math.Float64bits"], unfollowed := true, recurses := true, apart := false, narrowed := true }
def SnapshotReadsUptoSaid : Prop := snapshotReadsUptoRow.holds Tryz.pinned (OpenSpec.upto snapshotReadsSpec)

/-- 'basculelaw27.SnapshotDiffers', WHERE WHAT IT READS IS OF BULK AT MOST 1048576: true; the input reads as it did. -/
def snapshotDiffersUptoRow : OpenClaim := { program := "ytnaamiecljinnaagreat", sum := "3dee2f0b8f654f8355916dc605740ab0178740a9a2882fcf60293ce28bdbbb60", func := "bascule/basculelaw27.SnapshotDiffers", spec := "snapshotDiffers", inPlace := ["internal/abi.NoEscape", "math.Float64frombits", "math.Float64bits", "internal/bytealg.abigen_runtime_cmpstring"], unfollowed := true, recurses := true, apart := false, narrowed := true }
def SnapshotDiffersUptoSaid : Prop := snapshotDiffersUptoRow.holds Tryz.pinned (OpenSpec.upto snapshotDiffersSpec)

end Rows
end Go.Proofs.YtnaamiecljinnaaGreat
