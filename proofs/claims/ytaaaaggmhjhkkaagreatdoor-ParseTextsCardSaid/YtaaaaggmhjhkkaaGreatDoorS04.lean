/-
  Enl in one text.
-/
import Derived.HandedShaped
import Derived.Lay
import Derived.Stop.LaidErr
import Derived.Test.YtaaaaggmhjhkkaaGreatDoorTie
import Derived.Test.YtaaaaggmhjhkkaaGreatDoorS03
namespace Go.Proofs.YtaaaaggmhjhkkaaGreatDoor
open Go Go.ChangeShapes Go.WideShapes Go.ChangeAt Go.RowKit
theorem enl_own:ownKnob Tryz.prog.godebug=none:=by kernel_rfl
theorem g_most : Tryz.prog.globalNamed "strconv.ErrRange" = some 4 := by kernel_rfl
theorem t_rng:(Tryz.prog.globals[4]?).map (·.type)=some 82:=by kernel_rfl
theorem c_str:Tryz.prog.cellsOf 9=1:=by kernel_rfl
/-- the wrap of a row that lists variables, the world's shape kept -/
theorem wrap_and_shaped {H:Type} {enc:TypeId × Value→H} {a:Assume} {C:Checked} {os:Os} {f:FuncId} {fn:Func} {s:ChangeSpec} {conds:List PathCond} {apart fresh handsOn again:Bool} {X:World→Array Value→Prop}
  (hX:∀ (w w':World) (args:Array Value),w.heap=w'.heap→X w args→X w' args)
  (hown:ownKnob C.prog.godebug=none) (started:os.Started) (noInit:C.prog.inits.idxOf? f=none) (hfn:C.prog.funcs[f]?=some fn)
  (witness:∃ (w:World) (tape:Tape) (i:Input),w.os=os∧(w.forCall tape i).Shaped C.prog∧i.vars=[]∧Input.okWide C.prog (w.forCall tape i) .any w.heap.size f i ∧
   ((s.pre enc C.prog fn conds apart (w.forCall tape i).memory i.args∧X (w.forCall tape i).memory i.args)∧sizedMet enc C.prog fn (OpenSpec.ofChange s) apart (w.forCall tape i).memory i.args)∧a.holds C.prog (lone (Frame.enter C.prog f i.args .normal) [] (w.forCall tape i)))
  (contract:∀ (W:World) (base:Nat) (args:Array Value) (ds gs:List (DataW H)) (before:List MemPlace),
   (∀ (j:Nat) t v,fn.params[j]?=some t→args[j]?=some v→Value.okWide C.prog W .any base t v) →
   DataW.Whole enc C.prog fn.params.toList s.vars apart W args.toList ds gs before →
   (DataW.weightsEach C.prog (fn.params.toList++s.plain.varTypes C.prog) (ds++gs)).all (·≤reachBytes)=true→X W args→W.ShapedOpen C.prog →
   Calls C.prog f args W fun e W'=>∃ v,e=.returned v∧s.post enc C.prog fn apart fresh handsOn again W args v W') :
  ReturnsInHanded a C os f .any (fun w args=>(s.pre enc C.prog fn conds apart w args∧X w args)∧sizedMet enc C.prog fn (OpenSpec.ofChange s) apart w args) (s.post enc C.prog fn apart fresh handsOn again):=by
 refine returnsInHanded_of_calls hown started noInit witness ?_;intro w tape i _ hsh _ hok hpre _;obtain⟨_,_,_,fn',hfn',_,_,_,_,hval⟩:=hok;have e:fn'=fn:=Option.some.inj (hfn'.symm.trans hfn);subst e;obtain⟨⟨⟨ds,gs,before,hw,_⟩,hx⟩,hz⟩:=hpre;have hw':=DataW.Whole.of_heap (w':=w.forCall tape i) (by rfl) hw;refine(contract (w.forCall tape i) w.heap.size i.args ds gs before hval hw' (hz.weights hw) (hX _ _ _ (by rfl) hx) hsh).mono fun e W' ⟨v,he,hp⟩=>?_
 subst he;exact ChangeSpec.post_blind hp
abbrev laidL:List (String × DataW Unit):=Rows.parseBackRow.laid
theorem plainL:(laidL.all fun x=>x.2.handleName?.isNone)=true:=by kernel_rfl
theorem env_of_laid {W:World} (hL:laidMetH Tryz.prog laidL W) (hsh:W.ShapedOpen Tryz.prog):Env W:=by
 rw[MakeChecks.laidMetH_plain _ _ _ plainL]at hL;have h3:=hL.tail.tail;have h4:=h3.tail;refine⟨?_,?_,?_⟩
 ·exact Lib.tabIs_of_head (k:=.u64) (zs:=Lib.pow10Tab) (t:=182) (e:=78) (n:=20) (g:=2) (by kernel_rfl) (by kernel_rfl) Tryz.underlying182 Tryz.underlying78 (by kernel_rfl) (by kernel_rfl) h3
 ·exact cell_of_shapedOpen_int (t:=3) (zero:=#[.int .i64 0]) hsh (of_decide_eq_true (by kernel_rfl)) (by kernel_rfl) (by kernel_rfl) (by kernel_rfl) (by kernel_rfl) Tryz.underlying3
 ·obtain ⟨a, s, hv, _⟩ := laid_sentinel (tp := 197) (te := 199) (ts := 9) h4 g_most t_rng Tryz.underlying82 (typeName_ptr_named (nm := "errors.errorString") (by kernel_rfl) (by kernel_rfl) (by decide)) Tryz.underlying197 Tryz.underlying199 rfl rfl Tryz.underlying9 (by kernel_rfl) c_str
  exact⟨_,by rw[World.var?_cell g_most hv];rfl,.inr ⟨_,_,rfl⟩⟩
end Go.Proofs.YtaaaaggmhjhkkaaGreatDoor
