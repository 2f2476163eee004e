/-
  The law PackCmds: for every input the call returns true, and each argument reads afterwards as before. The listed variables are as the program's text lays them; no other condition.
-/
import Derived.Test.YtepaaochgljcdaaGreatDoorCards
import Derived.Test.YtepaaochgljcdaaGreatDoorEnw
import Derived.Test.YtepaaochgljcdaaGreatDoorS21
import Derived.Test.YtepaaochgljcdaaGreatDoorS23
set_option maxRecDepth 100000
set_option maxHeartbeats 4000000
namespace Go.Proofs.YtepaaochgljcdaaGreatDoor
open Go Go.ChangeShapes Go.WideShapes Go.ChangeAt Go.RowKit
open Go.ChangeMaps (open_string shut_string)
namespace PPackCmds
theorem laidOutP:laidOutB Tryz.prog=true:=by kernel_rfl
theorem int_of_wf {n:Int} (h:(Lit.int .i64 n).wf=true) : -9223372036854775808≤n∧n≤9223372036854775807:=by
 simp only[Lit.wf,IntKind.min,IntKind.max,IntKind.signed,IntKind.bits,Bool.and_eq_true,decide_eq_true_eq]at h;exact⟨by have:=h.1;simpa using this,by have:=h.2;simpa using this⟩
theorem lifted (os:Os) (started:os.Started) (H:Type) (enc:TypeId × Value→H) :
  ReturnsInHanded {} Tryz.checked os 3 .any (fun w args=>(Rows.packCmdsSpec.pre enc Tryz.prog Tryz.f3 [] false w args∧laidMetH Tryz.prog Rows.packCmdsRow.laid w)∧sizedMet enc Tryz.prog Tryz.f3 (OpenSpec.ofChange Rows.packCmdsSpec) false w args)
   (Rows.packCmdsSpec.post enc Tryz.prog Tryz.f3 false true false false):=by
 refine wrap_and_shaped (C:=Tryz.checked) (X:=fun w _=>laidMetH Tryz.prog Rows.packCmdsRow.laid w) (fun _ _ _ hh h=>h.of_heap hh) enl_own started (by kernel_rfl) Tryz.func3
  (ChangeSpec.witness_shaped (enc:=enc) (C:=Tryz.checked) (os:=os) (X:=fun w _=>laidMetH Tryz.prog Rows.packCmdsRow.laid w) false (World.laidAll Tryz.prog os Rows.packCmdsRow.laid) #[.agg #[.int .i64 0,.int .i64 0,.int .i64 0,.int .i64 0,.int .i64 0,.int .i64 0,.int .i64 0,.float .f64 0,.string ⟨#[]⟩,.slice none 0 0,.slice none 0 0,.int .i64 0,.int .i64 0,.float .f64 0,.string ⟨#[]⟩,.slice none 0 0,.slice none 0 0],.string ⟨#[]⟩,.string ⟨#[]⟩,.int .i64 0] 8 (World.laidAll_os _ _ _)
   (World.shaped_of_ZipB (by kernel_rfl) (by kernel_rfl)) (by kernel_rfl) (by kernel_rfl) (by kernel_rfl)
   (by rw[MakeChecks.laidMetH_plain _ _ _ (by kernel_rfl)];exact laidMet_laidAll _ (by kernel_rfl) (by kernel_rfl))) ?_
 intro W base args ds gs before hval0 hW hsz hL hsh;have hval:∀ (j:Nat) t v,Tryz.f3.params[j]?=some t→args[j]?=some v→Value.okWide Tryz.prog W .any base t v:=hval0;have hW':=hW;obtain⟨p,q,hA0,hV,rfl,_,_⟩:=hW;have hA:DataW.TrodAll enc Tryz.prog W 0 (fun _=>true) true Tryz.f3.params.toList args.toList ds p:=hA0;rw[Tryz.params3]at hA hval;have hlt:∀ x ∈ p,x.block<W.heap.size:=fun x hx=>by simpa using hW'.lt x (by simp[hx])
 obtain⟨v0,v1,v2,v3,d0,d1,d2,d3,p0,p1,p2,p3,rfl,rfl,rfl,h0,h1,h2,h3⟩:=trodAll_four hA;obtain⟨rfl,rfl⟩:=trodVars_none hV;have h0k:=h0;obtain⟨cs0,rfl,_⟩:=okWide_struct Tryz.underlying30 (hval 0 30 v0 rfl rfl);obtain⟨x1,rfl,rfl,rfl,wx1⟩:=Go.ChangeMaps.open_string Tryz.underlying9 (hval 1 9 v1 rfl rfl) h1;obtain⟨x2,rfl,rfl,rfl,wx2⟩:=Go.ChangeMaps.open_string Tryz.underlying9 (hval 2 9 v2 rfl rfl) h2;obtain⟨x3,rfl,rfl,rfl,wx3⟩:=Go.ChangeShapes.open_int Tryz.underlying3 (hval 3 3 v3 rfl rfl) h3;simp only[List.append_nil]at hW';have hcall:Calls Tryz.prog 3 #[.agg cs0,.string x1,.string x2,.int .i64 x3] W (Gave (.bool true) W):=by
  obtain⟨fuel0,hf0⟩:=h0;have hz0:Sized Tryz.prog 30 d0:=fun n hn=>by
   have:=List.all_eq_true.1 hsz n (DataW.weights_mem_each (j:=0) (t:=30) (by rw[Tryz.params3];rfl) rfl n hn);simpa using this
  obtain⟨x0,hx0⟩:=open_cmd fuel0 _ _ hf0 hz0;exact packCmds_any fuel0 x0 _ x1 x2 x3 (int_of_wf wx3) W hx0
 refine hcall.mono fun e W' ⟨he,hb⟩=>?_
 subst he;exact⟨_,rfl,_,_,_,[],_,[],hW',trodAll_mk1 (shut_bool Tryz.underlying4 _),trodAll_mk4 (Below.trod laidOutP (by kernel_rfl) (of_decide_eq_true (by kernel_rfl)) h0k hb (fun x hx=>hlt x (by simp[hx]))) (shut_string Tryz.underlying9 wx1) (shut_string Tryz.underlying9 wx2) (shut_int Tryz.underlying3 wx3),rfl,hb.frame _,fun h=>by cases h⟩
/-- the closed facts on the calls, each by itself -/
theorem closed_rec:Tryz.prog.recurses 3=true:=by
 unfold Program.recurses;rw[Bool.or_eq_true];right;rw[List.any_eq_true];refine⟨79,List.contains_iff_mem.1 (by kernel_rfl:(Tryz.prog.closure 3).contains 79=true),?_⟩;rw[List.any_eq_true];exact⟨79,List.contains_iff_mem.1 (by kernel_rfl),by kernel_rfl⟩
theorem closed_all:joinedFacts Tryz.checked.prog 3 Tryz.f3 Rows.packCmdsSpec Rows.packCmdsRow=true:=by
 unfold joinedFacts;simp only[Bool.and_eq_true];repeat' apply And.intro
 all_goals as_aux_lemma=>kernel_rfl
theorem row_holds:Rows.PackCmdsSaid :=
 OpenClaim.holds_of_wide 3 Tryz.f3 rfl rfl rfl rfl rfl rfl rfl ⟨rfl,rfl,rfl,rfl,rfl⟩ rfl rfl rfl rfl rfl (by as_aux_lemma=>kernel_rfl) Tryz.func3 closed_all
  (of_decide_eq_true (by as_aux_lemma=>kernel_rfl)) (by unfold Func.isWrapper;rw[if_neg (of_decide_eq_false (by as_aux_lemma=>kernel_rfl))];exact⟨rfl,rfl⟩)
  (fun os started H enc _=>lifted os started H enc)
theorem holds:Rows.PackCmdsCardSaid :=
 Claim7.holds_tied_plain_at .later [] Rows.packCmdsCard.laidKinds true Rows.packCmdsCard.stood.harness Rows.packCmdsCard.stood.looks row_holds (fun _ h=>by cases h) (by as_aux_lemma=>kernel_rfl) (fun _ h=>by cases h) packCmds_row_tie rfl ⟨rfl,rfl⟩ (by as_aux_lemma=>kernel_rfl) rfl
  (fun f fn hf hfn=>by
   obtain rfl:f=3:=Option.some.inj ((show Tryz.prog.funcNamed Rows.packCmdsRow.func=some 3 by kernel_rfl).symm.trans hf) |>.symm;obtain rfl:fn=Tryz.f3:=(Option.some.inj (Tryz.func3.symm.trans hfn)).symm;exact⟨by as_aux_lemma=>kernel_rfl,fun j t ht=>by
    rw[Tryz.params3]at ht;have hm:t ∈ [30,9,9,3]:=by simpa using Array.mem_of_getElem? ht
    have hall:([30,9,9,3].all fun u=>!Tryz.prog.wantsStandIn u)=true:=by kernel_rfl
    exact(show Tryz.prog.wantsStandIn t=false by simpa using List.all_eq_true.1 hall t hm)⟩)
  (by as_aux_lemma=>kernel_rfl)
#print axioms holds
end PPackCmds
end Go.Proofs.YtepaaochgljcdaaGreatDoor
