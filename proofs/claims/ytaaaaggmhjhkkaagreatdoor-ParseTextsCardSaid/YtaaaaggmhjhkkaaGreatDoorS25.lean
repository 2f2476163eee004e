/-
  Tr in one text.
-/
import Derived.Lib.AppendZerosOnto
import Derived.Shelf.Spec.SlicesInsert
import Derived.Test.YtaaaaggmhjhkkaaGreatDoorS24
import Derived.Test.YtaaaaggmhjhkkaaGreatDoorCl
set_option maxRecDepth 100000
set_option maxHeartbeats 4000000
namespace Go.Proofs.YtaaaaggmhjhkkaaGreatDoor
open Go.RowKit
/-- what an insertion leaves: a row with the elements ys; nothing else but the old row is changed -/
def InsPost (base:Nat) (T:TypeId) (size:Nat) (w:World) (v:Value) (n:Nat) (ys:List Value) (e:Ending) (w':World):Prop :=
 ∃ g cap,e=.returned (.slice (some ⟨g,0,none⟩) (n+1) cap)∧w'.ownsRow base T size (.slice (some ⟨g,0,none⟩) (n+1) cap) (n+1) ys∧w.grownBy w' v.ownBlock∧(v.ownBlock=some g∨w.heap.size≤g)∧g<w'.heap.size
theorem run_copy_rowW {P:Program} (w:World) (dT sT ty elem:TypeId) (size g o dLen dCap:Nat) (a:Addr) (sLen sCap:Nat) (cur:Array Value) (t:TypeId) (cs:List Value)
  (hu:P.underlying dT=some (.slice elem)) (hs:∀ w,(Go.sizeOf elem).run P w=.ok size w)
  (hg:w.heap[g]?=some (.cells cur t (0,0))) (hn:cs.length=Nat.min sLen dLen*size)
  (hsrc:∀ j v,cs[j]?=some v→w.cell? (a.add j)=some v) (hfit:o+cs.length≤cur.size) (h1:∀ v ∈ cs,v.oneCell'=true) :
  (Builtin.copy_ #[dT,sT] ty #[.slice (some ⟨g,o,none⟩) dLen dCap,.slice (some a) sLen sCap]).run P w =
   .ok (goInt (Nat.min sLen dLen)) (w.setRow g (cur.toList.take o++cs++cur.toList.drop (o+cs.length)).toArray):=by
 have hl:=run_firstCells_some (P:=P) w size (Nat.min sLen dLen) a sLen sCap cs hn hsrc;have hst:=run_storeCells_at P g o t cs 0 cur w hg (by simpa using hfit) h1;simp[Builtin.copy_,run_underlying hu,Builtin.lenOf,hs,hl,hst]
theorem ins_len (L X:List Value) (I K N:Nat) (hI:I≤N) (hX:X.length=N - I) (hL:N+K≤L.length) :
  (L.take (I+K)++X++L.drop (I+K+X.length)).length=L.length:=by
 simp only[List.length_append,List.length_take,List.length_drop];omega
/-- what stood behind is moved on, then the new is laid into the gap -/
theorem ins_shift (L X news:List Value) (I K N:Nat) (hI:I≤N) (hK:news.length=K) (hX:X.length=N - I) (hL:N+K≤L.length) :
  ((L.take (I+K)++X++L.drop (I+K+X.length)).take I++news++(L.take (I+K)++X++L.drop (I+K+X.length)).drop (I+news.length)).take (N+K)=L.take I++news++X:=by
 have hA:(L.take (I+K)).length=I+K:=by rw[List.length_take];omega
 have e1:(L.take (I+K)++X++L.drop (I+K+X.length)).take I=L.take I:=by
  rw[List.append_assoc,List.take_append_of_le_length (by omega),List.take_take];congr 1;omega
 have e2:(L.take (I+K)++X++L.drop (I+K+X.length)).drop (I+news.length)=X++L.drop (I+K+X.length):=by
  rw[List.append_assoc,hK,List.drop_left' hA]
 rw[e1,e2,←List.append_assoc];apply List.take_left'
 simp only[List.length_append,List.length_take];omega
/-- the new is laid, then what stood behind -/
theorem ins_fresh (L A X news:List Value) (I K N:Nat) (hA:A.length=I) (hAL:L.take I=A) (hI:I≤N) (hK:news.length=K) (hX:X.length=N - I) :
  ((L.take I++news++L.drop (I+news.length)).take (I+K)++X++(L.take I++news++L.drop (I+news.length)).drop (I+K+X.length)).take (N+K)=A++news++X:=by
 have e1:(L.take I++news++L.drop (I+news.length)).take (I+K)=A++news:=by
  rw[hAL];apply List.take_left'
  rw[List.length_append];omega
 rw[e1];apply List.take_left'
 simp only[List.length_append];omega
theorem RowsE.namePut {P f a:Nat} {ns:List (List UInt8)} {its:List ET} {pn pi:Value} {w w':World} {s:List UInt8} {g cap:Nat} (h:RowsE P f ns its pn pi w)
  (hown:w'.ownsRow (P+1) 9 1 (.slice (some ⟨g,0,none⟩) (ns.length+1) cap) (ns.length+1) ((ns.map fun s=>.string ⟨s.toArray⟩).take a++[.string ⟨s.toArray⟩]++(ns.map fun s=>.string ⟨s.toArray⟩).drop a))
  (ha:a≤ns.length) (hgr:w.grownBy w' pn.ownBlock) (hat:pn.ownBlock=some g∨w.heap.size≤g):RowsE P f (ns.take a++s::ns.drop a) its (.slice (some ⟨g,0,none⟩) (ns.length+1) cap) pi w':=by
 obtain⟨hn,⟨xs,h1,h2⟩,ne⟩:=h;have hpi:∀ k,pi.ownBlock=some k→k<w.heap.size∧pn.ownBlock≠some k:=fun k hk=>⟨(own_lt h1 hk).2,fun e=>ne k e hk⟩
 have hlen:(ns.take a++s::ns.drop a).length=ns.length+1:=by simp;omega
 have hmap:((ns.take a++s::ns.drop a).map fun s=>Value.string ⟨s.toArray⟩)=(ns.map fun s=>.string ⟨s.toArray⟩).take a++[.string ⟨s.toArray⟩]++(ns.map fun s=>.string ⟨s.toArray⟩).drop a:=by
  rw[List.map_append,List.map_cons,List.map_take,List.map_drop,List.append_assoc];rfl
 refine⟨by rw[hlen,hmap];exact hown,⟨xs,h1.kept hgr ?_,fun i hi=>?_⟩,fun k hk e=>?_⟩
 ·rcases hv:pi.ownBlock with _|k
  ·exact .inl rfl
  ·exact .inr fun e=>(hpi k hv).2 e.symm
 ·obtain⟨ds,d1,d2,d3⟩:=h2 i hi;refine⟨ds,d1,d2.grown hgr fun k hS hk=>⟨⟨hS.1,fun e=>?_,hS.2.2⟩,fun e=>hS.2.1 e.symm⟩,d3⟩;simp[Value.ownBlock]at e;subst e;rcases hat with hat|hat
  ·exact hS.2.1 hat
  ·omega
 ·simp[Value.ownBlock]at hk;subst hk;obtain⟨k1,k2⟩:=hpi _ e;rcases hat with hat|hat
  ·exact k2 hat
  ·omega
theorem RowsE.itemPut {P f a:Nat} {ns:List (List UInt8)} {its:List ET} {pn pi:Value} {w w':World} {v:ET} {ds:Array Value} {g cap:Nat} {xs:List Value} (h:RowsE P f ns its pn pi w)
  (hx:w.ownsRow (P+1) 29 10 pi its.length xs) (hd:ds.size=10) (hv:ExIn (Sep P pn pi) w f v ds)
  (hown:w'.ownsRow (P+1) 29 10 (.slice (some ⟨g,0,none⟩) (its.length+1) cap) (its.length+1) (xs.take (a*10)++ds.toList++xs.drop (a*10)))
  (ha:a≤its.length) (hgr:w.grownBy w' pi.ownBlock) (hat:pi.ownBlock=some g∨w.heap.size≤g):RowsE P f ns (its.take a++v::its.drop a) pn (.slice (some ⟨g,0,none⟩) (its.length+1) cap) w':=by
 obtain⟨hn,⟨ys,h1,h2⟩,ne⟩:=h;have hyx:ys=xs:=by
  rcases h1.2 with ⟨e1,e2⟩|⟨g1,cap1,cur1,e1,_,e3,_,_,_,e7⟩
  ·rcases hx.2 with ⟨_,_⟩|⟨g2,cap2,cur2,k1,_⟩
   ·have a:=h1.1;have b:=hx.1;rw[e2]at a b;simp at a b;rw[a,b]
   ·rw[e1]at k1;cases k1
  ·rcases hx.2 with ⟨k1,_⟩|⟨g2,cap2,cur2,k1,_,k3,_,_,_,k7⟩
   ·rw[e1]at k1;cases k1
   ·rw[e1]at k1;injection k1 with k1
    injection k1 with k1
    injection k1 with k1
    subst k1;rw[e3]at k3;injection k3 with k3
    injection k3 with k3
    subst k3;rw[←e7,←k7]
 subst hyx;have hpn:∀ k,pn.ownBlock=some k→k<w.heap.size∧pi.ownBlock≠some k:=fun k hk=>⟨(own_lt hn hk).2,ne k hk⟩
 have keep:∀ {x:ET} {cs:Array Value},ExIn (Sep P pn pi) w f x cs→ExIn (Sep P pn (.slice (some ⟨g,0,none⟩) (its.length+1) cap)) w' f x cs:=fun h=>h.grown hgr fun k hS hk=>⟨⟨hS.1,hS.2.1,fun e=>by
  simp[Value.ownBlock]at e;subst e;rcases hat with hat|hat
  ·exact hS.2.2 hat
  ·omega⟩,fun e=>hS.2.2 e.symm⟩
 have hl:ys.length=its.length*10:=h1.1;have hlen:(its.take a++v::its.drop a).length=its.length+1:=by simp;omega
 have tl:(ys.take (a*10)).length=a*10:=by rw[List.length_take];omega
 have il:(its.take a).length=a:=by rw[List.length_take];omega
 refine⟨hn.kept hgr ?_,⟨_,by rw[hlen];exact hown,fun i hi=>?_⟩,fun k hk e=>?_⟩
 ·rcases hv':pn.ownBlock with _|k
  ·exact .inl rfl
  ·exact .inr fun e=>(hpn k hv').2 e.symm
 ·rw[hlen]at hi;rcases Nat.lt_trichotomy i a with hlt|rfl|hgt
  ·obtain⟨cs,d1,d2,d3⟩:=h2 i (by omega);refine⟨cs,d1,?_,fun j hj=>?_⟩
   ·rw[show(its.take a++v::its.drop a).getD i noET=its.getD i noET by
     rw[List.getD,List.getD,List.getElem?_append_left (by omega),List.getElem?_take,if_pos hlt]]
    exact keep d2
   ·rw[List.append_assoc,List.getElem?_append_left (by omega),List.getElem?_take,if_pos (by omega)];exact d3 j hj
  ·refine⟨ds,hd,?_,fun j hj=>?_⟩
   ·rw[show(its.take i++v::its.drop i).getD i noET=v by
     rw[List.getD,List.getElem?_append_right (by omega),il,Nat.sub_self];rfl]
    exact keep hv
   ·rw[List.append_assoc,List.getElem?_append_right (by omega),List.getElem?_append_left (by simp;omega),tl,show i*10+j - i*10=j by omega];simp
  ·obtain⟨cs,d1,d2,d3⟩:=h2 (i - 1) (by omega);refine⟨cs,d1,?_,fun j hj=>?_⟩
   ·rw[show(its.take a++v::its.drop a).getD i noET=its.getD (i - 1) noET by
     rw[List.getD,List.getD,List.getElem?_append_right (by omega),il,show i - a=(i - 1 - a)+1 by omega,List.getElem?_cons_succ,List.getElem?_drop,show a+(i - 1 - a)=i - 1 by omega]]
    exact keep d2
   ·rw[List.getElem?_append_right (by rw[List.length_append,tl];simp;omega),List.length_append,tl,List.getElem?_drop];have e9:a*10+(i*10+j - (a*10+ds.toList.length))=(i - 1)*10+j:=by simp;omega
    rw[e9];exact d3 j hj
 ·simp[Value.ownBlock]at e;subst e;obtain⟨k1,k2⟩:=hpn _ hk;rcases hat with hat|hat
  ·exact k2 hat
  ·omega
theorem zero_Ei:(Tryz.prog.info? 29).map (fun i=>(i.zero,i.size,i.bytes))=some (some (.agg #[.int .i64 0,.string ⟨#[]⟩,.int .i64 0,.int .i64 0,.float .f64 0,.string ⟨#[]⟩,.slice none 0 0,.slice none 0 0,.slice none 0 0,.slice none 0 0]),10,160):=by kernel_rfl
theorem insSz_E (w:World):(Go.sizeOf 29).run Tryz.prog w=.ok 10 w:=by
 obtain⟨i0,hi0,hz0,hzs,hzb⟩:=Go.info_parts zero_Ei;simp[sizeOf,typeInfo,hi0,hzs]
theorem insE_E (base:Nat) (w:World) (v:Value) (n vb:Nat) (xs news:List Value) (hown:w.ownsRow base 29 10 v n xs) (hn:n≤100000) (hvb:w.heap[vb]?=some (.cells news.toArray 29 (0,0))) (hnl:news.length=10) (h1:∀ u ∈ news,u.oneCell'=true) (hbase:base≤w.heap.size) :
  Calls Tryz.prog 196 #[v,.int .i64 (n:Nat),.slice (some ⟨vb,0,none⟩) 1 1] w (InsPost base 29 10 w v n (xs++news)):=by
 obtain⟨i0,hi0,hz0,hzs,hzb⟩:=Go.info_parts zero_Ei;have HII:=zh hi0;have HZ0:=zh hz0;have HZ1:=zh hzs;have HZ2:=zh hzb;clear hi0 hz0 hzs hzb;have hnews:=World.news_of_block (cs:=news.toArray) (t:=29) (fr:=(0,0)) hvb;have HN:=zh hnews;have HO:=zh hown;have HO1:=zh h1;clear hnews hown h1;rcases(show(v=.slice none 0 0∧n=0)∨∃ g cap,v=.slice (some ⟨g,0,none⟩) n cap∧n≤cap from by
  rcases HO.out.2 with h|⟨g,cap,cur,hv,_,_,h5,_⟩
  ·exact .inl h
  ·exact .inr ⟨g,cap,hv,h5⟩)with ⟨rfl,rfl⟩|⟨g,cap,rfl,hgc⟩
 ·go_in;go_wp2_with (at_builtin;refine wpList_append_lies _ rfl _ _ 27 rfl base 29 i0 _ 10 160 Tryz.underlying27 HII.out HZ0.out HZ1.out HZ2.out rfl (by omega) _ _ _ rfl HO.out ⟨vb,0,none⟩ 1 1 news rfl (by omega) HN.out HO1.out (by omega) (by unfold maxLen;omega) (by omega) hbase _ rfl ?_;intro g cap u4 hown4 hgrow hat hlt)
  go_ret;exact⟨g,cap,rfl,hown4,hgrow,hat.imp id (fun h=>Nat.le_of_eq h.symm),hlt⟩
 ·go_in;go_wp2_with (at_builtin;refine wpList_append_lies _ rfl _ _ 27 rfl base 29 i0 _ 10 160 Tryz.underlying27 HII.out HZ0.out HZ1.out HZ2.out rfl (by omega) _ _ _ rfl HO.out ⟨vb,0,none⟩ 1 1 news rfl (by omega) HN.out HO1.out (by omega) (by unfold maxLen;omega) (by omega) hbase _ rfl ?_;intro g cap u4 hown4 hgrow hat hlt)
  all_goals
   go_ret;exact⟨_,_,rfl,hown4,hgrow,hat.imp id (fun h=>Nat.le_of_eq h.symm),hlt⟩
theorem insShift_E (base:Nat) (w:World) (g cap i n vb:Nat) (cur:Array Value) (news:List Value) (hi:i<n) (hn:n≤100000) (hcap:n+1≤cap) (hcm:cap≤maxLen) (hg:w.heap[g]?=some (.cells cur 29 (0,0))) (hcs:cur.size=cap*10) (hbg:base≤g) (hvb:w.heap[vb]?=some (.cells news.toArray 29 (0,0))) (hvg:vb≠g) (hnl:news.length=10) (h1:∀ u ∈ news,u.oneCell'=true) (h1c:∀ u ∈ cur.toList.take (n*10),u.oneCell'=true) :
  Calls Tryz.prog 196 #[.slice (some ⟨g,0,none⟩) n cap,.int .i64 (i:Nat),.slice (some ⟨vb,0,none⟩) 1 1] w (InsPost base 29 10 w (.slice (some ⟨g,0,none⟩) n cap) n (cur.toList.take (i*10)++news++(cur.toList.take (n*10)).drop (i*10))):=by
 have hll:cur.toList.length=cap*10:=by simpa using hcs
 have hcm2:cap≤9223372036854775807:=by unfold maxLen at hcm;omega
 have hXl:((cur.toList.take (n*10)).drop (i*10)).length=n*10 - i*10:=by rw[List.length_drop,List.length_take];omega
 obtain⟨X,hX⟩:∃ X,X=(cur.toList.take (n*10)).drop (i*10):=⟨_,rfl⟩;rw[←hX]at hXl ⊢
 obtain⟨c1,hc1⟩:∃ c1:Array Value,c1=(cur.toList.take ((i+1)*10)++X++cur.toList.drop ((i+1)*10+X.length)).toArray:=⟨_,rfl⟩;have hc1l:c1.toList=cur.toList.take (i*10+10)++X++cur.toList.drop (i*10+10+X.length):=by rw[hc1,show(i+1)*10=i*10+10 by omega]
 have hc1s:c1.size=cap*10:=by
  have:=ins_len cur.toList X (i*10) 10 (n*10) (by omega) hXl (by omega);rw[←hc1l,hll]at this;simpa using this
 obtain⟨c2,hc2⟩:∃ c2:Array Value,c2=(c1.toList.take (i*10)++news++c1.toList.drop (i*10+news.length)).toArray:=⟨_,rfl⟩;have hc2s:c2.size=cap*10:=by
  rw[hc2];simp only[List.size_toArray,List.length_append,List.length_take,List.length_drop,Array.length_toList,hc1s,hnl];omega
 have hfin:c2.toList.take ((n+1)*10)=cur.toList.take (i*10)++news++X:=by
  have:=ins_shift cur.toList X news (i*10) 10 (n*10) (by omega) hnl hXl (by omega);rw[←hc1l]at this;rw[hc2,show(n+1)*10=n*10+10 by omega];exact this
 obtain⟨i0,hi0,hz0,hzs,hzb⟩:=Go.info_parts zero_Ei;have hgl:=lt_of_block hg;have hcp1:∀ ty dc sc,(Builtin.copy_ #[27,27] ty #[.slice (some ⟨g,(i+1)*10,none⟩) (n - i) dc,.slice (some ⟨g,i*10,none⟩) (n+1 - i) sc]).run Tryz.prog w.drew=.ok (goInt (n - i:Nat)) (w.drew.setRow g c1):=fun ty dc sc=>by
  have hmin:Nat.min (n+1 - i) (n - i)=n - i:=by simp only[Nat.min_def];split<;>omega
  have h:=run_copy_rowW (P:=Tryz.prog) w.drew 27 27 ty 29 10 g ((i+1)*10) (n - i) dc ⟨g,i*10,none⟩ (n+1 - i) sc cur 29 X Tryz.underlying27 insSz_E hg (by rw[hmin,hXl,Nat.sub_mul])
   (fun j v hj=>by
    rw[hX,List.getElem?_drop]at hj;rw[Addr.add_lit,zc (show w.drew.heap[g]?=_ from hg)];rw[List.getElem?_take]at hj;split at hj
    ·simpa using hj
    ·cases hj) (by rw[hXl];omega) (fun v hv=>h1c v (by rw[hX]at hv;exact List.mem_of_mem_drop hv))
  rw[hmin,←hc1]at h;exact h
 have hrow:(w.drew.setRow g c1).heap[g]?=some (.cells c1 29 (0,0)):=setRow_heap _ g cur c1 29 (0,0) hg;have hnew:=World.news_of_block (w:=w.drew.setRow g c1) (B:=vb) (cs:=news.toArray) (t:=29) (fr:=(0,0)) ((setRow_other _ g vb c1 hvg).trans hvb);have hcp2:∀ (W:World),W=w.drew.setRow g c1→∀ ty dc,(Builtin.copy_ #[27,27] ty #[.slice (some ⟨g,i*10,none⟩) (n+1 - i) dc,.slice (some ⟨vb,0,none⟩) 1 1]).run Tryz.prog W=.ok (goInt 1) ((w.drew.setRow g c1).setRow g c2):=fun W hW ty dc=>by
  subst hW;have hmin:Nat.min 1 (n+1 - i)=1:=by simp only[Nat.min_def];split<;>omega
  have h:=run_copy_rowW (P:=Tryz.prog) (w.drew.setRow g c1) 27 27 ty 29 10 g (i*10) (n+1 - i) dc ⟨vb,0,none⟩ 1 1 c1 29 news Tryz.underlying27 insSz_E hrow (by rw[hmin,hnl]) (fun j v hj=>hnew j v (by simpa using hj)) (by rw[hnl];omega) h1;rw[hmin,←hc2]at h;exact h
 have hov:∀ lb cb,(callFunc 206 #[.slice (some ⟨vb,0,none⟩) 1 1,.slice (some ⟨g,(i+1)*10,none⟩) lb cb]).run Tryz.prog w=.ok (.value (.bool false)) w:=fun lb cb=>by
  rw[run_callFunc_extern Tryz.func206 (by kernel_rfl) (by kernel_rfl) (by kernel_rfl) (e:=Extern.SlicesOverlaps.overlaps #[27,27] #[4]) (by kernel_rfl),
   Lib.run_overlaps_apart w 27 4 29 Tryz.underlying27 10 insSz_E ⟨vb,0,none⟩ ⟨g,(i+1)*10,none⟩ 1 1 lb cb hvg 29 29 news.length cur.size (by simp[World.shape?,hvb]) (by simp[World.shape?,hg]) (by omega) (Lib.frozen_of_heap hvb 0) (Lib.frozen_of_heap hvb _)]
  rfl
 clear hi0 hz0 hzs hzb;have HOV:=zh hov;have HC1:=zh hcp1;have HC2:=zh hcp2;have HFin:InsPost base 29 10 w (.slice (some ⟨g,0,none⟩) n cap) n (cur.toList.take (i*10)++news++X) (.returned (.slice (some ⟨g,0,none⟩) (n+1) cap)) ((w.drew.setRow g c1).setRow g c2):=by
  refine⟨g,cap,rfl,⟨?_,.inr ⟨g,cap,c2,rfl,hbg,setRow_heap _ g c1 c2 29 (0,0) hrow,hcap,hcm,hc2s,hfin⟩⟩,?_,.inl rfl,by simpa using hgl⟩
  ·simp only[List.length_append,List.length_take,hnl,hXl,hll];have:i*10+10≤n*10:=by omega
   omega
  ·exact⟨rfl,rfl,rfl,by simp,fun k hk hne=>by
    have:k≠g:=fun e=>hne (by rw[e];rfl)
    rw[setRow_other _ g k c2 this,setRow_other _ g k c1 this];rfl⟩
 have HF:=zh HFin;have hz2:¬ ((i:Int)=(n:Int)):=by omega
 have hw1:IntKind.i64.wrap ((i:Int)+1)=(i:Int)+1:=by rw[IntKind.wrap_i64];omega
 have hw2:IntKind.i64.wrap ((n:Int)+1)=(n:Int)+1:=by rw[IntKind.wrap_i64];omega
 clear hcp1 hcp2 hov hfin hc2s hc1s hc1l hXl hll hrow hnew h1 h1c hX hc1 hc2 HFin hcs;have hz3:¬ ((cap:Int)<(n:Int)+1):=by omega
 have hb1:(0:Int)≤(i:Int)+1:=by omega
 have hin:i≤n:=by omega
 have htn:((i:Int)+1).toNat=i+1:=by omega
 have htm:((n:Int)+1).toNat=n+1:=by omega
 have hb2:¬ (cap=i+1):=by omega
 have hb3:(i:Int)≤(n:Int)+1:=by omega
 have hb4:¬ (cap=i):=by omega
 go_in;go_wp2_with (simp only[HOV.out])
 go_region_law (refine step_copy_runI rfl _ _ 27 27 rfl (.slice (some ⟨g,(i+1)*10,none⟩) (n - i) (cap - (i+1))) (.slice (some ⟨g,i*10,none⟩) (n+1 - i) (cap - i)) (by simp[Act.eval,Act.put]) (by simp[Act.eval,Act.put]) (HC1.out _ _ _) ?_)
 go_wp2_with (refine wpList_copy_runI _ rfl _ _ 27 27 rfl _ _ rfl rfl (HC2.out _ (by rfl) _ _) ?_)
 go_ret;exact HF.out
theorem insGrow_E (base:Nat) (w:World) (g i n vb:Nat) (cur:Array Value) (news:List Value) (hi:i<n) (hn:n≤100000) (hg:w.heap[g]?=some (.cells cur 29 (0,0))) (hcs:cur.size=n*10) (hbase:base≤w.heap.size) (hvb:w.heap[vb]?=some (.cells news.toArray 29 (0,0))) (hnl:news.length=10) (h1:∀ u ∈ news,u.oneCell'=true) (h1c:∀ u ∈ cur.toList,u.oneCell'=true) :
  Calls Tryz.prog 196 #[.slice (some ⟨g,0,none⟩) n n,.int .i64 (i:Nat),.slice (some ⟨vb,0,none⟩) 1 1] w (InsPost base 29 10 w (.slice (some ⟨g,0,none⟩) n n) n (cur.toList.take (i*10)++news++cur.toList.drop (i*10))):=by
 have hll:cur.toList.length=n*10:=by simpa using hcs
 obtain⟨i0,hi0,hz0,hzs,hzb⟩:=Go.info_parts zero_Ei;have hgl:=lt_of_block hg;have hvl:=lt_of_block hvb;have hold:(Builtin.firstCells i0.size i (.slice (some ⟨g,0,none⟩) i n)).run Tryz.prog w.drew=.ok (cur.toList.take (i*10)).toArray w.drew:=by
  rw[hzs];exact run_firstCells_some w.drew 10 i ⟨g,0,none⟩ i n (cur.toList.take (i*10)) (by rw[List.length_take];omega) (fun j v hj=>by
   rw[Addr.add_lit,zc (show w.drew.heap[g]?=_ from hg)];rw[List.getElem?_take]at hj;split at hj
   ·simpa using hj
   ·cases hj)
 obtain⟨G,hG⟩:∃ G,G=grownCap w (n+1) n 29:=⟨_,rfl⟩;have hGn:n+1≤G:=by rw[hG];exact grownCap_ge w _ _ _
 have hGm:G≤maxLen:=by rw[hG];exact grownCap_le_maxLen w (n+1) n 29 (by unfold maxLen;omega)
 have hG63:G≤9223372036854775807:=by unfold maxLen at hGm;omega
 obtain⟨ROW,hROW⟩:∃ ROW:Array Value,ROW=(cur.toList.take (i*10)).toArray++Builtin.zeroCells (Value.cells (.agg #[.int .i64 0,.string ⟨#[]⟩,.int .i64 0,.int .i64 0,.float .f64 0,.string ⟨#[]⟩,.slice none 0 0,.slice none 0 0,.slice none 0 0,.slice none 0 0])) (n+1 - i)++Builtin.zeroCells (Value.cells (.agg #[.int .i64 0,.string ⟨#[]⟩,.int .i64 0,.int .i64 0,.float .f64 0,.string ⟨#[]⟩,.slice none 0 0,.slice none 0 0,.slice none 0 0,.slice none 0 0])) (G - (n+1)):=⟨_,rfl⟩;have hrz:∀ ty,(Builtin.append_ #[27,3] ty #[.slice (some ⟨g,0,none⟩) i n,.int .i64 ((n:Int)+1 - (i:Int))]).run Tryz.prog w =
   .ok (.slice (some ⟨w.heap.size,0,none⟩) (n+1) G) (w.drew.alloc (.cells ROW 29)):=fun ty=>by
  have h:=Lib.run_append_grow_zeros w 27 3 ty 29 i0 _ .i64 .i64 Tryz.underlying27 Tryz.underlying3 hi0 hz0 (some ⟨g,0,none⟩) i n _ hold (n+1 - i) (by omega) (by omega) (by omega) (by omega) (by rw[hzb];omega) (by rw[hzb,show i+(n+1 - i)=n+1 by omega];exact growslice_fits (by omega) (by omega));rw[show i+(n+1 - i)=n+1 by omega,←hG,←hROW]at h;rw[show(n:Int)+1 - (i:Int)=((n+1 - i:Nat):Int) by omega];exact h
 have hRs:ROW.size=G*10:=by
  have:(i+(n+1 - i))+(G - (n+1))=G:=by omega
  rw[hROW];simp[Builtin.zeroCells,Value.cells,hll];omega
 have hRt:ROW.toList.take (i*10)=cur.toList.take (i*10):=by
  rw[hROW];simp only[Array.toList_append,List.append_assoc];exact List.take_left' (by rw[List.length_take];omega)
 obtain⟨c1,hc1⟩:∃ c1:Array Value,c1=(ROW.toList.take (i*10)++news++ROW.toList.drop (i*10+news.length)).toArray:=⟨_,rfl⟩;have hRl:ROW.toList.length=G*10:=by simpa using hRs
 have hXl:(cur.toList.drop (i*10)).length=n*10 - i*10:=by rw[List.length_drop,hll]
 obtain⟨X,hX⟩:∃ X,X=cur.toList.drop (i*10):=⟨_,rfl⟩;rw[←hX]at hXl ⊢
 have hc1s:c1.size=G*10:=by
  rw[hc1];simp only[List.size_toArray,List.length_append,List.length_take,List.length_drop,hRl,hnl];omega
 obtain⟨c2,hc2⟩:∃ c2:Array Value,c2=(c1.toList.take ((i+1)*10)++X++c1.toList.drop ((i+1)*10+X.length)).toArray:=⟨_,rfl⟩;have hc2s:c2.size=G*10:=by
  rw[hc2];simp only[List.size_toArray,List.length_append,List.length_take,List.length_drop,Array.length_toList,hc1s,hXl];omega
 have hfin:c2.toList.take ((n+1)*10)=cur.toList.take (i*10)++news++X:=by
  have:=ins_fresh ROW.toList (cur.toList.take (i*10)) X news (i*10) 10 (n*10) (by rw[List.length_take];omega) hRt (by omega) hnl hXl;rw[hc2,hc1,show(n+1)*10=n*10+10 by omega,show(i+1)*10=i*10+10 by omega];exact this
 have hnew1:(w.drew.alloc (.cells ROW 29)).heap[w.heap.size]?=some (.cells ROW 29 (0,0)):=heap_alloc_new w.drew _;have hold1:∀ k,k<w.heap.size→(w.drew.alloc (.cells ROW 29)).heap[k]?=w.heap[k]?:=fun k hk=>Lib.alloc_old w.drew _ k hk
 have hcpA:∀ (W:World),W.heap=(w.drew.alloc (.cells ROW 29)).heap→∀ ty dc,(Builtin.copy_ #[27,27] ty #[.slice (some ⟨w.heap.size,i*10,none⟩) (n+1 - i) dc,.slice (some ⟨vb,0,none⟩) 1 1]).run Tryz.prog W=.ok (goInt 1) (W.setRow w.heap.size c1):=fun W hW ty dc=>by
  have hmin:Nat.min 1 (n+1 - i)=1:=by simp only[Nat.min_def];split<;>omega
  have h:=run_copy_rowW (P:=Tryz.prog) W 27 27 ty 29 10 w.heap.size (i*10) (n+1 - i) dc ⟨vb,0,none⟩ 1 1 ROW 29 news Tryz.underlying27 insSz_E (by rw[hW];exact hnew1) (by rw[hmin,hnl])
   (fun j v hj=>World.news_of_block (w:=W) (B:=vb) (cs:=news.toArray) (t:=29) (fr:=(0,0)) (by rw[hW,hold1 vb hvl];exact hvb) j v (by simpa using hj)) (by rw[hnl];omega) h1
  rw[hmin,←hc1]at h;exact h
 have hnew2:((w.drew.alloc (.cells ROW 29)).setRow w.heap.size c1).heap[w.heap.size]?=some (.cells c1 29 (0,0)):=setRow_heap _ _ ROW c1 29 (0,0) hnew1;have hcpB:∀ (W:World),W.heap=((w.drew.alloc (.cells ROW 29)).setRow w.heap.size c1).heap→∀ ty dc sc,(Builtin.copy_ #[27,27] ty #[.slice (some ⟨w.heap.size,(i+1)*10,none⟩) (n - i) dc,.slice (some ⟨g,i*10,none⟩) (n - i) sc]).run Tryz.prog W=.ok (goInt (n - i:Nat)) (W.setRow w.heap.size c2):=fun W hW ty dc sc=>by
  have hmin:Nat.min (n - i) (n - i)=n - i:=by simp only[Nat.min_def];split<;>omega
  have h:=run_copy_rowW (P:=Tryz.prog) W 27 27 ty 29 10 w.heap.size ((i+1)*10) (n - i) dc ⟨g,i*10,none⟩ (n - i) sc c1 29 X Tryz.underlying27 insSz_E (by rw[hW];exact hnew2) (by rw[hmin,hXl,Nat.sub_mul])
   (fun j v hj=>by
    rw[hX,List.getElem?_drop]at hj;rw[Addr.add_lit,zc (show W.heap[g]?=some (.cells cur 29 (0,0)) by rw[hW,setRow_other _ _ g c1 (by omega),hold1 g hgl];exact hg)];simpa using hj) (by rw[hXl];omega) (fun v hv=>h1c v (by rw[hX]at hv;exact List.mem_of_mem_drop hv))
  rw[hmin,←hc2]at h;exact h
 have HFin:∀ W:World,W.heap=((w.drew.alloc (.cells ROW 29)).setRow w.heap.size c1).heap→W.os=w.os→W.tape=w.tape→W.output=w.output→InsPost base 29 10 w (.slice (some ⟨g,0,none⟩) n n) n (cur.toList.take (i*10)++news++X) (.returned (.slice (some ⟨w.heap.size,0,none⟩) (n+1) G)) (W.setRow w.heap.size c2):=fun W hW k1 k2 k3=>by
  have hs:W.heap.size=w.heap.size+1:=by rw[hW];simp
  refine⟨w.heap.size,G,rfl,⟨?_,.inr ⟨w.heap.size,G,c2,rfl,hbase,setRow_heap _ _ c1 c2 29 (0,0) (by rw[hW];exact hnew2),hGn,hGm,hc2s,hfin⟩⟩,⟨k1,k2,k3,by rw[setRow_size,hs];omega,fun k hk _=>?_⟩,.inr (Nat.le_refl _),by rw[setRow_size,hs];omega⟩
  ·simp only[List.length_append,List.length_take,hnl,hXl,hll];have:i*10+10≤n*10:=by omega
   omega
  ·rw[setRow_other _ _ k c2 (by omega),hW,setRow_other _ _ k c1 (by omega),hold1 k hk]
 have HA:=zh hcpA;have HB:=zh hcpB;have HZ:=zh hrz;have HF:=zh HFin;have hz2:¬ ((i:Int)=(n:Int)):=by omega
 have hw1:IntKind.i64.wrap ((i:Int)+1)=(i:Int)+1:=by rw[IntKind.wrap_i64];omega
 have hw2:IntKind.i64.wrap ((n:Int)+1)=(n:Int)+1:=by rw[IntKind.wrap_i64];omega
 have hw3:IntKind.i64.wrap ((n:Int)+1 - (i:Int))=(n:Int)+1 - (i:Int):=by rw[IntKind.wrap_i64];omega
 clear hcpA hcpB hrz HFin hfin hc2s hc1s hRl hRs hRt hXl hll hnew1 hnew2 hold1 h1 h1c hX hc1 hc2 hold hi0 hz0 hzs hzb hROW hG hGm hcs;have hb1:(0:Int)≤(i:Int)+1:=by omega
 have hin:i≤n:=by omega
 have htn:((i:Int)+1).toNat=i+1:=by omega
 have hGi:¬ (G=i):=by omega
 have hGim:¬ (G=i+1):=by omega
 have hci:¬ (n=i):=by omega
 have hb3:(i:Int)≤(n:Int):=by omega
 have hb5:(i:Int)+1≤(n:Int)+1:=by omega
 go_in;go_wp2_with (first
  | (at_builtin;refine Lib.wpList_append_run _ rfl _ _ _ _ rfl _ _ rfl rfl _ _ (HZ.out _) ?_)
  | (refine wpList_copy_runI _ rfl _ _ 27 27 rfl _ _ rfl rfl (HA.out _ (by rfl) _ _) ?_))
 go_region_law (refine step_copy_runI rfl _ _ 27 27 rfl (.slice (some ⟨w.heap.size,(i+1)*10,none⟩) (n - i) (G - (i+1))) (.slice (some ⟨g,i*10,none⟩) (n - i) (n - i)) (by simp[Act.eval,Act.put]) (by simp[Act.eval,Act.put]) (HB.out _ (by rfl) _ _ _) ?_)
 go_wp2
 go_ret;exact HF.out (((w.alloc (.cells ROW 29)).drew.setRow w.heap.size c1).drew) rfl rfl rfl rfl
theorem ins_any_E (base:Nat) (w:World) (v:Value) (n a vb:Nat) (ys news:List Value) (hown:w.ownsRow base 29 10 v n ys) (ha:a≤n) (hn:n≤100000) (hvb:w.heap[vb]?=some (.cells news.toArray 29 (0,0))) (hnl:news.length=10) (h1:∀ u ∈ news,u.oneCell'=true) (hbase:base≤w.heap.size) (hne:v.ownBlock≠some vb) (h1c:∀ u ∈ ys,u.oneCell'=true) :
  Calls Tryz.prog 196 #[v,.int .i64 (a:Nat),.slice (some ⟨vb,0,none⟩) 1 1] w (InsPost base 29 10 w v n (ys.take (a*10)++news++ys.drop (a*10))):=by
 have hl:=hown.1;by_cases hat:a=n
 ·subst hat;have h:=insE_E base w v a vb ys news hown hn hvb hnl h1 hbase;rw[List.take_of_length_le (by omega),List.drop_eq_nil_of_le (by omega),List.append_nil];exact h
 ·rcases hown.2 with ⟨_,h0⟩|⟨g,cap,cur,rfl,hbg,hg,hnc,hcm,hcs,hxs⟩
  ·omega
  ·have hvg:vb≠g:=fun e=>hne (by rw[e];rfl)
   by_cases hcap:n+1≤cap
   ·have h:=insShift_E base w g cap a n vb cur news (by omega) hn hcap hcm hg hcs hbg hvb hvg hnl h1 (by rw[hxs];exact h1c);rw[hxs]at h;rw[show ys.take (a*10)=cur.toList.take (a*10) by rw[←hxs,List.take_take];congr 1;omega];exact h
   ·obtain rfl:cap=n:=by omega
    have hxs':cur.toList=ys:=by rw[←hxs,List.take_of_length_le (by simp;omega)]
    have h:=insGrow_E base w g a cap vb cur news (by omega) hn hg hcs hbase hvb hnl h1 (by rw[hxs'];exact h1c);rw[hxs']at h;exact h
theorem zero_Si:(Tryz.prog.info? 9).map (fun i=>(i.zero,i.size,i.bytes))=some (some (.string ⟨#[]⟩),1,16):=by kernel_rfl
theorem insSz_S (w:World):(Go.sizeOf 9).run Tryz.prog w=.ok 1 w:=by
 obtain⟨i0,hi0,hz0,hzs,hzb⟩:=Go.info_parts zero_Si;simp[sizeOf,typeInfo,hi0,hzs]
theorem insE_S (base:Nat) (w:World) (v:Value) (n vb:Nat) (xs news:List Value) (hown:w.ownsRow base 9 1 v n xs) (hn:n≤100000) (hvb:w.heap[vb]?=some (.cells news.toArray 9 (0,0))) (hnl:news.length=1) (h1:∀ u ∈ news,u.oneCell'=true) (hbase:base≤w.heap.size) :
  Calls Tryz.prog 195 #[v,.int .i64 (n:Nat),.slice (some ⟨vb,0,none⟩) 1 1] w (InsPost base 9 1 w v n (xs++news)):=by
 obtain⟨i0,hi0,hz0,hzs,hzb⟩:=Go.info_parts zero_Si;have HII:=zh hi0;have HZ0:=zh hz0;have HZ1:=zh hzs;have HZ2:=zh hzb;clear hi0 hz0 hzs hzb;have hnews:=World.news_of_block (cs:=news.toArray) (t:=9) (fr:=(0,0)) hvb;have HN:=zh hnews;have HO:=zh hown;have HO1:=zh h1;clear hnews hown h1;rcases(show(v=.slice none 0 0∧n=0)∨∃ g cap,v=.slice (some ⟨g,0,none⟩) n cap∧n≤cap from by
  rcases HO.out.2 with h|⟨g,cap,cur,hv,_,_,h5,_⟩
  ·exact .inl h
  ·exact .inr ⟨g,cap,hv,h5⟩)with ⟨rfl,rfl⟩|⟨g,cap,rfl,hgc⟩
 ·go_in;go_wp2_with (at_builtin;refine wpList_append_lies _ rfl _ _ 23 rfl base 9 i0 _ 1 16 Tryz.underlying23 HII.out HZ0.out HZ1.out HZ2.out rfl (by omega) _ _ _ rfl HO.out ⟨vb,0,none⟩ 1 1 news rfl (by omega) HN.out HO1.out (by omega) (by unfold maxLen;omega) (by omega) hbase _ rfl ?_;intro g cap u4 hown4 hgrow hat hlt)
  go_ret;exact⟨g,cap,rfl,hown4,hgrow,hat.imp id (fun h=>Nat.le_of_eq h.symm),hlt⟩
 ·go_in;go_wp2_with (at_builtin;refine wpList_append_lies _ rfl _ _ 23 rfl base 9 i0 _ 1 16 Tryz.underlying23 HII.out HZ0.out HZ1.out HZ2.out rfl (by omega) _ _ _ rfl HO.out ⟨vb,0,none⟩ 1 1 news rfl (by omega) HN.out HO1.out (by omega) (by unfold maxLen;omega) (by omega) hbase _ rfl ?_;intro g cap u4 hown4 hgrow hat hlt)
  all_goals
   go_ret;exact⟨_,_,rfl,hown4,hgrow,hat.imp id (fun h=>Nat.le_of_eq h.symm),hlt⟩
theorem insShift_S (base:Nat) (w:World) (g cap i n vb:Nat) (cur:Array Value) (news:List Value) (hi:i<n) (hn:n≤100000) (hcap:n+1≤cap) (hcm:cap≤maxLen) (hg:w.heap[g]?=some (.cells cur 9 (0,0))) (hcs:cur.size=cap*1) (hbg:base≤g) (hvb:w.heap[vb]?=some (.cells news.toArray 9 (0,0))) (hvg:vb≠g) (hnl:news.length=1) (h1:∀ u ∈ news,u.oneCell'=true) (h1c:∀ u ∈ cur.toList.take (n*1),u.oneCell'=true) :
  Calls Tryz.prog 195 #[.slice (some ⟨g,0,none⟩) n cap,.int .i64 (i:Nat),.slice (some ⟨vb,0,none⟩) 1 1] w (InsPost base 9 1 w (.slice (some ⟨g,0,none⟩) n cap) n (cur.toList.take (i*1)++news++(cur.toList.take (n*1)).drop (i*1))):=by
 have hll:cur.toList.length=cap*1:=by simpa using hcs
 have hcm2:cap≤9223372036854775807:=by unfold maxLen at hcm;omega
 have hXl:((cur.toList.take (n*1)).drop (i*1)).length=n*1 - i*1:=by rw[List.length_drop,List.length_take];omega
 obtain⟨X,hX⟩:∃ X,X=(cur.toList.take (n*1)).drop (i*1):=⟨_,rfl⟩;rw[←hX]at hXl ⊢
 obtain⟨c1,hc1⟩:∃ c1:Array Value,c1=(cur.toList.take ((i+1)*1)++X++cur.toList.drop ((i+1)*1+X.length)).toArray:=⟨_,rfl⟩;have hc1l:c1.toList=cur.toList.take (i*1+1)++X++cur.toList.drop (i*1+1+X.length):=by rw[hc1,show(i+1)*1=i*1+1 by omega]
 have hc1s:c1.size=cap*1:=by
  have:=ins_len cur.toList X (i*1) 1 (n*1) (by omega) hXl (by omega);rw[←hc1l,hll]at this;simpa using this
 obtain⟨c2,hc2⟩:∃ c2:Array Value,c2=(c1.toList.take (i*1)++news++c1.toList.drop (i*1+news.length)).toArray:=⟨_,rfl⟩;have hc2s:c2.size=cap*1:=by
  rw[hc2];simp only[List.size_toArray,List.length_append,List.length_take,List.length_drop,Array.length_toList,hc1s,hnl];omega
 have hfin:c2.toList.take ((n+1)*1)=cur.toList.take (i*1)++news++X:=by
  have:=ins_shift cur.toList X news (i*1) 1 (n*1) (by omega) hnl hXl (by omega);rw[←hc1l]at this;rw[hc2,show(n+1)*1=n*1+1 by omega];exact this
 obtain⟨i0,hi0,hz0,hzs,hzb⟩:=Go.info_parts zero_Si;have hgl:=lt_of_block hg;have hcp1:∀ ty dc sc,(Builtin.copy_ #[23,23] ty #[.slice (some ⟨g,i+1,none⟩) (n - i) dc,.slice (some ⟨g,i,none⟩) (n+1 - i) sc]).run Tryz.prog w.drew=.ok (goInt (n - i:Nat)) (w.drew.setRow g c1):=fun ty dc sc=>by
  have hmin:Nat.min (n+1 - i) (n - i)=n - i:=by simp only[Nat.min_def];split<;>omega
  have h:=run_copy_rowW (P:=Tryz.prog) w.drew 23 23 ty 9 1 g ((i+1)*1) (n - i) dc ⟨g,i,none⟩ (n+1 - i) sc cur 9 X Tryz.underlying23 insSz_S hg (by rw[hmin,hXl,Nat.sub_mul])
   (fun j v hj=>by
    rw[hX,List.getElem?_drop]at hj;rw[Addr.add_lit,zc (show w.drew.heap[g]?=_ from hg)];rw[List.getElem?_take]at hj;split at hj
    ·simpa using hj
    ·cases hj) (by rw[hXl];omega) (fun v hv=>h1c v (by rw[hX]at hv;exact List.mem_of_mem_drop hv))
  rw[hmin,←hc1]at h
  (first|exact h|(rw[Nat.mul_one]at h;exact h)|(simp only[Nat.mul_one]at h;exact h))
 have hrow:(w.drew.setRow g c1).heap[g]?=some (.cells c1 9 (0,0)):=setRow_heap _ g cur c1 9 (0,0) hg;have hnew:=World.news_of_block (w:=w.drew.setRow g c1) (B:=vb) (cs:=news.toArray) (t:=9) (fr:=(0,0)) ((setRow_other _ g vb c1 hvg).trans hvb);have hcp2:∀ (W:World),W=w.drew.setRow g c1→∀ ty dc,(Builtin.copy_ #[23,23] ty #[.slice (some ⟨g,i,none⟩) (n+1 - i) dc,.slice (some ⟨vb,0,none⟩) 1 1]).run Tryz.prog W=.ok (goInt 1) ((w.drew.setRow g c1).setRow g c2):=fun W hW ty dc=>by
  subst hW;have hmin:Nat.min 1 (n+1 - i)=1:=by simp only[Nat.min_def];split<;>omega
  have h:=run_copy_rowW (P:=Tryz.prog) (w.drew.setRow g c1) 23 23 ty 9 1 g (i*1) (n+1 - i) dc ⟨vb,0,none⟩ 1 1 c1 9 news Tryz.underlying23 insSz_S hrow (by rw[hmin,hnl]) (fun j v hj=>hnew j v (by simpa using hj)) (by rw[hnl];omega) h1;rw[hmin,←hc2]at h
  (first|exact h|(rw[Nat.mul_one]at h;exact h)|(simp only[Nat.mul_one]at h;exact h))
 have hov:∀ lb cb,(callFunc 204 #[.slice (some ⟨vb,0,none⟩) 1 1,.slice (some ⟨g,i+1,none⟩) lb cb]).run Tryz.prog w=.ok (.value (.bool false)) w:=fun lb cb=>by
  rw[run_callFunc_extern Tryz.func204 (by kernel_rfl) (by kernel_rfl) (by kernel_rfl) (e:=Extern.SlicesOverlaps.overlaps #[23,23] #[4]) (by kernel_rfl),
   Lib.run_overlaps_apart w 23 4 9 Tryz.underlying23 1 insSz_S ⟨vb,0,none⟩ ⟨g,i+1,none⟩ 1 1 lb cb hvg 9 9 news.length cur.size (by simp[World.shape?,hvb]) (by simp[World.shape?,hg]) (by omega) (Lib.frozen_of_heap hvb 0) (Lib.frozen_of_heap hvb _)]
  rfl
 clear hi0 hz0 hzs hzb;have HOV:=zh hov;have HC1:=zh hcp1;have HC2:=zh hcp2;have HFin:InsPost base 9 1 w (.slice (some ⟨g,0,none⟩) n cap) n (cur.toList.take (i*1)++news++X) (.returned (.slice (some ⟨g,0,none⟩) (n+1) cap)) ((w.drew.setRow g c1).setRow g c2):=by
  refine⟨g,cap,rfl,⟨?_,.inr ⟨g,cap,c2,rfl,hbg,setRow_heap _ g c1 c2 9 (0,0) hrow,hcap,hcm,hc2s,hfin⟩⟩,?_,.inl rfl,by simpa using hgl⟩
  ·simp only[List.length_append,List.length_take,hnl,hXl,hll];have:i*1+1≤n*1:=by omega
   omega
  ·exact⟨rfl,rfl,rfl,by simp,fun k hk hne=>by
    have:k≠g:=fun e=>hne (by rw[e];rfl)
    rw[setRow_other _ g k c2 this,setRow_other _ g k c1 this];rfl⟩
 have HF:=zh HFin;have hz2:¬ ((i:Int)=(n:Int)):=by omega
 have hw1:IntKind.i64.wrap ((i:Int)+1)=(i:Int)+1:=by rw[IntKind.wrap_i64];omega
 have hw2:IntKind.i64.wrap ((n:Int)+1)=(n:Int)+1:=by rw[IntKind.wrap_i64];omega
 clear hcp1 hcp2 hov hfin hc2s hc1s hc1l hXl hll hrow hnew h1 h1c hX hc1 hc2 HFin hcs;have hz3:¬ ((cap:Int)<(n:Int)+1):=by omega
 have hb1:(0:Int)≤(i:Int)+1:=by omega
 have hin:i≤n:=by omega
 have htn:((i:Int)+1).toNat=i+1:=by omega
 have htm:((n:Int)+1).toNat=n+1:=by omega
 have hb2:¬ (cap=i+1):=by omega
 have hb3:(i:Int)≤(n:Int)+1:=by omega
 have hb4:¬ (cap=i):=by omega
 go_in;go_wp2_with (simp only[HOV.out])
 go_region_law (refine step_copy_runI rfl _ _ 23 23 rfl (.slice (some ⟨g,i+1,none⟩) (n - i) (cap - (i+1))) (.slice (some ⟨g,i,none⟩) (n+1 - i) (cap - i)) (by simp[Act.eval,Act.put]) (by simp[Act.eval,Act.put]) (HC1.out _ _ _) ?_)
 go_wp2_with (refine wpList_copy_runI _ rfl _ _ 23 23 rfl _ _ rfl rfl (HC2.out _ (by rfl) _ _) ?_)
 go_ret;exact HF.out
theorem insGrow_S (base:Nat) (w:World) (g i n vb:Nat) (cur:Array Value) (news:List Value) (hi:i<n) (hn:n≤100000) (hg:w.heap[g]?=some (.cells cur 9 (0,0))) (hcs:cur.size=n*1) (hbase:base≤w.heap.size) (hvb:w.heap[vb]?=some (.cells news.toArray 9 (0,0))) (hnl:news.length=1) (h1:∀ u ∈ news,u.oneCell'=true) (h1c:∀ u ∈ cur.toList,u.oneCell'=true) :
  Calls Tryz.prog 195 #[.slice (some ⟨g,0,none⟩) n n,.int .i64 (i:Nat),.slice (some ⟨vb,0,none⟩) 1 1] w (InsPost base 9 1 w (.slice (some ⟨g,0,none⟩) n n) n (cur.toList.take (i*1)++news++cur.toList.drop (i*1))):=by
 have hll:cur.toList.length=n*1:=by simpa using hcs
 obtain⟨i0,hi0,hz0,hzs,hzb⟩:=Go.info_parts zero_Si;have hgl:=lt_of_block hg;have hvl:=lt_of_block hvb;have hold:(Builtin.firstCells i0.size i (.slice (some ⟨g,0,none⟩) i n)).run Tryz.prog w.drew=.ok (cur.toList.take (i*1)).toArray w.drew:=by
  rw[hzs];exact run_firstCells_some w.drew 1 i ⟨g,0,none⟩ i n (cur.toList.take (i*1)) (by rw[List.length_take];omega) (fun j v hj=>by
   rw[Addr.add_lit,zc (show w.drew.heap[g]?=_ from hg)];rw[List.getElem?_take]at hj;split at hj
   ·simpa using hj
   ·cases hj)
 obtain⟨G,hG⟩:∃ G,G=grownCap w (n+1) n 9:=⟨_,rfl⟩;have hGn:n+1≤G:=by rw[hG];exact grownCap_ge w _ _ _
 have hGm:G≤maxLen:=by rw[hG];exact grownCap_le_maxLen w (n+1) n 9 (by unfold maxLen;omega)
 have hG63:G≤9223372036854775807:=by unfold maxLen at hGm;omega
 obtain⟨ROW,hROW⟩:∃ ROW:Array Value,ROW=(cur.toList.take (i*1)).toArray++Builtin.zeroCells (Value.cells (.string ⟨#[]⟩)) (n+1 - i)++Builtin.zeroCells (Value.cells (.string ⟨#[]⟩)) (G - (n+1)):=⟨_,rfl⟩;have hrz:∀ ty,(Builtin.append_ #[23,3] ty #[.slice (some ⟨g,0,none⟩) i n,.int .i64 ((n:Int)+1 - (i:Int))]).run Tryz.prog w =
   .ok (.slice (some ⟨w.heap.size,0,none⟩) (n+1) G) (w.drew.alloc (.cells ROW 9)):=fun ty=>by
  have h:=Lib.run_append_grow_zeros w 23 3 ty 9 i0 _ .i64 .i64 Tryz.underlying23 Tryz.underlying3 hi0 hz0 (some ⟨g,0,none⟩) i n _ hold (n+1 - i) (by omega) (by omega) (by omega) (by omega) (by rw[hzb];omega) (by rw[hzb,show i+(n+1 - i)=n+1 by omega];exact growslice_fits (by omega) (by omega));rw[show i+(n+1 - i)=n+1 by omega,←hG,←hROW]at h;rw[show(n:Int)+1 - (i:Int)=((n+1 - i:Nat):Int) by omega];exact h
 have hRs:ROW.size=G*1:=by
  have:(i+(n+1 - i))+(G - (n+1))=G:=by omega
  rw[hROW];simp[Builtin.zeroCells,Value.cells,hll];omega
 have hRt:ROW.toList.take (i*1)=cur.toList.take (i*1):=by
  rw[hROW];simp only[Array.toList_append,List.append_assoc];exact List.take_left' (by rw[List.length_take];omega)
 obtain⟨c1,hc1⟩:∃ c1:Array Value,c1=(ROW.toList.take (i*1)++news++ROW.toList.drop (i*1+news.length)).toArray:=⟨_,rfl⟩;have hRl:ROW.toList.length=G*1:=by simpa using hRs
 have hXl:(cur.toList.drop (i*1)).length=n*1 - i*1:=by rw[List.length_drop,hll]
 obtain⟨X,hX⟩:∃ X,X=cur.toList.drop (i*1):=⟨_,rfl⟩;rw[←hX]at hXl ⊢
 have hc1s:c1.size=G*1:=by
  rw[hc1];simp only[List.size_toArray,List.length_append,List.length_take,List.length_drop,hRl,hnl];omega
 obtain⟨c2,hc2⟩:∃ c2:Array Value,c2=(c1.toList.take ((i+1)*1)++X++c1.toList.drop ((i+1)*1+X.length)).toArray:=⟨_,rfl⟩;have hc2s:c2.size=G*1:=by
  rw[hc2];simp only[List.size_toArray,List.length_append,List.length_take,List.length_drop,Array.length_toList,hc1s,hXl];omega
 have hfin:c2.toList.take ((n+1)*1)=cur.toList.take (i*1)++news++X:=by
  have:=ins_fresh ROW.toList (cur.toList.take (i*1)) X news (i*1) 1 (n*1) (by rw[List.length_take];omega) hRt (by omega) hnl hXl;rw[hc2,hc1,show(n+1)*1=n*1+1 by omega,show(i+1)*1=i*1+1 by omega];exact this
 have hnew1:(w.drew.alloc (.cells ROW 9)).heap[w.heap.size]?=some (.cells ROW 9 (0,0)):=heap_alloc_new w.drew _;have hold1:∀ k,k<w.heap.size→(w.drew.alloc (.cells ROW 9)).heap[k]?=w.heap[k]?:=fun k hk=>Lib.alloc_old w.drew _ k hk
 have hcpA:∀ (W:World),W.heap=(w.drew.alloc (.cells ROW 9)).heap→∀ ty dc,(Builtin.copy_ #[23,23] ty #[.slice (some ⟨w.heap.size,i,none⟩) (n+1 - i) dc,.slice (some ⟨vb,0,none⟩) 1 1]).run Tryz.prog W=.ok (goInt 1) (W.setRow w.heap.size c1):=fun W hW ty dc=>by
  have hmin:Nat.min 1 (n+1 - i)=1:=by simp only[Nat.min_def];split<;>omega
  have h:=run_copy_rowW (P:=Tryz.prog) W 23 23 ty 9 1 w.heap.size (i*1) (n+1 - i) dc ⟨vb,0,none⟩ 1 1 ROW 9 news Tryz.underlying23 insSz_S (by rw[hW];exact hnew1) (by rw[hmin,hnl])
   (fun j v hj=>World.news_of_block (w:=W) (B:=vb) (cs:=news.toArray) (t:=9) (fr:=(0,0)) (by rw[hW,hold1 vb hvl];exact hvb) j v (by simpa using hj)) (by rw[hnl];omega) h1
  rw[hmin,←hc1]at h
  (first|exact h|(rw[Nat.mul_one]at h;exact h)|(simp only[Nat.mul_one]at h;exact h))
 have hnew2:((w.drew.alloc (.cells ROW 9)).setRow w.heap.size c1).heap[w.heap.size]?=some (.cells c1 9 (0,0)):=setRow_heap _ _ ROW c1 9 (0,0) hnew1;have hcpB:∀ (W:World),W.heap=((w.drew.alloc (.cells ROW 9)).setRow w.heap.size c1).heap→∀ ty dc sc,(Builtin.copy_ #[23,23] ty #[.slice (some ⟨w.heap.size,i+1,none⟩) (n - i) dc,.slice (some ⟨g,i,none⟩) (n - i) sc]).run Tryz.prog W=.ok (goInt (n - i:Nat)) (W.setRow w.heap.size c2):=fun W hW ty dc sc=>by
  have hmin:Nat.min (n - i) (n - i)=n - i:=by simp only[Nat.min_def];split<;>omega
  have h:=run_copy_rowW (P:=Tryz.prog) W 23 23 ty 9 1 w.heap.size ((i+1)*1) (n - i) dc ⟨g,i,none⟩ (n - i) sc c1 9 X Tryz.underlying23 insSz_S (by rw[hW];exact hnew2) (by rw[hmin,hXl,Nat.sub_mul])
   (fun j v hj=>by
    rw[hX,List.getElem?_drop]at hj;rw[Addr.add_lit,zc (show W.heap[g]?=some (.cells cur 9 (0,0)) by rw[hW,setRow_other _ _ g c1 (by omega),hold1 g hgl];exact hg)];simpa using hj) (by rw[hXl];omega) (fun v hv=>h1c v (by rw[hX]at hv;exact List.mem_of_mem_drop hv))
  rw[hmin,←hc2]at h
  (first|exact h|(rw[Nat.mul_one]at h;exact h)|(simp only[Nat.mul_one]at h;exact h))
 have HFin:∀ W:World,W.heap=((w.drew.alloc (.cells ROW 9)).setRow w.heap.size c1).heap→W.os=w.os→W.tape=w.tape→W.output=w.output→InsPost base 9 1 w (.slice (some ⟨g,0,none⟩) n n) n (cur.toList.take (i*1)++news++X) (.returned (.slice (some ⟨w.heap.size,0,none⟩) (n+1) G)) (W.setRow w.heap.size c2):=fun W hW k1 k2 k3=>by
  have hs:W.heap.size=w.heap.size+1:=by rw[hW];simp
  refine⟨w.heap.size,G,rfl,⟨?_,.inr ⟨w.heap.size,G,c2,rfl,hbase,setRow_heap _ _ c1 c2 9 (0,0) (by rw[hW];exact hnew2),hGn,hGm,hc2s,hfin⟩⟩,⟨k1,k2,k3,by rw[setRow_size,hs];omega,fun k hk _=>?_⟩,.inr (Nat.le_refl _),by rw[setRow_size,hs];omega⟩
  ·simp only[List.length_append,List.length_take,hnl,hXl,hll];have:i*1+1≤n*1:=by omega
   omega
  ·rw[setRow_other _ _ k c2 (by omega),hW,setRow_other _ _ k c1 (by omega),hold1 k hk]
 have HA:=zh hcpA;have HB:=zh hcpB;have HZ:=zh hrz;have HF:=zh HFin;have hz2:¬ ((i:Int)=(n:Int)):=by omega
 have hw1:IntKind.i64.wrap ((i:Int)+1)=(i:Int)+1:=by rw[IntKind.wrap_i64];omega
 have hw2:IntKind.i64.wrap ((n:Int)+1)=(n:Int)+1:=by rw[IntKind.wrap_i64];omega
 have hw3:IntKind.i64.wrap ((n:Int)+1 - (i:Int))=(n:Int)+1 - (i:Int):=by rw[IntKind.wrap_i64];omega
 clear hcpA hcpB hrz HFin hfin hc2s hc1s hRl hRs hRt hXl hll hnew1 hnew2 hold1 h1 h1c hX hc1 hc2 hold hi0 hz0 hzs hzb hROW hG hGm hcs;have hb1:(0:Int)≤(i:Int)+1:=by omega
 have hin:i≤n:=by omega
 have htn:((i:Int)+1).toNat=i+1:=by omega
 have hGi:¬ (G=i):=by omega
 have hGim:¬ (G=i+1):=by omega
 have hci:¬ (n=i):=by omega
 have hb3:(i:Int)≤(n:Int):=by omega
 have hb5:(i:Int)+1≤(n:Int)+1:=by omega
 go_in;go_wp2_with (first
  | (at_builtin;refine Lib.wpList_append_run _ rfl _ _ _ _ rfl _ _ rfl rfl _ _ (HZ.out _) ?_)
  | (refine wpList_copy_runI _ rfl _ _ 23 23 rfl _ _ rfl rfl (HA.out _ (by rfl) _ _) ?_))
 go_region_law (refine step_copy_runI rfl _ _ 23 23 rfl (.slice (some ⟨w.heap.size,i+1,none⟩) (n - i) (G - (i+1))) (.slice (some ⟨g,i,none⟩) (n - i) (n - i)) (by simp[Act.eval,Act.put]) (by simp[Act.eval,Act.put]) (HB.out _ (by rfl) _ _ _) ?_)
 go_wp2
 go_ret;exact HF.out (((w.alloc (.cells ROW 9)).drew.setRow w.heap.size c1).drew) rfl rfl rfl rfl
theorem ins_any_S (base:Nat) (w:World) (v:Value) (n a vb:Nat) (ys news:List Value) (hown:w.ownsRow base 9 1 v n ys) (ha:a≤n) (hn:n≤100000) (hvb:w.heap[vb]?=some (.cells news.toArray 9 (0,0))) (hnl:news.length=1) (h1:∀ u ∈ news,u.oneCell'=true) (hbase:base≤w.heap.size) (hne:v.ownBlock≠some vb) (h1c:∀ u ∈ ys,u.oneCell'=true) :
  Calls Tryz.prog 195 #[v,.int .i64 (a:Nat),.slice (some ⟨vb,0,none⟩) 1 1] w (InsPost base 9 1 w v n (ys.take (a*1)++news++ys.drop (a*1))):=by
 have hl:=hown.1;by_cases hat:a=n
 ·subst hat;have h:=insE_S base w v a vb ys news hown hn hvb hnl h1 hbase;rw[List.take_of_length_le (by omega),List.drop_eq_nil_of_le (by omega),List.append_nil];exact h
 ·rcases hown.2 with ⟨_,h0⟩|⟨g,cap,cur,rfl,hbg,hg,hnc,hcm,hcs,hxs⟩
  ·omega
  ·have hvg:vb≠g:=fun e=>hne (by rw[e];rfl)
   by_cases hcap:n+1≤cap
   ·have h:=insShift_S base w g cap a n vb cur news (by omega) hn hcap hcm hg hcs hbg hvb hvg hnl h1 (by rw[hxs];exact h1c);rw[hxs]at h;rw[show ys.take (a*1)=cur.toList.take (a*1) by rw[←hxs,List.take_take];congr 1;omega];exact h
   ·obtain rfl:cap=n:=by omega
    have hxs':cur.toList=ys:=by rw[←hxs,List.take_of_length_le (by simp;omega)]
    have h:=insGrow_S base w g a cap vb cur news (by omega) hn hg hcs hbase hvb hnl h1 (by rw[hxs'];exact h1c);rw[hxs']at h;exact h
end Go.Proofs.YtaaaaggmhjhkkaaGreatDoor
