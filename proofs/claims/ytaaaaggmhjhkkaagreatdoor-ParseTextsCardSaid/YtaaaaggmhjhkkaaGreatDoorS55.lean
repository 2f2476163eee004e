/-
  Kg, H6, H7 in one text.
-/
import Derived.Test.YtaaaaggmhjhkkaaGreatDoorS42
import Derived.Test.YtaaaaggmhjhkkaaGreatDoorCl
set_option maxRecDepth 100000
set_option maxHeartbeats 4000000
namespace Go.Proofs.YtaaaaggmhjhkkaaGreatDoor
section
open Go.RowKit
/-- bytes in memory of the call's own -/
def Byts (B:Nat) (v:Value) (o:List UInt8) (w:World):Prop:=w.ownsRow B 5 1 v o.length (Lib.byteCells o)∧∃ g cap,v=.slice (some ⟨g,0,none⟩) o.length cap
theorem Byts.conv {B:Nat} {v:Value} {o:List UInt8} {w:World} (h:Byts B v o w):(convert 50 9 v).run Tryz.prog w=.ok (.string ⟨o.toArray⟩) w:=by
 obtain⟨h1,g,cap,rfl⟩:=h;refine run_convert_bytes_back w 50 9 5 ⟨g,0,none⟩ cap o Tryz.underlying50 Tryz.underlying5 Tryz.underlying9 ?_;intro j hj;refine h1.cells (g:=g) rfl j _ ?_;simp[Lib.byteCells,hj]
theorem Byts.grow {B:Nat} {v':Value} {o:List UInt8} {c:UInt8} {w:World} (h:w.ownsRow B 5 1 v' (o.length+1) (Lib.byteCells o++[.int .u8 c.toNat])):Byts B v' (o++[c]) w:=by
 refine⟨?_,?_⟩
 ·rw[Lib.byteCells_append,List.length_append];exact h
 ·rw[List.length_append];rcases h.2 with ⟨_,h0⟩|⟨g,cap,cur,hv,_⟩
  ·simp at h0
  ·exact⟨g,cap,hv⟩
end
section
open Go.RowKit
theorem quote_step {l:List UInt8} {k:Nat} (hk:k<l.length):(l.take (k+1)).flatMap escB=(l.take k).flatMap escB++escB (l.getD k 0):=by
 have e:l.getD k 0=l[k]:=by simp[List.getD,hk]
 rw[List.take_succ_eq_append_getElem hk,List.flatMap_append,e];simp
theorem quote_len_to (l:List UInt8) (k:Nat):((l.take k).flatMap escB).length≤2*k:=by
 have:∀ m:List UInt8,(m.flatMap escB).length≤2*m.length:=by
  intro m;induction m with
  | nil=>simp
  | cons c m ih =>
   rw[List.flatMap_cons,List.length_append,List.length_cons];have:(escB c).length≤2:=by unfold escB;split<;>simp
   omega
 have h1:=this (l.take k);have h2:(l.take k).length≤k:=List.length_take_le _ _;omega
theorem rquote_any (s:ByteArray) (hs:s.size≤1000) (w:World):Calls Tryz.prog 42 #[.string s] w fun e w'=>e=.returned (.string ⟨(quoteB s.data.toList).toArray⟩)∧Below w.heap.size w w':=by
 have hl:s.data.toList.length=s.size:=by simp
 have HL:=zh hl;have hQ:=quoteB.eq_def s.data.toList;have HQ:=zh hQ;clear hl hQ;have HI:(Tryz.prog.info? 5).map (fun i=>(i.zero,i.size,i.bytes))=some (some (.int .u8 0),1,1):=by kernel_rfl
 obtain⟨i0,hi,hz0,hz1,hz2⟩:=Go.info_parts HI;have HII:=zh hi;have HZ0:=zh hz0;have HZ1:=zh hz1;have HZ2:=zh hz2;clear hi hz0 hz1 hz2 HI;have hB:Below w.heap.size w (w.alloc (.cells #[.int .u8 34] 5)):=(Below.refl _ _).alloc (Nat.le_refl _) _;have hV:Byts w.heap.size (.slice (some ⟨w.heap.size,0,none⟩) 1 1) [34] (w.alloc (.cells #[.int .u8 34] 5)):=by
  refine⟨?_,_,_,rfl⟩;exact World.ownsRow_lit w #[.int .u8 34] 1 (Nat.le_refl _) (by unfold maxLen;omega) rfl
 have hsz:w.heap.size≤(w.alloc (.cells #[.int .u8 34] 5)).heap.size:=by simp
 go_in;go_wp2_with fail
 generalize w.alloc (.cells #[.int .u8 34] 5)=W0 at *;generalize hgh:w.heap.size=H at *;have HH:=zh hgh;clear hgh;go_loopw [3,4] (fun v kv wr=>∃ (k:Nat) (V:Value),V=v∧k≤s.size∧kv=.int .i64 k∧Below H w wr∧H≤wr.heap.size∧Byts H V (34::(s.data.toList.take k).flatMap escB) wr) (fun _ kv _=>s.size - (intOf kv).toNat)
 case atStart=>exact⟨0,_,rfl,Nat.zero_le _,rfl,hB,hsz,by rw[List.take_zero];exact hV⟩
 case round =>
  clear hB hV hsz;obtain⟨k,V,rfl,hk,rfl,hB,hsz,hV⟩:=hrel;have hlo:=quote_len_to s.data.toList k;by_cases hlt:k<s.size
  ·have t0:decide ((k:Int)<(s.size:Int))=true:=by simp;omega
   have hg0:s.data.toList.getD k 0=s[k]'hlt:=by simp[List.getD,hlt];rfl
   have hst:=quote_step (l:=s.data.toList) (k:=k) (by rw[HL.out];exact hlt);rw[hg0]at hst;have HSt:=zh hst;clear hst hg0;generalize ho:(34::(s.data.toList.take k).flatMap escB)=o at *;have hol:o.length≤2*k+1:=by rw[←ho,List.length_cons];omega
   have HO:=zh ho;clear ho hlo;by_cases h34:s[k]'hlt=34
   ·have t1:(((s[k]'hlt).toNat:Int)==34)=true:=by rw[h34];rfl
    have he:escB (s[k]'hlt)=[92,s[k]'hlt]:=by unfold escB;rw[if_pos (.inl h34)]
    have HE:=zh he;clear he h34;have HN1:Hid (∀ jj u,[Value.int .u8 92][jj]?=some u→(wr.alloc (.cells #[.int .u8 92] 5)).cell? ((⟨wr.heap.size,0,none⟩:Addr).add jj)=some u):=by
     intro jj u hjj;match jj,hjj with
     | 0,hjj=>simp at hjj;subst hjj;simp[Addr.add]
    have hB1:=hB.alloc hsz (.cells #[.int .u8 92] 5);have hO1:=hV.1.alloc (.cells #[.int .u8 92] 5);have hs1:H≤(wr.alloc (.cells #[.int .u8 92] 5)).heap.size:=by simp;omega
    have hlen1:o.length≤1000000:=by omega
    go_wp2_with (at_builtin;refine wpList_append_own _ rfl _ _ 50 rfl H 5 i0 (.int .u8 0) 1 1 Tryz.underlying50 HII.out HZ0.out HZ1.out HZ2.out rfl (by decide) _ o.length (Lib.byteCells o) rfl hO1 ⟨wr.heap.size,0,none⟩ 1 1 [.int .u8 92] rfl rfl HN1.out (by intro u hu;simp at hu;subst hu;rfl) ?c3 ?c4 ?c5 ?_)
    case c3=>unfold maxLen;omega
    case c4=>omega
    case c5=>exact hs1
    intro v1 w1 hown1 hgrow1 _;have hBn:Below H w w1:=hB1.grown hgrow1 hs1 (fun g hg=>(World.ownsRow.lt hO1 g hg).1);have hVn:Byts H v1 (o++[92]) w1:=Byts.grow (c:=92) hown1;have hsn:H≤w1.heap.size:=Nat.le_trans hs1 hgrow1.size;clear hB hV hsz hB1 hO1 hs1 hlen1 hown1 hgrow1 HN1;have hB:=hBn;have hV:=hVn;have hsz:=hsn;clear hBn hVn hsn;have hol2:(o++[92]).length≤2*k+2:=by rw[List.length_append,List.length_singleton];omega
    generalize ho2:o++[92]=o2 at *;have HO2:=zh ho2;clear ho2;have HN2:Hid (∀ jj u,[Value.int .u8 ((s[k]'hlt).toNat:Int)][jj]?=some u→(w1.alloc (.cells #[.int .u8 ((s[k]'hlt).toNat:Int)] 5)).cell? ((⟨w1.heap.size,0,none⟩:Addr).add jj)=some u):=by
     intro jj u hjj;match jj,hjj with
     | 0,hjj=>simp at hjj;subst hjj;simp[Addr.add]
    have hB2:=hB.alloc hsz (.cells #[.int .u8 ((s[k]'hlt).toNat:Int)] 5);have hO2:=hV.1.alloc (.cells #[.int .u8 ((s[k]'hlt).toNat:Int)] 5);have hs2:H≤(w1.alloc (.cells #[.int .u8 ((s[k]'hlt).toNat:Int)] 5)).heap.size:=by simp;omega
    have hlen2:o2.length≤1000000:=by omega
    go_wp2_with (at_builtin;refine wpList_append_own _ rfl _ _ 50 rfl H 5 i0 (.int .u8 0) 1 1 Tryz.underlying50 HII.out HZ0.out HZ1.out HZ2.out rfl (by decide) _ o2.length (Lib.byteCells o2) rfl hO2 ⟨w1.heap.size,0,none⟩ 1 1 [.int .u8 ((s[k]'hlt).toNat:Int)] rfl rfl HN2.out (by intro u hu;simp at hu;subst hu;rfl) ?c3 ?c4 ?c5 ?_)
    case c3=>unfold maxLen;omega
    case c4=>omega
    case c5=>exact hs2
    intro v2 w2 hown2 hgrow2 _;have hBn:Below H w w2:=hB2.grown hgrow2 hs2 (fun g hg=>(World.ownsRow.lt hO2 g hg).1);have hVn:Byts H v2 (o2++[s[k]'hlt]) w2:=Byts.grow (c:=s[k]'hlt) hown2;have hsn:H≤w2.heap.size:=Nat.le_trans hs2 hgrow2.size;clear hB hV hsz hB2 hO2 hs2 hlen2 hown2 hgrow2 HN2;have hB:=hBn;have hV:=hVn;have hsz:=hsn;clear hBn hVn hsn;go_wp2_with fail
    go_roundw
    case rel=>exact⟨k+1,v2,rfl,by omega,by go_num,hB,hsz,by rw[HSt.out,HE.out,←List.cons_append,HO.out];rw[←HO2.out,List.append_assoc]at hV;exact hV⟩
    case measure=>simp[intOf];omega
   ·have t1:(((s[k]'hlt).toNat:Int)==34)=false:=by rw[beq_eq_false_iff_ne];intro e;exact h34 (UInt8.toNat_inj.1 (by show _=34;omega))
    by_cases h92:s[k]'hlt=92
    ·have t2:(((s[k]'hlt).toNat:Int)==92)=true:=by rw[h92];rfl
     have he:escB (s[k]'hlt)=[92,s[k]'hlt]:=by unfold escB;rw[if_pos (.inr h92)]
     have HE:=zh he;clear he h34 h92;have HN1:Hid (∀ jj u,[Value.int .u8 92][jj]?=some u→(wr.alloc (.cells #[.int .u8 92] 5)).cell? ((⟨wr.heap.size,0,none⟩:Addr).add jj)=some u):=by
      intro jj u hjj;match jj,hjj with
      | 0,hjj=>simp at hjj;subst hjj;simp[Addr.add]
     have hB1:=hB.alloc hsz (.cells #[.int .u8 92] 5);have hO1:=hV.1.alloc (.cells #[.int .u8 92] 5);have hs1:H≤(wr.alloc (.cells #[.int .u8 92] 5)).heap.size:=by simp;omega
     have hlen1:o.length≤1000000:=by omega
     go_wp2_with (at_builtin;refine wpList_append_own _ rfl _ _ 50 rfl H 5 i0 (.int .u8 0) 1 1 Tryz.underlying50 HII.out HZ0.out HZ1.out HZ2.out rfl (by decide) _ o.length (Lib.byteCells o) rfl hO1 ⟨wr.heap.size,0,none⟩ 1 1 [.int .u8 92] rfl rfl HN1.out (by intro u hu;simp at hu;subst hu;rfl) ?c3 ?c4 ?c5 ?_)
     case c3=>unfold maxLen;omega
     case c4=>omega
     case c5=>exact hs1
     intro v1 w1 hown1 hgrow1 _;have hBn:Below H w w1:=hB1.grown hgrow1 hs1 (fun g hg=>(World.ownsRow.lt hO1 g hg).1);have hVn:Byts H v1 (o++[92]) w1:=Byts.grow (c:=92) hown1;have hsn:H≤w1.heap.size:=Nat.le_trans hs1 hgrow1.size;clear hB hV hsz hB1 hO1 hs1 hlen1 hown1 hgrow1 HN1;have hB:=hBn;have hV:=hVn;have hsz:=hsn;clear hBn hVn hsn;have hol2:(o++[92]).length≤2*k+2:=by rw[List.length_append,List.length_singleton];omega
     generalize ho2:o++[92]=o2 at *;have HO2:=zh ho2;clear ho2;have HN2:Hid (∀ jj u,[Value.int .u8 ((s[k]'hlt).toNat:Int)][jj]?=some u→(w1.alloc (.cells #[.int .u8 ((s[k]'hlt).toNat:Int)] 5)).cell? ((⟨w1.heap.size,0,none⟩:Addr).add jj)=some u):=by
      intro jj u hjj;match jj,hjj with
      | 0,hjj=>simp at hjj;subst hjj;simp[Addr.add]
     have hB2:=hB.alloc hsz (.cells #[.int .u8 ((s[k]'hlt).toNat:Int)] 5);have hO2:=hV.1.alloc (.cells #[.int .u8 ((s[k]'hlt).toNat:Int)] 5);have hs2:H≤(w1.alloc (.cells #[.int .u8 ((s[k]'hlt).toNat:Int)] 5)).heap.size:=by simp;omega
     have hlen2:o2.length≤1000000:=by omega
     go_wp2_with (at_builtin;refine wpList_append_own _ rfl _ _ 50 rfl H 5 i0 (.int .u8 0) 1 1 Tryz.underlying50 HII.out HZ0.out HZ1.out HZ2.out rfl (by decide) _ o2.length (Lib.byteCells o2) rfl hO2 ⟨w1.heap.size,0,none⟩ 1 1 [.int .u8 ((s[k]'hlt).toNat:Int)] rfl rfl HN2.out (by intro u hu;simp at hu;subst hu;rfl) ?c3 ?c4 ?c5 ?_)
     case c3=>unfold maxLen;omega
     case c4=>omega
     case c5=>exact hs2
     intro v2 w2 hown2 hgrow2 _;have hBn:Below H w w2:=hB2.grown hgrow2 hs2 (fun g hg=>(World.ownsRow.lt hO2 g hg).1);have hVn:Byts H v2 (o2++[s[k]'hlt]) w2:=Byts.grow (c:=s[k]'hlt) hown2;have hsn:H≤w2.heap.size:=Nat.le_trans hs2 hgrow2.size;clear hB hV hsz hB2 hO2 hs2 hlen2 hown2 hgrow2 HN2;have hB:=hBn;have hV:=hVn;have hsz:=hsn;clear hBn hVn hsn;go_wp2_with fail
     go_roundw
     case rel=>exact⟨k+1,v2,rfl,by omega,by go_num,hB,hsz,by rw[HSt.out,HE.out,←List.cons_append,HO.out];rw[←HO2.out,List.append_assoc]at hV;exact hV⟩
     case measure=>simp[intOf];omega
    ·have t2:(((s[k]'hlt).toNat:Int)==92)=false:=by rw[beq_eq_false_iff_ne];intro e;exact h92 (UInt8.toNat_inj.1 (by show _=92;omega))
     have he:escB (s[k]'hlt)=[s[k]'hlt]:=by unfold escB;rw[if_neg (by rintro(e|e)<;>contradiction)]
     have HE:=zh he;clear he h34 h92;have HN1:Hid (∀ jj u,[Value.int .u8 ((s[k]'hlt).toNat:Int)][jj]?=some u→(wr.alloc (.cells #[.int .u8 ((s[k]'hlt).toNat:Int)] 5)).cell? ((⟨wr.heap.size,0,none⟩:Addr).add jj)=some u):=by
      intro jj u hjj;match jj,hjj with
      | 0,hjj=>simp at hjj;subst hjj;simp[Addr.add]
     have hB1:=hB.alloc hsz (.cells #[.int .u8 ((s[k]'hlt).toNat:Int)] 5);have hO1:=hV.1.alloc (.cells #[.int .u8 ((s[k]'hlt).toNat:Int)] 5);have hs1:H≤(wr.alloc (.cells #[.int .u8 ((s[k]'hlt).toNat:Int)] 5)).heap.size:=by simp;omega
     have hlen1:o.length≤1000000:=by omega
     go_wp2_with (at_builtin;refine wpList_append_own _ rfl _ _ 50 rfl H 5 i0 (.int .u8 0) 1 1 Tryz.underlying50 HII.out HZ0.out HZ1.out HZ2.out rfl (by decide) _ o.length (Lib.byteCells o) rfl hO1 ⟨wr.heap.size,0,none⟩ 1 1 [.int .u8 ((s[k]'hlt).toNat:Int)] rfl rfl HN1.out (by intro u hu;simp at hu;subst hu;rfl) ?c3 ?c4 ?c5 ?_)
     case c3=>unfold maxLen;omega
     case c4=>omega
     case c5=>exact hs1
     intro v1 w1 hown1 hgrow1 _;have hBn:Below H w w1:=hB1.grown hgrow1 hs1 (fun g hg=>(World.ownsRow.lt hO1 g hg).1);have hVn:Byts H v1 (o++[s[k]'hlt]) w1:=Byts.grow (c:=s[k]'hlt) hown1;have hsn:H≤w1.heap.size:=Nat.le_trans hs1 hgrow1.size;clear hB hV hsz hB1 hO1 hs1 hlen1 hown1 hgrow1 HN1;have hB:=hBn;have hV:=hVn;have hsz:=hsn;clear hBn hVn hsn;go_wp2_with fail
     go_roundw
     case rel=>exact⟨k+1,v1,rfl,by omega,by go_num,hB,hsz,by rw[HSt.out,HE.out,←List.cons_append,HO.out];exact hV⟩
     case measure=>simp[intOf];omega
  ·have t0:decide ((k:Int)<(s.size:Int))=false:=by simp;omega
   have t0':¬ k<s.size:=hlt;have hks:k=s.size:=by omega
   have htk:s.data.toList.take k=s.data.toList:=List.take_of_length_le (by rw[HL.out];omega);rw[htk]at hV hlo;have hQ2:=HQ.out;generalize ho:(34::s.data.toList.flatMap escB)=o at *;have hol:o.length≤2*k+1:=by rw[←ho,List.length_cons];omega
   have HO:Hid (quoteB s.data.toList=o++[34]):=by show _=_;rw[hQ2,←ho];rfl
   clear ho hlo htk hks hQ2;have HN1:Hid (∀ jj u,[Value.int .u8 34][jj]?=some u→(wr.alloc (.cells #[.int .u8 34] 5)).cell? ((⟨wr.heap.size,0,none⟩:Addr).add jj)=some u):=by
    intro jj u hjj;match jj,hjj with
    | 0,hjj=>simp at hjj;subst hjj;simp[Addr.add]
   have hB1:=hB.alloc hsz (.cells #[.int .u8 34] 5);have hO1:=hV.1.alloc (.cells #[.int .u8 34] 5);have hs1:H≤(wr.alloc (.cells #[.int .u8 34] 5)).heap.size:=by simp;omega
   have hlen1:o.length≤1000000:=by omega
   go_wp2_with (at_builtin;refine wpList_append_own _ rfl _ _ 50 rfl H 5 i0 (.int .u8 0) 1 1 Tryz.underlying50 HII.out HZ0.out HZ1.out HZ2.out rfl (by decide) _ o.length (Lib.byteCells o) rfl hO1 ⟨wr.heap.size,0,none⟩ 1 1 [.int .u8 34] rfl rfl HN1.out (by intro u hu;simp at hu;subst hu;rfl) ?c3 ?c4 ?c5 ?_)
   case c3=>unfold maxLen;omega
   case c4=>omega
   case c5=>exact hs1
   intro v1 w1 hown1 hgrow1 _;have hBn:Below H w w1:=hB1.grown hgrow1 hs1 (fun g hg=>(World.ownsRow.lt hO1 g hg).1);have hVn:Byts H v1 (o++[34]) w1:=Byts.grow (c:=34) hown1;have hsn:H≤w1.heap.size:=Nat.le_trans hs1 hgrow1.size;clear hB hV hsz hB1 hO1 hs1 hlen1 hown1 hgrow1 HN1;have hB:=hBn;have hV:=hVn;have hsz:=hsn;clear hBn hVn hsn;have hcv:=hV.conv
   go_wp2_with fail
   go_ret;exact⟨ret_val (by rw[HO.out];rfl),by rw[HH.out];exact hB⟩
end
section
open Go.RowKit
theorem rTextC_any (d:Nat) (v:VT) (cs:Array Value) (w:World) (h:ValAt w d v cs) (hc:constB v=true):Calls Tryz.prog 19 #[.agg cs] w (Gives (.string ⟨(textC v).toArray⟩) w):=by
 have hf:F64 v.flt:=by cases d with|zero=>exact h.elim|succ d=>obtain⟨_,_,_,_,_,h4,_⟩:=h;exact h4
 have hn : -9223372036854775808≤v.num∧v.num≤9223372036854775807:=by cases d with|zero=>exact h.elim|succ d=>obtain⟨_,_,_,_,h3,_⟩:=h;exact h3
 obtain⟨pp,pc,p,cap,rfl⟩:=h.sixS;have hB:Below w.heap.size w (w.alloc (.cells #[.int .i64 v.kind,.int .i64 v.num,.float .f64 v.flt,.string ⟨v.str.toArray⟩,.slice pp v.names.length pc,.slice p v.items.length cap] 26)):=(Below.refl _ _).alloc (Nat.le_refl _) _;have hnew:(w.alloc (.cells #[.int .i64 v.kind,.int .i64 v.num,.float .f64 v.flt,.string ⟨v.str.toArray⟩,.slice pp v.names.length pc,.slice p v.items.length cap] 26)).heap[w.heap.size]?=some (.cells #[.int .i64 v.kind,.int .i64 v.num,.float .f64 v.flt,.string ⟨v.str.toArray⟩,.slice pp v.names.length pc,.slice p v.items.length cap] 26 (0,0)):=heap_alloc_new w _;have hT:=textC.eq_1 v;clear h;rcases const_kind hc with k|k|k|k
 ·have e1:(v.kind==1)=true:=by rw[k];rfl
  rw[if_pos k]at hT;rcases right_bool (const_right hc) k with k0|k0
  ·have e2:(v.num==1)=false:=by rw[k0];rfl
   rw[if_pos k0]at hT;have HT:=zh hT;clear hT k k0 hc hn hf;go_in;go_upto_region 1 with (fail)
   generalize w.alloc (.cells #[.int .i64 v.kind,.int .i64 v.num,.float .f64 v.flt,.string ⟨v.str.toArray⟩,.slice pp v.names.length pc,.slice p v.items.length cap] 26)=W1 at *;have nA:=hnew;obtain⟨c0,c1,c2,c3,c4,c5⟩:=cells6 nA;clear nA;go_wp2_with fail
   go_ret;exact⟨ret_val (by rw[HT.out]<;>rfl),hB⟩
  ·have e2:(v.num==1)=true:=by rw[k0];rfl
   rw[if_neg (by omega)]at hT;have HT:=zh hT;clear hT k k0 hc hn hf;go_in;go_upto_region 1 with (fail)
   generalize w.alloc (.cells #[.int .i64 v.kind,.int .i64 v.num,.float .f64 v.flt,.string ⟨v.str.toArray⟩,.slice pp v.names.length pc,.slice p v.items.length cap] 26)=W1 at *;have nA:=hnew;obtain⟨c0,c1,c2,c3,c4,c5⟩:=cells6 nA;clear nA;go_wp2_with fail
   go_ret;exact⟨ret_val (by rw[HT.out]<;>rfl),hB⟩
 ·have e1:(v.kind==1)=false:=by rw[k];rfl
  have e2:(v.kind==2)=true:=by rw[k];rfl
  rw[if_neg (by omega),if_pos k]at hT;have hp:0≤v.num:=by
   unfold constB at hc;rw[if_neg (by omega),if_pos k,Bool.and_eq_true,decide_eq_true_eq]at hc;exact hc.2
  obtain⟨N,hN⟩:=Int.eq_ofNat_of_zero_le hp;have t0:decide (v.num<0)=false:=by simp;omega
  have hw:IntKind.u64.wrap v.num=(N:Int):=by rw[hN,IntKind.wrap_u64];omega
  have hD:=zh (rdigits_any N (by omega));rw[hN,itoa_pos']at hT;have HT:=zh hT;clear hT k hc hn hf hN hp;go_in;go_upto_region 1 with (fail)
  generalize w.alloc (.cells #[.int .i64 v.kind,.int .i64 v.num,.float .f64 v.flt,.string ⟨v.str.toArray⟩,.slice pp v.names.length pc,.slice p v.items.length cap] 26)=W1 at *;have nA:=hnew;obtain⟨c0,c1,c2,c3,c4,c5⟩:=cells6 nA;clear nA;go_wp2_with fail
  refine(hD.out _).mono ?_;rintro e w2 ⟨rfl,hb2⟩;go_wp2_with fail
  go_ret;exact⟨ret_val (by rw[HT.out]<;>rfl),hB.trans (hb2.mono hB.size)⟩
 ·have e1:(v.kind==1)=false:=by rw[k];rfl
  have e2:(v.kind==2)=false:=by rw[k];rfl
  have e3:(v.kind==3)=true:=by rw[k];rfl
  rw[if_neg (by omega),if_neg (by omega),if_pos k]at hT;have hD:=zh (fun w=>rtext_any v.flt hf w);have HT:=zh hT;clear hT k hc hn hf;go_in;go_upto_region 1 with (fail)
  generalize w.alloc (.cells #[.int .i64 v.kind,.int .i64 v.num,.float .f64 v.flt,.string ⟨v.str.toArray⟩,.slice pp v.names.length pc,.slice p v.items.length cap] 26)=W1 at *;have nA:=hnew;obtain⟨c0,c1,c2,c3,c4,c5⟩:=cells6 nA;clear nA;go_wp2_with fail
  refine(hD.out _).mono ?_;rintro e w2 ⟨rfl,hb2⟩;go_wp2_with fail
  go_ret;exact⟨ret_val (by rw[HT.out]<;>rfl),hB.trans (hb2.mono hB.size)⟩
 ·have e1:(v.kind==1)=false:=by rw[k];rfl
  have e2:(v.kind==2)=false:=by rw[k];rfl
  have e3:(v.kind==3)=false:=by rw[k];rfl
  have e4:(v.kind==4)=true:=by rw[k];rfl
  rw[if_neg (by omega),if_neg (by omega),if_neg (by omega)]at hT;have hD:=zh (rquote_any ⟨v.str.toArray⟩ (by have:=right_str (const_right hc) k;show v.str.toArray.size≤_;simp;omega));have HT:=zh hT;clear hT k hc hn hf;go_in;go_upto_region 1 with (fail)
  generalize w.alloc (.cells #[.int .i64 v.kind,.int .i64 v.num,.float .f64 v.flt,.string ⟨v.str.toArray⟩,.slice pp v.names.length pc,.slice p v.items.length cap] 26)=W1 at *;have nA:=hnew;obtain⟨c0,c1,c2,c3,c4,c5⟩:=cells6 nA;clear nA;go_wp2_with fail
  refine(hD.out _).mono ?_;rintro e w2 ⟨rfl,hb2⟩;go_wp2_with fail
  go_ret;exact⟨ret_val (by rw[HT.out]<;>rfl),hB.trans (hb2.mono hB.size)⟩
end
end Go.Proofs.YtaaaaggmhjhkkaaGreatDoor
