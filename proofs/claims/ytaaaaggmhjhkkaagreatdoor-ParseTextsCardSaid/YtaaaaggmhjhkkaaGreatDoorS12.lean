/-
  E0 in one text.
-/
import Derived.Test.YtaaaaggmhjhkkaaGreatDoorS08
import Derived.Test.YtaaaaggmhjhkkaaGreatDoorS11
namespace Go.Proofs.YtaaaaggmhjhkkaaGreatDoor
open Go
/-- an expression: its kind, text, value, names, kids -/
inductive ET where
 | mk (kind:Int) (str:List UInt8) (v:VT) (names:List (List UInt8)) (kids:List ET)
def ET.kind:ET→Int|.mk k _ _ _ _=>k
def ET.str:ET→List UInt8|.mk _ s _ _ _=>s
def ET.v:ET→VT|.mk _ _ v _ _=>v
def ET.names:ET→List (List UInt8)|.mk _ _ _ ns _=>ns
def ET.kids:ET→List ET|.mk _ _ _ _ ks=>ks
def noET:ET:=.mk 0 [] noVT [] []
mutual
/-- parts, counted on from n, while there are fewer than 500 -/
def countE:ET→Nat→Nat
 | .mk _ _ _ _ ks,n=>countEL ks (n+1)
def countEL:List ET→Nat→Nat
 | [],n=>n
 | x::xs,n=>if 500≤n then n else countEL xs (countE x n)
end
mutual
theorem countE_le:∀ (x:ET) (n:Nat),n<500→countE x n≤500∧n<countE x n
 | .mk _ _ _ _ ks,n,h=>by
  have:=countEL_le ks (n+1) (by omega);rw[countE];omega
theorem countEL_le:∀ (l:List ET) (n:Nat),n≤500→countEL l n≤500∧n≤countEL l n
 | [],n,h=>by rw[countEL];omega
 | x::xs,n,h=>by
  rw[countEL];by_cases hn:500≤n
  ·rw[if_pos hn];omega
  ·rw[if_neg hn];have h1:=countE_le x n (by omega);have h2:=countEL_le xs (countE x n) h1.1;omega
end
/-- how many kids a kind has; -1: any; -2: there is no such kind -/
def wantsE (k:Int):Int :=
 if k=1∨k=2 then 0
 else if k=3∨k=4∨k=18∨(20≤k∧k≤23) then 1
 else if (5≤k∧k≤14)∨k=19 then 2
 else if k=15 then 3
 else if k=16∨k=17 then -1
 else -2
/-- what may be a field's name -/
def fieldB (l:List UInt8):Bool:=nmB l&&(l != [110,97,110])&&(l != [105,110,102])
/-- fields' names, each behind the one before it -/
def rowE:List (List UInt8)→Bool
 | []=>true
 | [a]=>fieldB a
 | a::b::l=>fieldB a&&Op.bytesLess a b&&rowE (b::l)
def constB (v:VT):Bool :=
 if v.kind=1∨v.kind=4 then rightB v
 else if v.kind=2 then rightB v&&decide (0≤v.num)
 else if v.kind=3 then rightB v&&decide (0≤ordB v.flt 0)
 else false
def noneV (v:VT):Bool:=decide (v.kind=0)&&bareV v false false false false
/-- text and names are what they must be -/
def namedE (k:Int) (s:List UInt8) (ns:List (List UInt8)) (n:Nat):Bool :=
 if k=2 then !wordS s&&nmB s&&ns.isEmpty
 else if k=18 then fieldB s&&ns.isEmpty
 else if k=17 then s.isEmpty&&rowE ns&&decide (ns.length=n)
 else s.isEmpty&&ns.isEmpty
mutual
/-- right, within so many -/
def rightE:ET→Nat→Bool
 | .mk k s v ns ks,far =>
  if far<1 then false
  else decide (wantsE k ≠ -2)&&decide (wantsE k = -1∨(ks.length:Int)=wantsE k)&&namedE k s ns ks.length&&(if k=1 then constB v else noneV v)&&rightEL ks (far - 1)
def rightEL:List ET→Nat→Bool
 | [],_=>true
 | x::xs,far=>rightE x far&&rightEL xs far
end
/-- a right expression -/
def rightEx (x:ET):Bool:=decide (countE x 0≤200)&&rightE x 12
def signsB:List (List UInt8):=[[43],[45],[42],[47],[37],[61,61],[60],[60,61],[38,38],[124,124]]
def callsB:List (List UInt8):=[[108,101,110],[102,108,111,97,116],[105,110,116],[115,116,114]]
/-- a constant's text -/
def textC (v:VT):List UInt8 :=
 if v.kind=1 then(if v.num=0 then [102,97,108,115,101] else [116,114,117,101])
 else if v.kind=2 then Lib.itoa v.num
 else if v.kind=3 then textB v.flt
 else quoteB v.str
/-- texts in a row, with names or without -/
def rowJ (named:Bool):Bool→List (List UInt8)→List (List UInt8)→List UInt8
 | _,_,[]=>[]
 | fst,ns,t::ts=>(if fst then [] else [44])++((if named then ns.headD []++[58] else [])++(t++rowJ named false ns.tail ts))
/-- the text of what a field, or an index, is taken of -/
def firstT (k:Int) (t:List UInt8):List UInt8:=if k=1 then 40::(t++[41]) else t
mutual
def textE:ET→List UInt8
 | .mk k s v ns ks =>
  let ts:=textEL ks
  if k=1 then textC v
  else if k=2 then s
  else if k=3 then [40,45]++ts.getD 0 []++[41]
  else if k=4 then [40,33]++ts.getD 0 []++[41]
  else if k=15 then [40]++ts.getD 0 []++[63]++ts.getD 1 []++[58]++ts.getD 2 []++[41]
  else if k=16 then [91]++rowJ false true ns ts++[93]
  else if k=17 then [123]++rowJ true true ns ts++[125]
  else if k=18 then firstT (ks.getD 0 noET).kind (ts.getD 0 [])++[46]++s
  else if k=19 then firstT (ks.getD 0 noET).kind (ts.getD 0 [])++[91]++ts.getD 1 []++[93]
  else if 20≤k∧k≤23 then callsB.getD (k - 20).toNat []++[40]++ts.getD 0 []++[41]
  else [40]++ts.getD 0 []++signsB.getD (k - 5).toNat []++ts.getD 1 []++[41]
def textEL:List ET→List (List UInt8)
 | []=>[]
 | x::xs=>textE x::textEL xs
end
/-- a token, wherever it stands -/
structure Te where
 kind:Int
 num:Int
 flt:Nat
 str:List UInt8
def Tk.te (k:Tk):Te:=⟨k.kind,k.num,k.flt,k.str⟩
/-- why there is no expression: too deep; or a token that can't stand there, with so many left -/
inductive PErr where
 | deep
 | form (left:Nat)
abbrev PR:=Except PErr (ET × List Te)
def idxS (signs:List (List UInt8)) (s:List UInt8):Option Nat:=if signs.contains s then some (signs.idxOf s) else none
/-- the next token, if it is one of some signs -/
def takeS (signs:List (List UInt8)):List Te→Option (Nat × List Te)
 | []=>none
 | t::r=>if t.kind=6 then(match idxS signs t.str with|some i=>some (i,r)|none=>none) else none
def wantS (s:List UInt8) (l:List Te):Except PErr (List Te):=match takeS [s] l with|some (_,r)=>.ok r|none=>.error (.form l.length)
def nameT:List Te→Except PErr (List UInt8 × List Te)
 | []=>.error (.form 0)
 | t::r=>if t.kind=5 then .ok (t.str,r) else .error (.form (r.length+1))
def oneE (k:Int) (x:ET):ET:=.mk k [] noVT [] [x]
def twoE (k:Int) (x y:ET):ET:=.mk k [] noVT [] [x,y]
def conE (v:VT):ET:=.mk 1 [] v [] []
/-- fields or indexes behind it -/
def postL (E:List Te→PR):Nat→ET→List Te→PR
 | 0,x,l=>.ok (x,l)
 | n+1,x,l =>
  match takeS [[46],[91]] l with
  | none=>.ok (x,l)
  | some (0,r)=>(match nameT r with|.error e=>.error e|.ok (s,r2)=>postL E n (.mk 18 s noVT [] [x]) r2)
  | some (_,r)=>(match E r with|.error e=>.error e|.ok (y,r2)=>(match wantS [93] r2 with|.error e=>.error e|.ok r3=>postL E n (twoE 19 x y) r3))
/-- a list's items -/
def rowL (E:List Te→PR):Nat→List ET→List Te→PR
 | 0,xs,l=>.ok (.mk 16 [] noVT [] xs,l)
 | n+1,xs,l =>
  match E l with
  | .error e=>.error e
  | .ok (x,r)=>match takeS [[44]] r with
   | some (_,r2)=>rowL E n (xs++[x]) r2
   | none=>(match wantS [93] r with|.error e=>.error e|.ok r2=>.ok (.mk 16 [] noVT [] (xs++[x]),r2))
/-- how many names stand ahead of one -/
def aheadN (ns:List (List UInt8)) (s:List UInt8):Nat:=(ns.takeWhile fun a=>Op.bytesLess a s).length
/-- a record's items, by name -/
def recL (E:List Te→PR):Nat→List (List UInt8)→List ET→List Te→PR
 | 0,ns,xs,l=>.ok (.mk 17 [] noVT ns xs,l)
 | n+1,ns,xs,l =>
  match nameT l with
  | .error e=>.error e
  | .ok (s,r) =>
   if ns[aheadN ns s]?=some s then .error (.form l.length)
   else match wantS [58] r with
   | .error e=>.error e
   | .ok r2=>match E r2 with
    | .error e=>.error e
    | .ok (x,r3) =>
     let ns2:=ns.take (aheadN ns s)++s::ns.drop (aheadN ns s)
     let xs2:=xs.take (aheadN ns s)++x::xs.drop (aheadN ns s)
     match takeS [[44]] r3 with
     | some (_,r4)=>recL E n ns2 xs2 r4
     | none=>(match wantS [125] r3 with|.error e=>.error e|.ok r4=>.ok (.mk 17 [] noVT ns2 xs2,r4))
def wordF (E:List Te→PR) (l:List Te):PR :=
 match nameT l with
 | .error e=>.error e
 | .ok (s,r) =>
  if s=[116,114,117,101] then .ok (conE (.mk 1 1 0 [] [] []),r)
  else if s=[102,97,108,115,101] then .ok (conE (.mk 1 0 0 [] [] []),r)
  else match idxS callsB s with
  | none=>.ok (.mk 2 s noVT [] [],r)
  | some i=>match wantS [40] r with
   | .error e=>.error e
   | .ok r2=>match E r2 with
    | .error e=>.error e
    | .ok (x,r3)=>(match wantS [41] r3 with|.error e=>.error e|.ok r4=>.ok (oneE (20+(i:Int)) x,r4))
def primF (E:List Te→PR) (l:List Te):PR :=
 match takeS [[40],[91],[123]] l with
 | some (0,r)=>(match E r with|.error e=>.error e|.ok (x,r2)=>(match wantS [41] r2 with|.error e=>.error e|.ok r3=>.ok (x,r3)))
 | some (1,r)=>(match takeS [[93]] r with|some (_,r2)=>.ok (.mk 16 [] noVT [] [],r2)|none=>rowL E (r.length+1) [] r)
 | some (_,r)=>(match takeS [[125]] r with|some (_,r2)=>.ok (.mk 17 [] noVT [] [],r2)|none=>recL E (r.length+1) [] [] r)
 | none=>match l with
  | []=>.error (.form 0)
  | t::r =>
   if t.kind=2 then .ok (conE (.mk 2 t.num 0 [] [] []),r)
   else if t.kind=3 then .ok (conE (.mk 3 0 t.flt [] [] []),r)
   else if t.kind=4 then .ok (conE (.mk 4 0 0 t.str [] []),r)
   else if t.kind=5 then wordF E (t::r)
   else .error (.form (r.length+1))
def postF (E:List Te→PR) (l:List Te):PR:=match primF E l with|.error e=>.error e|.ok (x,r)=>postL E (r.length+1) x r
structure Lv where
 signs:List (List UInt8)
 kinds:List Int
 once:Bool
def levelsB:List Lv:=[⟨[[124,124]],[14],false⟩,⟨[[38,38]],[13],false⟩,⟨[[61,61],[60],[60,61]],[10,11,12],true⟩,⟨[[43],[45]],[5,6],false⟩,⟨[[42],[47],[37]],[7,8,9],false⟩]
def binL (B:List Te→PR) (lv:Lv):Nat→ET→List Te→PR
 | 0,x,l=>.ok (x,l)
 | n+1,x,l =>
  match takeS lv.signs l with
  | none=>.ok (x,l)
  | some (i,r)=>match B r with
   | .error e=>.error e
   | .ok (y,r2)=>if lv.once then .ok (twoE (lv.kinds.getD i 0) x y,r2) else binL B lv n (twoE (lv.kinds.getD i 0) x y) r2
def binF (U:List Te→PR):List Lv→List Te→PR
 | [],l=>U l
 | lv::lvs,l=>match binF U lvs l with|.error e=>.error e|.ok (x,r)=>binL (binF U lvs) lv (r.length+1) x r
def unF (E U:List Te→PR) (l:List Te):PR :=
 match takeS [[45],[33]] l with
 | some (0,r)=>(match U r with|.error e=>.error e|.ok (x,r2)=>.ok (oneE 3 x,r2))
 | some (_,r)=>(match U r with|.error e=>.error e|.ok (x,r2)=>.ok (oneE 4 x,r2))
 | none=>postF E l
def exF (E U:List Te→PR) (l:List Te):PR :=
 match binF U levelsB l with
 | .error e=>.error e
 | .ok (x,r)=>match takeS [[63]] r with
  | none=>.ok (x,r)
  | some (_,r2)=>match E r2 with
   | .error e=>.error e
   | .ok (y,r3)=>match wantS [58] r3 with
    | .error e=>.error e
    | .ok r4=>(match E r4 with|.error e=>.error e|.ok (z,r5)=>.ok (.mk 15 [] noVT [] [x,y,z],r5))
/-- an expr, and a unary, with so many levels left -/
def exUn:Nat→(List Te→PR) × (List Te→PR)
 | 0=>(fun _=>.error .deep,fun _=>.error .deep)
 | n+1=>(exF (exUn n).1 (exUn n).2,unF (exUn n).1 (exUn n).2)
/-- a text's expression, or its error, with its place -/
def parseX (l:List UInt8):ET × Nat × Int :=
 if 2000<l.length then(noET,0,3)
 else if (tokens l).2.2≠0 then(noET,(tokens l).2.1,(tokens l).2.2)
 else
  let pos:=fun n=>if n=0 then l.length else((tokens l).1.getD ((tokens l).1.length - n) noTk).pos
  match (exUn 100).1 ((tokens l).1.map Tk.te) with
  | .error .deep=>(noET,0,15)
  | .error (.form n)=>(noET,pos n,5)
  | .ok (x,r)=>if r≠[] then(noET,pos r.length,5) else if rightEx x then(x,0,0) else(noET,0,15)
end Go.Proofs.YtaaaaggmhjhkkaaGreatDoor
