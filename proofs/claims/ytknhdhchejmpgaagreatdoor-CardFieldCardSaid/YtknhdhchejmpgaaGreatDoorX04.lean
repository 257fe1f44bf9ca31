import Derived.Test.YtknhdhchejmpgaaGreatDoorX03
import Derived.Below
/- A part of a proof (no law is stated here). Made by program out of texts by AI agents. -/
open Nat renaming beq → zc, add → ze, blt → zg, ble → zj, mul → zk
open Int renaming toNat → zd
open BitVec renaming ofInt → zf
open Go.Op renaming bytesLess → zh
open List renaming replicate → zi
section
namespace Go.Det
noncomputable section
def Na(P:Program):Nat→Nat→Bool
 |0,_=>true
 |n+1,a=>(match Pa P (fun _=>true) a with|some i=>Dn i.body|none=>true)&&Na P n (a+1)
variable {P:Program}
theorem Py{ct:FuncId→Bool}{f:FuncId}{i:Fn}(hi:Pa P ct f=some i):Pa P (fun _=>true) f=some { i with cert:=true }∧i.cert=ct f:=by
 unfold Pa at hi ⊢;cases hf:P.funcs[f]? with
 |none=>rw[hf]at hi;cases hi
 |some fn=>
  rw[hf]at hi;simp only at hi ⊢;cases hb:fn.body with
  |none=>rw[hb]at hi;cases hi
  |some b=>
   rw[hb]at hi;simp only at hi ⊢;split at hi
   ·cases hi
   ·rename_i hn;rw[if_neg hn];cases hi;exact⟨rfl,rfl⟩
theorem Hz{f:Nat}{i:Fn}{ct:FuncId→Bool}(hi:Pa P ct f=some i):∀ {n a:Nat},Na P n a=true→a≤f→f<a+n→Dn i.body=true
 |0,a,_,h1,h2=>by omega
 |n+1,a,h,h1,h2=>by
  simp only[Na,Bool.and_eq_true]at h;by_cases e:a=f
  ·subst e;rw[(Py hi).1]at h;exact h.1
  ·exact Hz hi h.2 (by omega) (by omega)
def vM(P:Program)(N:Nat)(L:List (FuncId×PK)):Ctx:=⟨mR P,0,Pa P (fun f=>zg f N),Q1 L,fun _=>none,true⟩
theorem XD{N:Nat}{L:List (FuncId×PK)}(h:∀f i,f<N→Pa P (fun f=>zg f N) f=some i→Dn i.body=true):FE (vM P N L):=by
 intro f i hi hc;have hi:Pa P (fun f=>zg f N) f=some i:=hi;rw[(Py hi).2]at hc;exact h f i (Nat.le_of_ble_eq_true hc) hi
theorem nQ{N:Nat}{L:List (FuncId×PK)}(hL:∀x∈L,HX P x):(vM P N L).Ok P where
 T:=oT P
 fn:=fun _ _ h=>iD (P:=P) (ct:=fun f=>zg f N) h
 prim:=fun f q hq p h w args args' v h' hr _ ha hd=>VW hL f q hq p h w args args' v h' hr ha hd
 spec:=fun f q hq=>by cases hq
end
end Go.Det
end
section
namespace Go.Pe
open Go.Det
inductive Sh where
 |int (k:IntKind)
 |bool
 |str
 |list (s:Sh)
 |pair (a b:Sh)
 |unit
 |nlist (s:Sh)
 |fnv
 deriving DecidableEq
@[reducible] def Sh.T:Sh→Type
 | .int _=>Int
 | .bool=>Bool
 | .str=>List UInt8
 | .list s=>List s.T
 | .pair a b=>a.T×b.T
 | .unit=>Unit
 | .nlist s=>List s.T
 | .fnv=>Option Fn
noncomputable section
def Sh.GU:(s:Sh)→s.T
 | .int _=>(0:Int)
 | .bool=>false
 | .str=>([]:List UInt8)
 | .list _=>[]
 | .pair a b=>(a.GU,b.GU)
 | .unit=>()
 | .nlist _=>[]
 | .fnv=>none
def Sh.sz:Sh→Nat
 | .pair a b=>ze a.sz b.sz
 | .unit=>0
 |_=>1
inductive PV where
 |any
 |bl (b:Bool)
 |ub
 |dat (s:Sh) (x:s.T)
 |nil|nilp|nilm|nilf|nili
 |agg (l:List PV)
 |tup (l:List PV)
 |ptr (id off:Nat)
 |eptr (id sz i off:Nat)
 |Fp (s:Sh) (x:s.T) (off:Nat)
 |sl (id sz off len:Nat) (cap:Option Nat)
 |mp (id:Nat)
 |fn (f:Fn) (first captured:List PV)
 |yl (id:Nat)
inductive vK where
 |ready|busy|ret
 |exit (i:Nat)
inductive Obj where
 |arr (fz:Bool) (e:TypeId) (s:Sh) (l:List s.T)
 |box (cs:List PV)
 |tbox (t:TypeId) (cs:List PV)
 |map (ks vs:Sh) (l:List (ks.T×vs.T))
 |siter (s:List UInt8) (pos:Nat)
 |lp (f:FuncId) (r:Nat) (ps:Array Tmp) (asg body:Code) (s:vK) (n:Nat) (sl:List (Nat×PV))
abbrev Ob:=List (Nat×Obj)
def AN:Ob→Nat→Option Obj
 |[],_=>none
 |(i,o)::l,j=>bif zc i j then some o else AN l j
def Dj:Ob→Nat→Obj→Ob
 |[],_,_=>[]
 |(i,o)::l,j,x=>bif zc i j then(i,x)::l else(i,o)::Dj l j x
def Fx:Ob→Nat→Ob
 |[],_=>[]
 |(i,o)::l,j=>bif zc i j then Fx l j else(i,o)::Fx l j
structure AH where
 n:Nat
 fr:PM PV
 ob:Ob
 nx:Nat
def AH.get(st:AH)(t:Nat):PV:=(st.fr.get t).getD .any
def AH.obj(st:AH)(id:Nat):Option Obj:=AN st.ob id
def AH.set(st:AH)(t:Nat)(v:PV):AH:=⟨st.n,st.fr.set t (some v),st.ob,st.nx⟩
def AH.setObj(st:AH)(id:Nat)(o:Obj):AH:=⟨st.n,st.fr,Dj st.ob id o,st.nx⟩
def AH.MW(st:AH)(id:Nat):AH:=⟨st.n,st.fr,Fx st.ob id,st.nx⟩
def AH.push(st:AH)(o:Obj):AH:=⟨st.n,st.fr,(st.nx,o)::st.ob,ze st.nx 1⟩
def AH.put(st:AH)(d:Option Nat)(v:PV):Option AH:=
 match d with
 |none=>some st
 |some t=>bif zg t st.n then some (st.set t v)else none
def EU(vs:List (Nat×PV)):PM PV:=vs.foldl (fun m x=>m.set x.1 (some x.2)) .leaf
def flat:(s:Sh)→s.T→List PV
 | .pair a b,(x,y)=>flat a x++flat b y
 | .unit,_=>[]
 | .fnv,x=>[match (x:Option Fn)with|some f=>.fn f [] []|none=>.nilf]
 |s,x=>[.dat s x]
def DS(s s':Sh)(x:s.T):Option s'.T:=if h:s=s' then some (h▸x)else none
def mB(s:Sh)(v:PV):Option s.T:=
 match v with
 | .dat s' x=>DS s' s x
 | .bl b=>DS .bool s b
 | .fn f [] []=>DS .fnv s (some f)
 | .nilf=>DS .fnv s none
 | .nil=>match s with
  | .list _=>some []
  | .nlist _=>some []
  |_=>none
 |_=>none
def Ct:(s:Sh)→List PV→Option (s.T×List PV)
 | .pair a b,l=>match Ct a l with
  |some (x,l1)=>match Ct b l1 with
   |some (y,l2)=>some ((x,y),l2)
   |none=>none
  |none=>none
 | .unit,l=>some ((),l)
 |s,v::l=>match mB s v with
  |some x=>some (x,l)
  |none=>none
 |_,[]=>none
def Dt(s:Sh)(l:List PV):Option s.T:=
 match Ct s l with
 |some (x,[])=>some x
 |_=>none
def PV.cells:PV→List PV
 | .agg cs=>cs
 |v=>[v]
def WT(ty:TypeId→Option Sh):List Field→Option Sh
 |[]=>none
 |[x]=>ty x.type
 |x::xs=>match ty x.type,WT ty xs with
  |some a,some b=>some (.pair a b)
  |_,_=>none
def xJ:Option Sh→Option Sh
 |some (.list (.int .u64))=>some (.nlist (.int .u64))
 |s=>s
def lz:PV→PV
 | .dat (.nlist s) x=>.dat (.list s) x
 |v=>v
def Sh.leaves:Sh→List Sh
 | .pair a b=>a.leaves++b.leaves
 | .unit=>[]
 |s=>[s]
def Sg:Sh→PV→Bool×PV
 | .nlist s,.dat (.list s') x=>bif s==s' then(decide (0<x.length),.dat (.nlist s') x)else(true,.dat (.list s') x)
 | .list s,.dat (.nlist s') x=>bif s==s' then(true,.dat (.list s') x)else(true,.dat (.nlist s') x)
 |_,v=>(true,v)
def JJ:List Sh→List PV→Bool×List PV
 |s::l,v::vs=>((Sg s v).1&&(JJ l vs).1,(Sg s v).2::(JJ l vs).2)
 |_,vs=>(true,vs)
def U6(T:BR):Nat→TypeId→Option Sh
 |0,_=>none
 |f+1,t=>match T.und t with
  |some (.int k)=>some (.int k)
  |some .bool=>some .bool
  |some .string=>some .str
  |some (.slice e)=>(U6 T f e).map .list
  |some (.func _ _ _)=>some .fnv
  |some (.struct fs)=>WT (fun x=>xJ (U6 T f x)) fs.toList
  |_=>none
def Sh.iC:Sh→Bool
 | .pair a b=>a.iC||b.iC
 | .fnv=>true
 |_=>false
def B2:(s:Sh)→s.T→PV
 | .pair a b,x=>.agg (flat (.pair a b) x)
 | .unit,_=>.agg []
 | .fnv,x=>match (x:Option Fn)with|some f=>.fn f [] []|none=>.nilf
 |s,x=>.dat s x
def Sh.O6:Sh→Bool
 | .pair _ _| .unit=>true
 |_=>false
def nC:(s:Sh)→s.T→s.T→Bool
 | .int _,a,b=>(a:Int)==b
 | .bool,a,b=>(a:Bool)==b
 | .str,a,b=>(a:List UInt8)==b
 |_,_,_=>false
def J0(s v:Sh)(k:s.T):List (s.T×v.T)→Option v.T
 |[]=>none
 |(a,b)::l=>bif nC s k a then some b else J0 s v k l
def QT(s v:Sh)(k:s.T)(x:v.T):List (s.T×v.T)→List (s.T×v.T)
 |[]=>[(k,x)]
 |(a,b)::l=>bif nC s k a then(k,x)::l else(a,b)::QT s v k x l
def Qx(s v:Sh)(k:s.T):List (s.T×v.T)→List (s.T×v.T)
 |[]=>[]
 |(a,b)::l=>bif nC s k a then l else(a,b)::Qx s v k l
inductive Tr where
 |fail
 |leaf (v:PV) (ob:Ob)
 |ite (c:Bool) (a b:Tr)
 |both (a b:Tr)
 |cut (nd ro:Bool) (d:Nat) (f:FuncId) (base:Nat) (b:Code) (st:AH) (k:DX→AH→Tr)
 |alts (m:Nat) (f:Nat→Tr)
 |loop (nd ro:Bool) (d:Nat) (f:FuncId) (base:Nat) (b:Code) (st:AH) (k:DX→AH→Tr)
inductive PO where
 |bad
 |val (v:PV) (st:AH)
 |ite (c:Bool) (a b:PO)
def PO.Hp(c:Bool)(v:PV)(st:AH):PO:=.ite c (.val v st) .bad
end
noncomputable section
mutual
def Mg:Value→Option PV
 | .bool b=>some (.bl b)
 | .int k n=>some (.dat (.int k) n)
 | .string s=>some (.dat .str s.data.toList)
 | .pointer none=>some .nilp
 | .slice none 0 0=>some .nil
 | .map none=>some .nilm
 | .nilFunc=>some .nilf
 | .nilIface=>some .nili
 | .func f ⟨[]⟩ ⟨[]⟩=>some (.fn f [] [])
 | .agg ⟨cs⟩=>(XU cs).map .agg
 | .tuple ⟨cs⟩=>(XU cs).map .tup
 |_=>none
def XU:List Value→Option (List PV)
 |[]=>some []
 |v::vs=>match Mg v,XU vs with
  |some x,some xs=>some (x::xs)
  |_,_=>none
end
def Uo:V→PV
 | .bool b=>.bl b
 | .int k n=>.dat (.int k) n
 | .str s=>.dat .str s
 | .nilp=>.nilp
 | .nils=>.nil
 | .nilm=>.nilm
 | .nilf=>.nilf
 | .nili=>.nili
 |_=>.any
def Pb(st:AH):Operand→Option PV
 | .tmp t=>some (st.get t)
 | .const v=>Mg v
 | .global _=>none
 | .func f=>some (.fn (.func f) [] [])
def LA(st:AH):List Operand→Option (List PV)
 |[]=>some []
 |x::xs=>match Pb st x,LA st xs with
  |some v,some vs=>some (v::vs)
  |_,_=>none
def XH(st:AH):List (Nat×Operand)→Option (List (Nat×PV))
 |[]=>some []
 |(i,x)::xs=>match Pb st x,XH st xs with
  |some v,some vs=>some ((i,v)::vs)
  |_,_=>none
def aN(T:BR)(t:TypeId):Option (List PV):=(T.inf t).bind fun i=>bif J4 V.ok i.zero then some (i.zero.map Uo)else none
def pick(d:TypeDesc)(n:Nat)(cs:List PV):Option PV:=
 bif DF d then(bif zj n (Dq cs)&&zg 0 n then some (.agg (TW n cs))else none)
 else match cs with
  |v::_=>some v
  |[]=>none
def ov(st:AH):Option PV→PO
 |some v=>.val v st
 |none=>.bad
def rK(c:Bool)(st:AH):Option PV→PO
 |some v=>.Hp c v st
 |none=>.bad
def chunk(s:Sh):Nat→List PV→Option (List s.T)
 |0,_=>some []
 |n+1,cs=>match Ct s cs with
  |some (x,cs')=>(chunk s n cs').map (x:: ·)
  |none=>none
def Om(s:Sh)(l:List s.T):Nat→Nat→List PV
 |_,0=>[]
 |j,n+1=>flat s (l.getD j s.GU)++Om s l (ze j 1) n
def wW:List V→Option Sh
 | .bool _::_=>some .bool
 | .int k _::_=>some (.int k)
 |_=>none
def rH:Sh→V→Bool
 | .bool,.bool b=> !b
 | .int k,.int k' n=>decide (k=k')&&decide (n=0)
 |_,_=>false
def oC(T:BR)(t:TypeId):Option (Sh×Nat):=
 match T.und t,T.inf t with
 |some (.array _ _),some i=>match wW i.zero with
  |some s=>bif zj 32 (Dq i.zero)&&J4 (rH s) i.zero then some (s,Dq i.zero)else none
  |none=>none
 |_,_=>none
def LD(T:BR)(st:AH)(t:TypeId)(a:PV):PO:=
 match T.und t,T.inf t with
 |some d,some i=>match a with
  | .ptr id off=>match st.obj id with
   |some (.box cs)=>ov st (pick d i.size (H4 off cs))
   |some (.arr _ _ s l)=>bif zc off 0&&zc s.sz 1 then rK (decide (l.length=i.size)) st (pick d i.size (Om s l 0 i.size))else .bad
   |some (.tbox _ cs)=>ov st (pick d i.size (H4 off cs))
   |_=>.bad
  | .eptr id sz j off=>match st.obj id with
   |some (.arr _ _ s l)=>bif zc sz s.sz then rK (decide (j<l.length)) st (pick d i.size (H4 off (flat s (l.getD j s.GU))))else .bad
   |_=>.bad
  | .Fp s x off=>ov st (pick d i.size (H4 off (flat s x)))
  |_=>.bad
 |_,_=>.bad
def Hq:Option Obj→Bool
 |some _=>true
 |none=>false
def Jd(st:AH):PV→Bool
 | .agg _| .tup _| .any| .ub=>false
 | .ptr id _| .eptr id _ _ _| .sl id _ _ _ _| .mp id| .yl id=>Hq (st.obj id)
 |_=>true
def rP(st:AH):PV→Option (List PV)
 | .agg l=>some l
 |p=>bif Jd st p then some [p]else none
def Vc(T:BR)(st:AH)(t:TypeId)(a x:PV):PO:=
 match T.inf t,rP st x with
 |some i,some xs=>bif zc (Dq xs) i.size&&J4 (Jd st) xs then
   match a with
   | .ptr id off=>match st.obj id with
    |some (.box cs)=>bif zj (ze off i.size) (Dq cs)then .val (.tup []) (st.setObj id (.box (Cf off xs cs)))else .bad
    |some (.arr false e s l)=>bif zc off 0&&zc s.sz 1 then
      match chunk s i.size xs with
      |some y=>.Hp (decide (l.length=i.size)) (.tup []) (st.setObj id (.arr false e s y))
      |none=>.bad
     else .bad
    |some (.tbox tb cs)=>bif zj (ze off i.size) (Dq cs)then .val (.tup []) (st.setObj id (.tbox tb (Cf off xs cs)))else .bad
    |_=>.bad
   | .eptr id sz j off=>match st.obj id with
    |some (.arr false e s l)=>bif zc sz s.sz&&zj (ze off i.size) sz then
      match Dt s (Cf off xs (flat s (l.getD j s.GU)))with
      |some y=>.Hp (decide (j<l.length)) (.tup []) (st.setObj id (.arr false e s (l.set j y)))
      |none=>.bad
     else .bad
    |_=>.bad
   |_=>.bad
  else .bad
 |_,_=>.bad
def G5(k:IntKind)(a b:Int):Int:=k.wrap (zf k.bits a&&&zf k.bits b).toNat
def XW(k:IntKind)(a b:Int):Int:=k.wrap (zf k.bits a|||zf k.bits b).toNat
def vQ(k:IntKind)(a b:Int):Int:=k.wrap (zf k.bits a^^^zf k.bits b).toNat
def rX(k:IntKind)(a b:Int):Int:=k.wrap (zf k.bits a&&& ~~~zf k.bits b).toNat
def pX(op:BinOp)(k:IntKind)(a b:Int)(st:AH):PO:=
 match op with
 | .add=>.val (.dat (.int k) (k.wrap (a+b))) st
 | .sub=>.val (.dat (.int k) (k.wrap (a-b))) st
 | .mul=>.val (.dat (.int k) (k.wrap (a*b))) st
 | .quo=>.Hp (decide (b≠0)) (.dat (.int k) (k.wrap (a.tdiv b))) st
 | .rem=>.Hp (decide (b≠0)) (.dat (.int k) (a.tmod b)) st
 | .and=>.val (.dat (.int k) (G5 k a b)) st
 | .or=>.val (.dat (.int k) (XW k a b)) st
 | .xor=>.val (.dat (.int k) (vQ k a b)) st
 | .andNot=>.val (.dat (.int k) (rX k a b)) st
 | .eql=>.val (.dat .bool (a==b)) st
 | .neq=>.val (.dat .bool (a !=b)) st
 | .lss=>.val (.dat .bool (decide (a<b))) st
 | .leq=>.val (.dat .bool (decide (a≤b))) st
 | .gtr=>.val (.dat .bool (decide (a>b))) st
 | .geq=>.val (.dat .bool (decide (a≥b))) st
 |_=>.bad
def wL(op:BinOp)(k:IntKind)(a b:Int)(st:AH):PO:=
 match op with
 | .shl=>.Hp (decide (0≤b)) (.dat (.int k) (k.wrap (a*2^(min b.toNat k.bits)))) st
 | .shr=>.Hp (decide (0≤b)) (.dat (.int k) (a.fdiv (2^(min b.toNat k.bits)))) st
 |_=>.bad
def qK(op:BinOp)(x y:List UInt8)(st:AH):PO:=
 match op with
 | .add=>.Hp (decide (x.length+y.length≤4611686018427387904)) (.dat .str (x++y)) st
 | .eql=>.val (.dat .bool (x==y)) st
 | .neq=>.val (.dat .bool (!(x==y))) st
 | .lss=>.val (.dat .bool (zh x y)) st
 | .leq=>.val (.dat .bool (zh x y||x==y)) st
 | .gtr=>.val (.dat .bool (!(zh x y||x==y))) st
 | .geq=>.val (.dat .bool (!zh x y)) st
 |_=>.bad
def lS:BinOp→Bool
 | .shl| .shr=>true
 |_=>false
def Ik:PV→Option Bool
 | .bl b=>some b
 | .dat .bool b=>some b
 |_=>none
def Gi:List FK→List PV→List PV→Option Bool
 |[],[],[]=>some true
 | .int k::ks,.dat (.int k1) a::xs,.dat (.int k2) b::ys=>bif k==k1&&k==k2 then(Gi ks xs ys).map fun r=>(a:Int)==(b:Int)&&r else none
 | .str::ks,.dat .str a::xs,.dat .str b::ys=>(Gi ks xs ys).map fun r=>(a:List UInt8)==(b:List UInt8)&&r
 | .bool::ks,a::xs,b::ys=>match Ik a,Ik b with
  |some a,some b=>(Gi ks xs ys).map fun r=>a==b&&r
  |_,_=>none
 |_,_,_=>none
def Q6(st:AH)(ng:Bool)(x:PV):PO:=
 match x with
 | .nil=>.val (.bl (!ng)) st
 | .sl id _ _ _ _=>bif Hq (st.obj id)then .val (.bl ng) st else .bad
 | .dat (.list _) l=>.ite (decide (0<l.length)) (.val (.bl ng) st) (.val .ub st)
 | .dat (.nlist _) l=>.val (.dat .bool (bif ng then decide (0<l.length)else !decide (0<l.length))) st
 |_=>.bad
def eK(op:BinOp)(x y:PV)(st:AH):PO:=
 match op,x,y with
 | .eql,x,.nil=>Q6 st false x
 | .neq,x,.nil=>Q6 st true x
 |_,_,_=>.bad
def ptrEq(T:BR)(e:TypeId)(st:AH)(x y:PV):Option Bool:=
 match x,y with
 | .nilp,.nilp=>some true
 | .ptr id _,.nilp=>bif Hq (st.obj id)then some false else none
 | .nilp,.ptr id _=>bif Hq (st.obj id)then some false else none
 | .ptr a i,.ptr b j=>bif zc a b&&Hq (st.obj a)then match T.inf e with
   |some ti=>bif zg 0 ti.size then some (zc i j)else none
   |none=>none
  else none
 |_,_=>none
def qF(T:BR)(op:BinOp)(t:TypeId)(x y:PV)(st:AH):PO:=
 match x,y with
 | .dat (.int k) a,.dat (.int k') b=>bif lS op then wL op k a b st else(bif k==k' then pX op k a b st else .bad)
 | .dat .str a,.dat .str b=>qK op a b st
 | .agg xs,.agg ys=>match T.flat t with
  |some ks=>match op,Gi ks xs ys with
   | .eql,some r=>.val (.dat .bool r) st
   | .neq,some r=>.val (.dat .bool (!r)) st
   |_,_=>.bad
  |none=>.bad
 |x,y=>match Ik x,Ik y,T.und t with
  |some a,some b,some .bool=>match op with
   | .eql=>.val (.dat .bool (a==b)) st
   | .neq=>.val (.dat .bool (!(a==b))) st
   |_=>.bad
  |_,_,some (.slice _)=>eK op x y st
  |_,_,some (.pointer e)=>match op,ptrEq T e st x y with
   | .eql,some r=>.val (.bl r) st
   | .neq,some r=>.val (.bl (!r)) st
   |_,_=>.bad
  |_,_,_=>.bad
def vS(op:UnOp)(x:PV)(st:AH):PO:=
 match op,x with
 | .neg,.dat (.int k) n=>.val (.dat (.int k) (k.wrap (0-(n:Int)))) st
 | .not,.bl b=>.val (.bl (!b)) st
 | .not,.ub=>.val .ub st
 | .not,.dat .bool b=>.val (.dat .bool (!b)) st
 |_,_=>.bad
def Zx(T:BR)(s d:TypeId)(x:PV)(st:AH):PO:=
 match T.und s,T.und d,x with
 |some _,some (.int k),.dat (.int _) n=>.val (.dat (.int k) (k.wrap n)) st
 |some .string,some .string,.dat .str s=>.val (.dat .str s) st
 |_,_,_=>.bad
def dY(c a b:PV)(st:AH):PO:=
 match c with
 | .bl t=>.val (bif t then a else b) st
 | .dat .bool t=>match a,b with
  | .dat .bool x,.bl false=>.val (.dat .bool (t&&x)) st
  | .bl true,.dat .bool x=>.val (.dat .bool (t||x)) st
  |_,_=>.ite t (.val a st) (.val b st)
 |_=>.bad
def Ux(T:BR)(t:TypeId)(x:PV)(f:Nat)(st:AH):PO:=
 match T.und t,x with
 |some (.struct fs),.agg cs=>match fs[f]? with
  |some fd=>match T.und fd.type,T.inf fd.type with
   |some d,some i=>ov st (pick d i.size (H4 fd.offset cs))
   |_,_=>.bad
  |none=>.bad
 |_,_=>.bad
def Vh(T:BR)(t:TypeId)(x:PV)(f:Nat)(st:AH):PO:=
 match T.und t with
 |some (.struct fs)=>match fs[f]? with
  |some fd=>match T.inf fd.type with
   |some i=>bif zc i.size 0 then .bad else match x with
    | .ptr id off=>bif Hq (st.obj id)then .val (.ptr id (ze off fd.offset)) st else .bad
    | .eptr id sz j off=>bif Hq (st.obj id)then .val (.eptr id sz j (ze off fd.offset)) st else .bad
    | .Fp s y off=>.val (.Fp s y (ze off fd.offset)) st
    |_=>.bad
   |none=>.bad
  |none=>.bad
 |_=>.bad
def RI(T:BR)(t:TypeId)(x ix:PV)(st:AH):PO:=
 match T.und t,ix with
 |some (.slice e),.dat (.int _) i=>match T.inf e with
  |some ti=>match x with
   | .dat (.list s) l=>bif zc ti.size s.sz then .Hp (decide (0≤(i:Int))&&decide ((i:Int)<(l.length:Int))) (.Fp s (l.getD (zd i) s.GU) 0) st else .bad
   | .sl id sz off len _=>bif zc ti.size sz&&Hq (st.obj id)then .Hp (decide (0≤(i:Int))&&decide ((i:Int)<(len:Int))) (.eptr id sz (ze (zd i) off) 0) st else .bad
   |_=>.bad
  |none=>.bad
 |some (.array len e),.dat (.int _) i=>match T.inf e with
  |some ti=>match x with
   | .ptr id off=>match st.obj id with
    |some (.arr _ _ s _)=>bif zc off 0&&zc ti.size s.sz then .Hp (decide (0≤(i:Int))&&decide ((i:Int)<(len:Int))) (.eptr id s.sz (zd i) 0) st else .bad
    |some _=>.Hp (decide (0≤(i:Int))&&decide ((i:Int)<(len:Int))) (.ptr id (ze off (zk (zd i) ti.size))) st
    |none=>.bad
   | .eptr id sz j off=>bif Hq (st.obj id)then .Hp (decide (0≤(i:Int))&&decide ((i:Int)<(len:Int))) (.eptr id sz j (ze off (zk (zd i) ti.size))) st else .bad
   | .Fp s y off=>.Hp (decide (0≤(i:Int))&&decide ((i:Int)<(len:Int))) (.Fp s y (ze off (zk (zd i) ti.size))) st
   |_=>.bad
  |none=>.bad
 |_,_=>.bad
def dT(T:BR)(t:TypeId)(x ix:PV)(st:AH):PO:=RI T t (lz x) ix st
def UW(T:BR)(t:TypeId)(x ix:PV)(st:AH):PO:=
 match T.und t,x,ix with
 |some .string,.dat .str s,.dat (.int _) i=>.Hp (decide (0≤(i:Int))&&decide ((i:Int)<((s:List UInt8).length:Int))) (.dat (.int .u8) (((s:List UInt8).getD (zd i) 0).toNat:Int)) st
 |some (.array len e),.agg cs,.dat (.int _) i=>match T.und e,T.inf e with
  |some d,some ti=>rK (decide (0≤(i:Int))&&decide ((i:Int)<(len:Int))) st (pick d ti.size (H4 (zk (zd i) ti.size) cs))
  |_,_=>.bad
 |_,_,_=>.bad
def M7(x:PV)(i:Nat)(st:AH):PO:=
 match x with
 | .tup vs=>match vs[i]? with
  |some v=>.val v st
  |none=>.bad
 |_=>.bad
def pb(x:Option PV)(GU:Nat):Option (Bool×Nat):=
 match x with
 |none=>some (true,GU)
 |some (.dat (.int _) n)=>some (decide (0≤(n:Int)),zd n)
 |_=>none
def has(mx:Option PV)(c:Nat):Bool:=match mx with
 |none=>true
 |some _=>decide (0<c)
def Q9(T:BR)(t:TypeId)(x:PV)(lo hi mx:Option PV)(st:AH):PO:=
 match T.und t with
 |some .string=>match x,mx with
  | .dat .str s,none=>match pb lo 0,pb hi (s:List UInt8).length with
   |some (c1,l),some (c2,h)=>.Hp (c1&&c2&&decide (l≤h)&&decide (h≤(s:List UInt8).length)) (.dat .str (((s:List UInt8).drop l).take (Nat.sub h l))) st
   |_,_=>.bad
  |_,_=>.bad
 |some (.slice e)=>match T.inf e with
  |some ti=>match x with
   | .dat (.list s) xs=>bif zc ti.size s.sz then
     match pb lo 0,pb hi xs.length,mx with
     |some (c1,l),some (c2,h),none=>.Hp (c1&&c2&&decide (l≤h)&&decide (h≤xs.length)) (.dat (.list s) ((xs.drop l).take (Nat.sub h l))) st
     |_,_,_=>.bad
    else .bad
   | .sl id sz off len cap=>bif zc ti.size sz&&Hq (st.obj id)then
     match hi,mx with
     |none,some _=>.bad
     |_,_=>match pb lo 0,pb hi len,pb mx (cap.getD len)with
      |some (c1,l),some (c2,h),some (c3,m)=>.Hp (c1&&c2&&c3&&decide (l≤h)&&decide (h≤m)&&decide (m≤cap.getD len)&&has mx (cap.getD len)) (.sl id sz (ze off l) (Nat.sub h l) (some (Nat.sub m l))) st
      |_,_,_=>.bad
    else .bad
   | .nil=>match pb lo 0,pb hi 0,mx with
    |some (c1,l),some (c2,h),none=>.Hp (c1&&c2&&decide (l≤h)&&decide (h≤0)) .nil st
    |some (c1,l),some (c2,h),some q=>match hi,pb (some q) 0 with
     |some _,some (c3,m)=>.Hp (c1&&c2&&c3&&decide (l≤h)&&decide (h≤m)&&decide (m≤0)) .nil st
     |_,_=>.bad
    |_,_,_=>.bad
   |_=>.bad
  |none=>.bad
 |_=>.bad
def cD(T:BR)(t:TypeId)(x:PV)(lo hi mx:Option PV)(st:AH):PO:=Q9 T t (lz x) lo hi mx st
def pi64(n:Nat):PV:=.dat (.int .i64) (Int.ofNat n)
def R4(T:BR)(ts:Array TypeId)(args:List PV)(st:AH):PO:=
 match ts[0]?,args with
 |some t,[x]=>match T.und t,x with
  |some .string,.dat .str s=>.val (pi64 (s:List UInt8).length) st
  |some (.slice _),.dat (.list _) l=>.val (pi64 l.length) st
  |some (.slice _),.sl id _ _ len _=>bif Hq (st.obj id)then .val (pi64 len) st else .bad
  |some (.slice _),.nil=>.val (pi64 0) st
  |some (.map _ _),.mp id=>match st.obj id with
   |some (.map _ _ l)=>.val (pi64 l.length) st
   |_=>.bad
  |_,_=>.bad
 |_,_=>.bad
def lI(T:BR)(ts:Array TypeId)(args:List PV)(st:AH):PO:=R4 T ts (args.map lz) st
def sA(f:Int→Int→Int)(k:IntKind):Int→List PV→Option Int
 |x,[]=>some x
 |x,.dat (.int k') y::ys=>bif k==k' then sA f k (f x y) ys else none
 |_,_=>none
def MV(f:Int→Int→Int)(args:List PV)(st:AH):PO:=
 match args with
 | .dat (.int k) x::ys=>match sA f k x ys with
  |some z=>.val (.dat (.int k) z) st
  |none=>.bad
 |_=>.bad
def imax(x y:Int):Int:=if y>x then y else x
def Ei(x y:Int):Int:=if y<x then y else x
def MO(st:AH)(s:Sh)(x:PV):Option (Bool×List s.T):=
 match x with
 | .nil=>some (true,[])
 | .dat (.list s') l=>(DS (.list s') (.list s) l).map fun r=>(true,r)
 | .sl id sz off len _=>match st.obj id with
  |some (.arr _ _ s' l)=>bif zc sz s'.sz then(DS (.list s') (.list s) l).map fun r=>(decide (off+len≤r.length),(r.drop off).take len)else none
  |_=>none
 | .dat .str l=>(DS (.list (.int .u8)) (.list s) (List.map (fun b:UInt8=>(b.toNat:Int)) l)).map fun r=>(true,r)
 |_=>none
def M9(st:AH)(s:Sh)(x:PV):Option (Bool×List s.T):=MO st s (lz x)
def rO:Nat:=281474976710656
def Rb:TypeDesc→Bool
 | .slice _=>true
 | .string=>true
 |_=>false
def Rl(T:BR)(ts:Array TypeId)(args:List PV)(st:AH):PO:=
 match ts[0]?,ts[1]?,args with
 |some t,some tx,[b,x]=>match T.und t,T.und tx with
  |some (.slice e),some dx=>bif Rb dx then match T.inf e,U6 T 9 e with
   |some i,some s=>
    bif zg 0 i.bytes&&zg 0 i.size&&zc i.zero.length i.size&&zc i.size s.sz then
     match M9 st s x with
     |some (c,new)=>match b with
      | .nil=>match x with
       | .nil=>.val .nil st
       | .dat _ _=>.ite (decide (0<new.length)) (.Hp (c&&decide ((2*new.length+1000)*i.bytes≤rO)) (.sl st.nx s.sz 0 new.length none) (st.push (.arr false e s new))) (.val .nil st)
       | .sl _ _ _ _ (some _)=>.ite (decide (0<new.length)) (.Hp (c&&decide ((2*new.length+1000)*i.bytes≤rO)) (.sl st.nx s.sz 0 new.length none) (st.push (.arr false e s new))) (.Hp c .nil st)
       |_=>.Hp (c&&decide (0<new.length)&&decide ((2*new.length+1000)*i.bytes≤rO)) (.sl st.nx s.sz 0 new.length none) (st.push (.arr false e s new))
      | .sl id sz off len cap=>match st.obj id with
       |some (.arr false e' s' l)=>match DS (.list s') (.list s) l with
        |some l'=>bif zc e e'&&zc sz s.sz then
          match cap with
          |none=>.Hp (c&&decide (off=0)&&decide (len=l'.length)&&decide ((2*(len+new.length)+1000)*i.bytes≤rO)) (.sl st.nx s.sz 0 (ze len new.length) none) ((st.MW id).push (.arr false e s (l'++new)))
          |some k=>.Hp (c&&decide (len+new.length≤k)&&decide (off+k≤l'.length)) (.sl id sz off (ze len new.length) (some k)) (st.setObj id (.arr false e s (l'.take (off+len)++(new++l'.drop (off+len+new.length)))))
         else .bad
        |none=>.bad
       |_=>.bad
      |_=>.bad
     |none=>.bad
    else .bad
   |_,_=>.bad
   else .bad
  |_,_=>.bad
 |_,_,_=>.bad
def Uh(T:BR)(ts:Array TypeId)(args:List PV)(st:AH):PO:=
 match ts[0]?,args with
 |some t,[x]=>match T.und t with
  |some (.slice e)=>match x with
   | .nil=>.val (.tup []) st
   | .sl id sz off len _=>match T.inf e,st.obj id with
    |some i,some (.arr false e' s l)=>
     bif zc sz s.sz&&zg 0 i.zero.length&&zc i.zero.length s.sz&&J4 V.one i.zero then
      match Dt s (i.zero.map Uo)with
      |some z=>.Hp (decide (off+len≤l.length)) (.tup []) (st.setObj id (.arr false e' s (l.take off++(zi len z++l.drop (off+len)))))
      |none=>.bad
     else .bad
    |_,_=>.bad
   |_=>.bad
  |_=>.bad
 |_,_=>.bad
def Uq(args:List PV)(st:AH):PO:=
 match args with
 |[.sl id sz off len none]=>bif Hq (st.obj id)then .Hp (decide (0<len)) (.eptr id sz off 0) st else .bad
 |_=>.bad
def Vq(l:List Int):List UInt8:=l.map fun x=>UInt8.ofNat x.toNat
def PL(l:List Int):Bool:=l.all fun x=>decide (0≤x)&&decide (x<256)
def YX(T:BR)(ts:List TypeId)(args:List PV)(st:AH):PO:=
 match ts,args with
 |[pt,_],[.eptr id _ i 0,.dat (.int .i64) n]=>match T.und pt,st.obj id with
  |some (.pointer e),some (.arr false e' s l)=>match T.inf e,DS (.list s) (.list (.int .u8)) l with
   |some ti,some bs=>bif zc ti.size 1&&zc e e' then
     .Hp (decide (i=0)&&decide (0<(n:Int))&&decide (zd n≤(bs:List Int).length)&&decide (zd n≤9223372036854775807)&&PL bs) (.dat .str (Vq ((bs:List Int).take (zd n)))) (st.MW id)
    else .bad
   |_,_=>.bad
  |_,_=>.bad
 |_,_=>.bad
def HH(T:BR)(b:Builtin)(ts:Array TypeId)(args:List PV)(st:AH):PO:=
 match b with
 | .len=>lI T ts args st
 | .append=>Rl T ts args st
 | .max=>MV imax args st
 | .min=>MV Ei args st
 | .clear=>Uh T ts args st
 | .unsafeSliceData=>Uq args st
 | .unsafeString=>YX T ts.toList args st
 |_=>.bad
def rune(s:List UInt8)(pos:Nat):Int:=(Utf8.decode (bytesOf s) pos).1
def mS(s:List UInt8)(pos:Nat):Nat:=(Utf8.decode (bytesOf s) pos).2
def UC(T:BR)(t:TypeId)(x:PV)(st:AH):PO:=
 match T.und t,x with
 |some .string,.dat .str s=>.val (.ptr st.nx 0) (st.push (.siter s 0))
 |_,_=>.bad
def eA(x:PV)(isStr:Bool)(st:AH):PO:=
 match x,isStr with
 | .ptr id 0,true=>match st.obj id with
  |some (.siter s pos)=>.ite (decide (pos<s.length)) (.val (.tup [.bl true,.dat (.int .i64) (Int.ofNat pos),.dat (.int .i32) (rune s pos)]) (st.setObj id (.siter s (ze pos (mS s pos))))) (.val (.tup [.bl false]) st)
  |_=>.bad
 |_,_=>.bad
def Pz(st:AH)(place:Nat→Option (Nat×Nat))(cells:List PV):List (Nat×PV)→Option (List PV)
 |[]=>some cells
 |(i,v)::rest=>match place i with
  |none=>none
  |some (off,size)=>match rP st v with
   |some vs=>bif zc (Dq vs) size&&zj (ze off size) (Dq cells)then Pz st place (Cf off vs cells) rest else none
   |none=>none
def UP(T:BR)(st:AH)(t:TypeId)(parts:List (Nat×PV)):Option PV:=
 match T.inf t,T.und t with
 |some i,some (.struct fs)=>
  match fs.toList.mapM (fun f=>(T.inf f.type).map fun j=>(f.offset,j.size))with
  |some pl=>(Pz st (fun i=>pl[i]?) (i.zero.map Uo) parts).map .agg
  |none=>none
 |some i,some (.array _ e)=>match T.inf e with
  |some j=>(Pz st (fun i=>some (i*j.size,j.size)) (i.zero.map Uo) parts).map .agg
  |none=>none
 |_,_=>none
def Jk(z:List PV):Nat→List PV
 |0=>[]
 |n+1=>z++Jk z n
def CR(st:AH):PV→Option (Bool×PV)
 | .sl id sz off len _=>match st.obj id with
  |some (.arr _ _ s l)=>bif zc sz s.sz then some (decide (off+len≤l.length),.dat (.list s) ((l.drop off).take len))else none
  |_=>none
 | .dat s x=>some (true,.dat s x)
 | .bl b=>some (true,.bl b)
 | .nil=>some (true,.nil)
 |_=>none
def E5(st:AH):List PV→Option (Bool×List PV)
 |[]=>some (true,[])
 |v::vs=>match CR st v,E5 st vs with
  |some (c,x),some (d,xs)=>some (c&&d,x::xs)
  |_,_=>none
def Bv(st:AH):PV→AH
 | .sl id _ _ _ _=>match st.obj id with
  |some (.arr _ e s l)=>st.setObj id (.arr true e s l)
  |_=>st
 |_=>st
def Bl:List PV→AH→AH
 |[],st=>st
 |v::vs,st=>Bl vs (Bv st v)
def RP(T:BR)(t:TypeId)(len:Nat)(parts:List (Nat×PV))(st:AH):PO:=
 match T.und t with
 |some (.slice e)=>match T.inf e,U6 T 9 e with
  |some i,some s=>
   bif zj (zk len i.size) 16777216&&zg 0 i.zero.length&&zc i.zero.length i.size&&zc i.size s.sz then
    match Pz st (fun k=>some (k*i.size,i.size)) (Jk (i.zero.map Uo) len) parts with
    |some cs=>match chunk s len cs with
     |some l=>.val (.sl st.nx s.sz 0 len none) (st.push (.arr false e s l))
     |none=>match E5 st cs with
      |some (c,cs')=>match chunk s len cs' with
       |some l=>.Hp c (.sl st.nx s.sz 0 len none) ((Bl cs st).push (.arr false e s l))
       |none=>.bad
      |none=>.bad
    |none=>.bad
   else .bad
  |_,_=>.bad
 |_=>.bad
def YR(T:BR)(t:TypeId)(l c:PV)(st:AH):PO:=
 match T.und t,l,c with
 |some (.slice e),.dat (.int _) l,.dat (.int _) c=>match T.inf e,U6 T 9 e with
  |some i,some s=>
   bif zg 0 i.zero.length&&zc i.zero.length i.size&&zc i.size s.sz then
    match Dt s (i.zero.map Uo)with
    |some z=>.Hp (decide (0≤(l:Int))&&decide ((l:Int)=(c:Int))&&decide (i.bytes*zd l≤rO)&&decide ((l:Int)<9223372036854775808)) (.sl st.nx s.sz 0 (zd l) none) (st.push (.arr false e s (zi (zd l) z)))
    |none=>.bad
   else .bad
  |_,_=>.bad
 |_,_,_=>.bad
def fK(T:BR)(t:TypeId):Option Sh:=match T.und t with
 |some (.int k)=>some (.int k)
 |some .string=>some .str
 |some .bool=>some .bool
 |_=>none
def Lt:PV→Bool
 | .agg _=>true
 |_=>false
def uX(s:Sh)(p:PV):Option s.T:=bif Lt p==s.O6 then Dt s p.cells else none
def Vp(T:BR)(t:TypeId)(st:AH):PO:=match T.und t with
 |some (.map kt e)=>match fK T kt,U6 T 9 e with
  |some ks,some vs=>.val (.mp st.nx) (st.push (.map ks vs []))
  |_,_=>.bad
 |_=>.bad
def eU(st:AH)(ks vs:Sh)(m:PV):Option (List (ks.T×vs.T)):=match m with
 | .nilm=>some []
 | .mp id=>match st.obj id with
  |some (.map ks' vs' l)=>DS (.list (.pair ks' vs')) (.list (.pair ks vs)) l
  |_=>none
 |_=>none
def tJ:V→Bool
 | .agg _=>true
 |_=>false
def sK(ks vs:Sh)(ok:Bool)(z:vs.T)(x:ks.T)(st:AH):List (ks.T×vs.T)→PO
 |[]=>.val (bif ok then .tup [B2 vs z,.bl false]else B2 vs z) st
 |(a,b)::l=>.ite (nC ks x a) (.val (bif ok then .tup [B2 vs b,.bl true]else B2 vs b) st) (sK ks vs ok z x st l)
def Q7(T:BR)(t:TypeId)(m k:PV)(ok:Bool)(st:AH):PO:=match T.und t with
 |some (.map kt e)=>match fK T kt,U6 T 9 e,T.inf e with
  |some ks,some vs,some i=>match mB ks k,eU st ks vs m,Dt vs (i.zero.map Uo)with
   |some x,some l,some z=>
    bif tJ i.zv==vs.O6 then bif vs.iC then sK ks vs ok z x st l else
     (let v:=B2 vs ((J0 ks vs x l).getD z)
     .val (bif ok then .tup [v,.dat .bool (J0 ks vs x l).isSome]else v) st)
    else .bad
   |_,_,_=>.bad
  |_,_,_=>.bad
 |_=>.bad
def Rk(T:BR)(t:TypeId)(m k v:PV)(st:AH):PO:=match T.und t,m with
 |some (.map kt _),.mp id=>match fK T kt,st.obj id with
  |some ks,some (.map ks' vs l)=>match mB ks k,DS (.list (.pair ks' vs)) (.list (.pair ks vs)) l,uX vs v with
   |some x,some l,some y=>.val (.tup []) (st.setObj id (.map ks vs (QT ks vs x y l)))
   |_,_,_=>.bad
  |_,_=>.bad
 |_,_=>.bad
def Qt(T:BR)(ts:Array TypeId)(args:List PV)(st:AH):PO:=match ts[0]?,args with
 |some t,[.mp id,k]=>match T.und t with
  |some (.map kt _)=>match fK T kt,st.obj id with
   |some ks,some (.map ks' vs l)=>match mB ks k,DS (.list (.pair ks' vs)) (.list (.pair ks vs)) l with
    |some x,some l=>.val (.tup []) (st.setObj id (.map ks vs (Qx ks vs x l)))
    |_,_=>.bad
   |_,_=>.bad
  |_=>.bad
 |_,_=>.bad
abbrev JH:=BR→AH→PO
def v1(st:AH)(x:Operand)(k:PV→PO):PO:=match Pb st x with|some v=>k v|none=>.bad
def T2(x:Operand):JH:=fun _ st=>ov st (Pb st x)
def cH(c a b:Operand):JH:=fun _ st=>v1 st c fun c=>v1 st a fun a=>v1 st b fun b=>dY c a b st
def mU(T:BR)(t:TypeId):Bool:=
 match T.und t with
 |some (.struct fs)=>match fs[0]? with
  |some f=>match T.und f.type with
   |some (.pointer u)=>zc u t
   |_=>false
  |none=>false
 |_=>false
def Rf(t:TypeId):JH:=fun T st=>match oC T t with
 |some (s,n)=>.val (.ptr st.nx 0) (st.push (.arr false t s (zi n s.GU)))
 |none=>match aN T t with|some cs=>.val (.ptr st.nx 0) (st.push (bif mU T t then .tbox t cs else .box cs))|none=>.bad
def mE(_:TypeId)(x:Operand):JH:=fun _ st=>v1 st x fun v=>match rP st v with|some cs=>bif J4 (Jd st) cs then .val (.ptr st.nx 0) (st.push (.box cs))else .bad|none=>.bad
def V2(t:TypeId)(ps:Array (Nat×Operand)):JH:=fun T st=>match XH st ps.toList with|some l=>ov st (UP T st t l)|none=>.bad
def SS(t:TypeId)(n:Nat)(ps:Array (Nat×Operand)):JH:=fun T st=>match XH st ps.toList with|some l=>RP T t n l st|none=>.bad
def dR(t:TypeId)(x:Operand):JH:=fun T st=>v1 st x fun a=>LD T st t a
def Wl(t:TypeId)(x y:Operand):JH:=fun T st=>v1 st x fun a=>v1 st y fun b=>Vc T st t a b
def Ov(x:Operand):JH:=fun _ st=>v1 st x fun a=>match a with| .ptr id _| .eptr id _ _ _=>bif Hq (st.obj id)then .val a st else .bad| .Fp .. =>.val a st|_=>.bad
def nK(T:BR)(op:BinOp)(t:TypeId)(x y:Operand)(a b:PV):Option Bool:=
 match op,a,b,T.und t with
 | .eql,.nili,.nili,some (.interface _)=>bif VQ x||VQ y then some true else none
 | .neq,.nili,.nili,some (.interface _)=>bif VQ x||VQ y then some false else none
 |_,_,_,_=>none
def nI(op:BinOp)(t:TypeId)(x y:Operand)(_:TypeId):JH:=fun T st=>v1 st x fun a=>v1 st y fun b=>match nK T op t x y a b with|some r=>.val (.bl r) st|none=>qF T op t a b st
def uH(op:UnOp)(_:TypeId)(x:Operand):JH:=fun _ st=>v1 st x fun a=>vS op a st
def aI(s d:TypeId)(x:Operand):JH:=fun T st=>v1 st x fun a=>Zx T s d a st
def Y5(f:Fn)(a b:Array Operand):JH:=fun _ st=>match LA st a.toList,LA st b.toList with|some x,some y=>.val (.fn f x y) st|_,_=>.bad
def Zc(t:TypeId)(l c:Operand):JH:=fun T st=>v1 st l fun a=>v1 st c fun b=>YR T t a b st
def o1(st:AH)(x:Option Operand)(k:Option PV→PO):PO:=match x with|none=>k none|some y=>v1 st y fun v=>k (some v)
def Wj(t:TypeId)(x:Operand)(a b c:Option Operand):JH:=fun T st=>v1 st x fun v=>o1 st a fun l=>o1 st b fun h=>o1 st c fun m=>cD T t v l h m st
def V5(t:TypeId)(x:Operand)(f:Nat):JH:=fun T st=>v1 st x fun a=>Vh T t a f st
def WB(t:TypeId)(x:Operand)(f:Nat):JH:=fun T st=>v1 st x fun a=>Ux T t a f st
def WN(t:TypeId)(x i:Operand):JH:=fun T st=>v1 st x fun a=>v1 st i fun b=>dT T t a b st
def Wp(t:TypeId)(x i:Operand):JH:=fun T st=>v1 st x fun a=>v1 st i fun b=>UW T t a b st
def Pr(x:Operand)(i:Nat):JH:=fun _ st=>v1 st x fun a=>M7 a i st
def Qk(c:Call):JH:=fun T st=>
 match LA st c.args.toList with
 |none=>.bad
 |some args=>match c.callee with
  | .builtin b=>match b with
   | .delete=>Qt T c.argTypes args st
   |_=>HH T b c.argTypes args st
  |_=>.bad
def WH(t:TypeId)(r:Option Operand):JH:=fun T st=>match r with|none=>Vp T t st|some _=>.bad
def TU(t:TypeId)(x i:Operand)(ok:Bool):JH:=fun T st=>v1 st x fun a=>v1 st i fun b=>Q7 T t a b ok st
def OM(t:TypeId)(m k x:Operand):JH:=fun T st=>v1 st m fun a=>v1 st k fun b=>v1 st x fun c=>Rk T t a b c st
def VT(t:TypeId)(x:Operand):JH:=fun T st=>v1 st x fun a=>UC T t a st
def Zr(x:Operand)(isStr:Bool):JH:=fun _ st=>v1 st x fun a=>eA a isStr st
def IW:JH:=fun _ _=>.bad
def pop(o:Op):JH:=@Op.casesOn (fun _=>JH) o T2 T2 cH Rf mE V2 SS OM dR Wl (fun _=>IW) (fun _=>IW) Ov nI uH aI
 (fun _ _=>IW) (fun _ _=>IW) Y5 WH (fun _ _=>IW) Zc Wj V5 WB WN Wp TU OM (fun _ _ _=>IW) (fun _ _ _ _=>IW)
 VT Zr (fun _=>IW) (fun _ _ _ _=>IW) Pr Qk (fun _=>IW) (fun _=>IW) (fun _=>IW) (fun _ _=>IW) (fun _ _ _=>IW) (fun _ _=>IW)
end
end Go.Pe
namespace Go.Sp
end Go.Sp
end
section
namespace Go.Pe
open Go.Det
end Go.Pe
end
section
namespace Go.Det
noncomputable section
abbrev T0:=FuncId→Option (List V→H→Option (V×H))
def Jv(P:Program)(s:T0):Prop:=∀f q,s f=some q→∀(p:Pl) (h:H) (w:World) (args:List V) (args':Array Value) v h',R p h w→Gp p→Ap p args args'.toList→q args h=some (v,h')→
 Calls P f args' w fun e w'=>∃v' p',e=.returned v'∧Ab p' v v'∧Ext p h w p' h' w'
def lX(a b:T0):T0:=fun f=>match a f with
 |some q=>some q
 |none=>b f
variable {P:Program}
theorem Lw{a b:T0}(ha:Jv P a)(hb:Jv P b):Jv P (lX a b):=by
 intro f q hq;unfold lX at hq;cases h:a f with
 |some q'=>rw[h]at hq;cases hq;exact ha f _ h
 |none=>rw[h]at hq;exact hb f q hq
def W9(C:Ctx)(s:T0):Ctx:={ C with spec:=s }
theorem TD{C:Ctx}(hC:C.Ok P){s:T0}(h:Jv P s):(W9 C s).Ok P where
 T:=hC.T
 fn:=hC.fn
 prim:=hC.prim
 spec:=h
theorem LM{C:Ctx}(hce:FE C)(s:T0):FE (W9 C s):=hce
theorem Rz{C:Ctx}(hC:C.Ok P)(hce:FE C)(hm:P.follows .mixedOrders=true){n:Nat}{L:Gm}(h:BS C n L=true):Jv P (F4 L):=iB (C':=C) hC hce hm h
theorem Cx{C:Ctx}{n:Nat}:∀ {a b:Gm},BS C n a=true→BS C n b=true→BS C n (a++b)=true
 |[],b,_,h=>h
 |(f,x,v)::a,b,h,k=>by
  simp only[BS,List.cons_append,Bool.and_eq_true]at h ⊢;exact⟨h.1,Cx h.2 k⟩
def Qj(C:Ctx)(n:Nat)(L:Gm):T0:=fun f=>match F4 L f with
 |none=>none
 |some q=>some fun args h=>match q args h with
  |some x=>some x
  |none=>match Bf C n (.fn f args) h with
   |some [x]=>some x
   |_=>none
theorem YN{C:Ctx}(hC:C.Ok P)(hce:FE C)(hm:P.follows .mixedOrders=true){n k:Nat}{L:Gm}(ha:BS C k L=true):Jv P (Qj C n L):=by
 intro f q hq p h w args args' v h' hr hg hargs hqr;unfold Qj at hq;cases hL:F4 L f with
 |none=>rw[hL]at hq;cases hq
 |some q0=>
  rw[hL]at hq;cases hq;simp only at hqr;split at hqr
  case h_1=>rename_i x hx;cases hqr;exact Rz hC hce hm ha f q0 hL p h w args args' v h' hr hg hargs hx
  case h_2=>
   split at hqr
   case h_2=>cases hqr
   rename_i x he;cases hqr;refine((HQ hC hce hm n).fn f args h _ he p w args' hr hg hargs).mono ?_;rintro e w' ⟨v1,h1,v',p',hmem,rfl,k1,k2⟩;cases List.mem_singleton.1 hmem;exact⟨v',p',rfl,k1,k2⟩
theorem IJ{p:Pl}{h:H}{w w':World}(hr:R p h w)(hb:Go.RowKit.Below w.heap.size w w'):Ext p h w p h w':=by
 obtain⟨h1,h2,h3,h4,h5⟩:=hb;refine⟨⟨[],by simp⟩,⟨hr.len,fun b o hb=>?_,hr.inj⟩,h4,fun r hlt _=>h5 r hlt,fun r hi=>.inl hi,h1,h3,h2,fun r hlt hl=>⟨h5 r hlt,.inl hl⟩⟩;obtain⟨r,m,y,g1,g2,g3⟩:=hr.obj b o hb;exact⟨r,m,y,g1,by rw[h5 r (Array.getElem?_eq_some_iff.1 g2).1];exact g2,g3⟩
end
end Go.Det
end
