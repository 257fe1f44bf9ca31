import Derived.Test.YtknhdhchejmpgaaGreatDoorX03
import Derived.Below
/- A part of a proof (no law is stated here). Made by program out of texts by AI agents. -/
noncomputable section
open Nat renaming beq -> zc, add -> ze, blt -> zg, ble -> zj, mul -> zk
open Int renaming toNat -> zd
open BitVec renaming ofInt -> zf
open Go.Op renaming bytesLess -> zh
open List renaming replicate -> zi
namespace Go.Det
section
def N9(P:Program):Nat->Nat->Bool
 |0,_=>true
 |n+1,a=>(match PT P (fun _=>true) a with|some i=>Dy i.body|none=>true)&&N9 P n (a+1)
variable {P:Program}
theorem Ql{ct:FuncId->Bool}{f:FuncId}{i:Fn}(hi:PT P ct f=some i):PT P (fun _=>true) f=some { i with cert:=true }/\i.cert=ct f:=by
 unfold PT at hi ⊢;cases hf:P.funcs[f]? with
 |none=>rw[hf]at hi;cases hi
 |some fn=>
  rw[hf]at hi;simp only at hi ⊢;cases hb:fn.body with
  |none=>rw[hb]at hi;cases hi
  |some b=>
   rw[hb]at hi;simp only at hi ⊢;split at hi
   ·cases hi
   ·rename_i hn;rw[wc hn];cases hi;exact⟨rfl,rfl⟩
theorem H6{f:Nat}{i:Fn}{ct:FuncId->Bool}(hi:PT P ct f=some i):∀ {n a:Nat},N9 P n a=true->a<=f->f<a+n->Dy i.body=true
 |0,a,_,h1,h2=>by omega
 |n+1,a,h,h1,h2=>by
  simp only[N9,Bool.and_eq_true]at h;by_cases e:a=f
  ·subst e;rw[(Ql hi).1]at h;exact h.1
  ·exact H6 hi h.2 (by omega) (by omega)
def yY(P:Program)(N:Nat)(L:List (FuncId×PK)):Ctx:=⟨pO P,0,PT P (fun f=>zg f N),RX L,fun _=>none,true⟩
theorem YK{N:Nat}{L:List (FuncId×PK)}(h:∀f i,f<N->PT P (fun f=>zg f N) f=some i->Dy i.body=true):Gf (yY P N L):=by
 intro f i hi hc;have hi:PT P (fun f=>zg f N) f=some i:=hi;rw[(Ql hi).2]at hc;exact h f i (Nat.le_of_ble_eq_true hc) hi
theorem sM{N:Nat}{L:List (FuncId×PK)}(hL:∀x∈L,Ii P x):(yY P N L).Ok P where
 T:=qZ P
 fn:=fun _ _ h=>nH (P:=P) (ct:=fun f=>zg f N) h
 prim:=fun f q hq p h w args args' v h' hr _ ha hd=>WL hL f q hq p h w args args' v h' hr ha hd
 spec:=fun f q hq=>by cases hq
end
end Go.Det
namespace Go.Pe
open Go.Det
inductive Sh where
 |int (k:IntKind)
 |bool
 |str
 |list (s:Sh)
 |pair (a b:Sh)
 |unit
 |nlist (s:Sh)
 |fnv
 deriving DecidableEq
@[reducible] def Sh.T:Sh->Type
 | .int _=>Int
 | .bool=>Bool
 | .str=>List UInt8
 | .list s=>List s.T
 | .pair a b=>a.T×b.T
 | .unit=>Unit
 | .nlist s=>List s.T
 | .fnv=>Option Fn
def Sh.HA:(s:Sh)->s.T
 | .int _=>(0:Int)
 | .bool=>false
 | .str=>([]:List UInt8)
 | .list _=>[]
 | .pair a b=>(a.HA,b.HA)
 | .unit=>()
 | .nlist _=>[]
 | .fnv=>none
def Sh.sz:Sh->Nat
 | .pair a b=>ze a.sz b.sz
 | .unit=>0
 |_=>1
inductive PV where
 |any
 |bl (b:Bool)
 |ub
 |dat (s:Sh) (x:s.T)
 |nil|nilp|nilm|nilf|nili
 |agg (l:List PV)
 |tup (l:List PV)
 |ptr (id off:Nat)
 |eptr (id sz i off:Nat)
 |FN (s:Sh) (x:s.T) (off:Nat)
 |sl (id sz off len:Nat) (cap:Option Nat)
 |mp (id:Nat)
 |fn (f:Fn) (first captured:List PV)
 |yl (id:Nat)
inductive zQ where
 |ready|busy|ret
 |exit (i:Nat)
inductive Obj where
 |arr (fz:Bool) (e:TypeId) (s:Sh) (l:List s.T)
 |box (cs:List PV)
 |tbox (t:TypeId) (cs:List PV)
 |map (ks vs:Sh) (l:List (ks.T×vs.T))
 |siter (s:List UInt8) (pos:Nat)
 |lp (f:FuncId) (r:Nat) (ps:Array Tmp) (asg body:Code) (s:zQ) (n:Nat) (sl:List (Nat×PV))
abbrev Ob:=List (Nat×Obj)
def AI:Ob->Nat->Option Obj
 |[],_=>none
 |(i,o)::l,j=>bif zc i j then some o else AI l j
def DB:Ob->Nat->Obj->Ob
 |[],_,_=>[]
 |(i,o)::l,j,x=>bif zc i j then(i,x)::l else(i,o)::DB l j x
def F4:Ob->Nat->Ob
 |[],_=>[]
 |(i,o)::l,j=>bif zc i j then F4 l j else(i,o)::F4 l j
structure AJ where
 n:Nat
 fr:PM PV
 ob:Ob
 nx:Nat
def AJ.get(st:AJ)(t:Nat):PV:=(st.fr.get t).getD .any
def AJ.obj(st:AJ)(id:Nat):Option Obj:=AI st.ob id
def AJ.set(st:AJ)(t:Nat)(v:PV):AJ:=⟨st.n,st.fr.set t (some v),st.ob,st.nx⟩
def AJ.setObj(st:AJ)(id:Nat)(o:Obj):AJ:=⟨st.n,st.fr,DB st.ob id o,st.nx⟩
def AJ.Ox(st:AJ)(id:Nat):AJ:=⟨st.n,st.fr,F4 st.ob id,st.nx⟩
def AJ.push(st:AJ)(o:Obj):AJ:=⟨st.n,st.fr,(st.nx,o)::st.ob,ze st.nx 1⟩
def AJ.put(st:AJ)(d:Option Nat)(v:PV):Option AJ:=
 match d with
 |none=>some st
 |some t=>bif zg t st.n then some (st.set t v)else none
def E8(vs:List (Nat×PV)):PM PV:=vs.foldl (fun m x=>m.set x.1 (some x.2)) .leaf
def flat:(s:Sh)->s.T->List PV
 | .pair a b,(x,y)=>flat a x++flat b y
 | .unit,_=>[]
 | .fnv,x=>[match (x:Option Fn)with|some f=>.fn f [] []|none=>.nilf]
 |s,x=>[.dat s x]
def D6(s s':Sh)(x:s.T):Option s'.T:=if h:s=s' then some (h▸x)else none
def oI(s:Sh)(v:PV):Option s.T:=
 match v with
 | .dat s' x=>D6 s' s x
 | .bl b=>D6 .bool s b
 | .fn f [] []=>D6 .fnv s (some f)
 | .nilf=>D6 .fnv s none
 | .nil=>match s with
  | .list _=>some []
  | .nlist _=>some []
  |_=>none
 |_=>none
def Cw:(s:Sh)->List PV->Option (s.T×List PV)
 | .pair a b,l=>match Cw a l with
  |some (x,l1)=>match Cw b l1 with
   |some (y,l2)=>some ((x,y),l2)
   |none=>none
  |none=>none
 | .unit,l=>some ((),l)
 |s,v::l=>match oI s v with
  |some x=>some (x,l)
  |none=>none
 |_,[]=>none
def C0(s:Sh)(l:List PV):Option s.T:=
 match Cw s l with
 |some (x,[])=>some x
 |_=>none
def PV.cells:PV->List PV
 | .agg cs=>cs
 |v=>[v]
def WZ(ty:TypeId->Option Sh):List Field->Option Sh
 |[]=>none
 |[x]=>ty x.type
 |x::xs=>match ty x.type,WZ ty xs with
  |some a,some b=>some (.pair a b)
  |_,_=>none
def nlf:Option Sh->Option Sh
 |some (.list (.int .u64))=>some (.nlist (.int .u64))
 |s=>s
def lz:PV->PV
 | .dat (.nlist s) x=>.dat (.list s) x
 |v=>v
def Sh.leaves:Sh->List Sh
 | .pair a b=>a.leaves++b.leaves
 | .unit=>[]
 |s=>[s]
def UH:Sh->PV->Bool×PV
 | .nlist s,.dat (.list s') x=>bif s==s' then(decide (0<x.length),.dat (.nlist s') x)else(true,.dat (.list s') x)
 | .list s,.dat (.nlist s') x=>bif s==s' then(true,.dat (.list s') x)else(true,.dat (.nlist s') x)
 |_,v=>(true,v)
def Ky:List Sh->List PV->Bool×List PV
 |s::l,v::vs=>((UH s v).1&&(Ky l vs).1,(UH s v).2::(Ky l vs).2)
 |_,vs=>(true,vs)
def VE(T:BU):Nat->TypeId->Option Sh
 |0,_=>none
 |f+1,t=>match T.und t with
  |some (.int k)=>some (.int k)
  |some .bool=>some .bool
  |some .string=>some .str
  |some (.slice e)=>(VE T f e).map .list
  |some (.func _ _ _)=>some .fnv
  |some (.struct fs)=>WZ (fun x=>nlf (VE T f x)) fs.toList
  |_=>none
def Sh.kF:Sh->Bool
 | .pair a b=>a.kF||b.kF
 | .fnv=>true
 |_=>false
def B7:(s:Sh)->s.T->PV
 | .pair a b,x=>.agg (flat (.pair a b) x)
 | .unit,_=>.agg []
 | .fnv,x=>match (x:Option Fn)with|some f=>.fn f [] []|none=>.nilf
 |s,x=>.dat s x
def Sh.PN:Sh->Bool
 | .pair _ _| .unit=>true
 |_=>false
def Wv:(s:Sh)->s.T->s.T->Bool
 | .int _,a,b=>(a:Int)==b
 | .bool,a,b=>(a:Bool)==b
 | .str,a,b=>(a:List UInt8)==b
 |_,_,_=>false
def DO(s v:Sh)(k:s.T):List (s.T×v.T)->Option v.T
 |[]=>none
 |(a,b)::l=>bif Wv s k a then some b else DO s v k l
def Km(s v:Sh)(k:s.T)(x:v.T):List (s.T×v.T)->List (s.T×v.T)
 |[]=>[(k,x)]
 |(a,b)::l=>bif Wv s k a then(k,x)::l else(a,b)::Km s v k x l
def Rb(s v:Sh)(k:s.T):List (s.T×v.T)->List (s.T×v.T)
 |[]=>[]
 |(a,b)::l=>bif Wv s k a then l else(a,b)::Rb s v k l
inductive Tr where
 |fail
 |leaf (v:PV) (ob:Ob)
 |ite (c:Bool) (a b:Tr)
 |both (a b:Tr)
 |cut (nd ro:Bool) (d:Nat) (f:FuncId) (base:Nat) (b:Code) (st:AJ) (k:DX->AJ->Tr)
 |alts (m:Nat) (f:Nat->Tr)
 |loop (nd ro:Bool) (d:Nat) (f:FuncId) (base:Nat) (b:Code) (st:AJ) (k:DX->AJ->Tr)
inductive PO where
 |bad
 |val (v:PV) (st:AJ)
 |ite (c:Bool) (a b:PO)
def PO.HR(c:Bool)(v:PV)(st:AJ):PO:=.ite c (.val v st) .bad
mutual
def MM:Value->Option PV
 | .bool b=>some (.bl b)
 | .int k n=>some (.dat (.int k) n)
 | .string s=>some (.dat .str s.data.toList)
 | .pointer none=>some .nilp
 | .slice none 0 0=>some .nil
 | .map none=>some .nilm
 | .nilFunc=>some .nilf
 | .nilIface=>some .nili
 | .func f ⟨[]⟩ ⟨[]⟩=>some (.fn f [] [])
 | .agg ⟨cs⟩=>(YH cs).map .agg
 | .tuple ⟨cs⟩=>(YH cs).map .tup
 |_=>none
def YH:List Value->Option (List PV)
 |[]=>some []
 |v::vs=>match MM v,YH vs with
  |some x,some xs=>some (x::xs)
  |_,_=>none
end
def Vb:V->PV
 | .bool b=>.bl b
 | .int k n=>.dat (.int k) n
 | .str s=>.dat .str s
 | .nilp=>.nilp
 | .nils=>.nil
 | .nilm=>.nilm
 | .nilf=>.nilf
 | .nili=>.nili
 |_=>.any
def P1(st:AJ):Operand->Option PV
 | .tmp t=>some (st.get t)
 | .const v=>MM v
 | .global _=>none
 | .func f=>some (.fn (.func f) [] [])
def LM(st:AJ):List Operand->Option (List PV)
 |[]=>some []
 |x::xs=>match P1 st x,LM st xs with
  |some v,some vs=>some (v::vs)
  |_,_=>none
def Y6(st:AJ):List (Nat×Operand)->Option (List (Nat×PV))
 |[]=>some []
 |(i,x)::xs=>match P1 st x,Y6 st xs with
  |some v,some vs=>some ((i,v)::vs)
  |_,_=>none
def aN(T:BU)(t:TypeId):Option (List PV):=(T.inf t).bind fun i=>bif KU V.ok i.zero then some (i.zero.map Vb)else none
def pick(d:TypeDesc)(n:Nat)(cs:List PV):Option PV:=
 bif DR d then(bif zj n (Dk cs)&&zg 0 n then some (.agg (Qm n cs))else none)
 else match cs with
  |v::_=>some v
  |[]=>none
def ov(st:AJ):Option PV->PO
 |some v=>.val v st
 |none=>.bad
def vJ(c:Bool)(st:AJ):Option PV->PO
 |some v=>.HR c v st
 |none=>.bad
def chunk(s:Sh):Nat->List PV->Option (List s.T)
 |0,_=>some []
 |n+1,cs=>match Cw s cs with
  |some (x,cs')=>(chunk s n cs').map (x:: ·)
  |none=>none
def OF(s:Sh)(l:List s.T):Nat->Nat->List PV
 |_,0=>[]
 |j,n+1=>flat s (l.getD j s.HA)++OF s l (ze j 1) n
def zsh:List V->Option Sh
 | .bool _::_=>some .bool
 | .int k _::_=>some (.int k)
 |_=>none
def uZ:Sh->V->Bool
 | .bool,.bool b=> !b
 | .int k,.int k' n=>decide (k=k')&&decide (n=0)
 |_,_=>false
def tV(T:BU)(t:TypeId):Option (Sh×Nat):=
 match T.und t,T.inf t with
 |some (.array _ _),some i=>match zsh i.zero with
  |some s=>bif zj 32 (Dk i.zero)&&KU (uZ s) i.zero then some (s,Dk i.zero)else none
  |none=>none
 |_,_=>none
def Mn(T:BU)(st:AJ)(t:TypeId)(a:PV):PO:=
 match T.und t,T.inf t with
 |some d,some i=>match a with
  | .ptr id off=>match st.obj id with
   |some (.box cs)=>ov st (pick d i.size (HI off cs))
   |some (.arr _ _ s l)=>bif zc off 0&&zc s.sz 1 then vJ (decide (l.length=i.size)) st (pick d i.size (OF s l 0 i.size))else .bad
   |some (.tbox _ cs)=>ov st (pick d i.size (HI off cs))
   |_=>.bad
  | .eptr id sz j off=>match st.obj id with
   |some (.arr _ _ s l)=>bif zc sz s.sz then vJ (decide (j<l.length)) st (pick d i.size (HI off (flat s (l.getD j s.HA))))else .bad
   |_=>.bad
  | .FN s x off=>ov st (pick d i.size (HI off (flat s x)))
  |_=>.bad
 |_,_=>.bad
def HQ:Option Obj->Bool
 |some _=>true
 |none=>false
def Js(st:AJ):PV->Bool
 | .agg _| .tup _| .any| .ub=>false
 | .ptr id _| .eptr id _ _ _| .sl id _ _ _ _| .mp id| .yl id=>HQ (st.obj id)
 |_=>true
def vB(st:AJ):PV->Option (List PV)
 | .agg l=>some l
 |p=>bif Js st p then some [p]else none
def VI(T:BU)(st:AJ)(t:TypeId)(a x:PV):PO:=
 match T.inf t,vB st x with
 |some i,some xs=>bif zc (Dk xs) i.size&&KU (Js st) xs then
   match a with
   | .ptr id off=>match st.obj id with
    |some (.box cs)=>bif zj (ze off i.size) (Dk cs)then .val (.tup []) (st.setObj id (.box (Cn off xs cs)))else .bad
    |some (.arr false e s l)=>bif zc off 0&&zc s.sz 1 then
      match chunk s i.size xs with
      |some y=>.HR (decide (l.length=i.size)) (.tup []) (st.setObj id (.arr false e s y))
      |none=>.bad
     else .bad
    |some (.tbox tb cs)=>bif zj (ze off i.size) (Dk cs)then .val (.tup []) (st.setObj id (.tbox tb (Cn off xs cs)))else .bad
    |_=>.bad
   | .eptr id sz j off=>match st.obj id with
    |some (.arr false e s l)=>bif zc sz s.sz&&zj (ze off i.size) sz then
      match C0 s (Cn off xs (flat s (l.getD j s.HA)))with
      |some y=>.HR (decide (j<l.length)) (.tup []) (st.setObj id (.arr false e s (l.set j y)))
      |none=>.bad
     else .bad
    |_=>.bad
   |_=>.bad
  else .bad
 |_,_=>.bad
def G8(k:IntKind)(a b:Int):Int:=k.wrap (zf k.bits a&&&zf k.bits b).toNat
def ZG(k:IntKind)(a b:Int):Int:=k.wrap (zf k.bits a|||zf k.bits b).toNat
def zC(k:IntKind)(a b:Int):Int:=k.wrap (zf k.bits a^^^zf k.bits b).toNat
def vT(k:IntKind)(a b:Int):Int:=k.wrap (zf k.bits a&&& ~~~zf k.bits b).toNat
def rP(op:BinOp)(k:IntKind)(a b:Int)(st:AJ):PO:=
 match op with
 | .add=>.val (.dat (.int k) (k.wrap (a+b))) st
 | .sub=>.val (.dat (.int k) (k.wrap (a-b))) st
 | .mul=>.val (.dat (.int k) (k.wrap (a*b))) st
 | .quo=>.HR (decide (b≠0)) (.dat (.int k) (k.wrap (a.tdiv b))) st
 | .rem=>.HR (decide (b≠0)) (.dat (.int k) (a.tmod b)) st
 | .and=>.val (.dat (.int k) (G8 k a b)) st
 | .or=>.val (.dat (.int k) (ZG k a b)) st
 | .xor=>.val (.dat (.int k) (zC k a b)) st
 | .andNot=>.val (.dat (.int k) (vT k a b)) st
 | .eql=>.val (.dat .bool (a==b)) st
 | .neq=>.val (.dat .bool (a !=b)) st
 | .lss=>.val (.dat .bool (decide (a<b))) st
 | .leq=>.val (.dat .bool (decide (a<=b))) st
 | .gtr=>.val (.dat .bool (decide (a>b))) st
 | .geq=>.val (.dat .bool (decide (a>=b))) st
 |_=>.bad
def yS(op:BinOp)(k:IntKind)(a b:Int)(st:AJ):PO:=
 match op with
 | .shl=>.HR (decide (0<=b)) (.dat (.int k) (k.wrap (a*2^(min b.toNat k.bits)))) st
 | .shr=>.HR (decide (0<=b)) (.dat (.int k) (a.fdiv (2^(min b.toNat k.bits)))) st
 |_=>.bad
def tN(op:BinOp)(x y:List UInt8)(st:AJ):PO:=
 match op with
 | .add=>.HR (decide (x.length+y.length<=4611686018427387904)) (.dat .str (x++y)) st
 | .eql=>.val (.dat .bool (x==y)) st
 | .neq=>.val (.dat .bool (!(x==y))) st
 | .lss=>.val (.dat .bool (zh x y)) st
 | .leq=>.val (.dat .bool (zh x y||x==y)) st
 | .gtr=>.val (.dat .bool (!(zh x y||x==y))) st
 | .geq=>.val (.dat .bool (!zh x y)) st
 |_=>.bad
def kG:BinOp->Bool
 | .shl| .shr=>true
 |_=>false
def I4:PV->Option Bool
 | .bl b=>some b
 | .dat .bool b=>some b
 |_=>none
def GX:List FK->List PV->List PV->Option Bool
 |[],[],[]=>some true
 | .int k::ks,.dat (.int k1) a::xs,.dat (.int k2) b::ys=>bif k==k1&&k==k2 then(GX ks xs ys).map fun r=>(a:Int)==(b:Int)&&r else none
 | .str::ks,.dat .str a::xs,.dat .str b::ys=>(GX ks xs ys).map fun r=>(a:List UInt8)==(b:List UInt8)&&r
 | .bool::ks,a::xs,b::ys=>match I4 a,I4 b with
  |some a,some b=>(GX ks xs ys).map fun r=>a==b&&r
  |_,_=>none
 |_,_,_=>none
def Ro(st:AJ)(ng:Bool)(x:PV):PO:=
 match x with
 | .nil=>.val (.bl (!ng)) st
 | .sl id _ _ _ _=>bif HQ (st.obj id)then .val (.bl ng) st else .bad
 | .dat (.list _) l=>.ite (decide (0<l.length)) (.val (.bl ng) st) (.val .ub st)
 | .dat (.nlist _) l=>.val (.dat .bool (bif ng then decide (0<l.length)else !decide (0<l.length))) st
 |_=>.bad
def cU(op:BinOp)(x y:PV)(st:AJ):PO:=
 match op,x,y with
 | .eql,x,.nil=>Ro st false x
 | .neq,x,.nil=>Ro st true x
 |_,_,_=>.bad
def ptrEq(T:BU)(e:TypeId)(st:AJ)(x y:PV):Option Bool:=
 match x,y with
 | .nilp,.nilp=>some true
 | .ptr id _,.nilp=>bif HQ (st.obj id)then some false else none
 | .nilp,.ptr id _=>bif HQ (st.obj id)then some false else none
 | .ptr a i,.ptr b j=>bif zc a b&&HQ (st.obj a)then match T.inf e with
   |some ti=>bif zg 0 ti.size then some (zc i j)else none
   |none=>none
  else none
 |_,_=>none
def qX(T:BU)(op:BinOp)(t:TypeId)(x y:PV)(st:AJ):PO:=
 match x,y with
 | .dat (.int k) a,.dat (.int k') b=>bif kG op then yS op k a b st else(bif k==k' then rP op k a b st else .bad)
 | .dat .str a,.dat .str b=>tN op a b st
 | .agg xs,.agg ys=>match T.flat t with
  |some ks=>match op,GX ks xs ys with
   | .eql,some r=>.val (.dat .bool r) st
   | .neq,some r=>.val (.dat .bool (!r)) st
   |_,_=>.bad
  |none=>.bad
 |x,y=>match I4 x,I4 y,T.und t with
  |some a,some b,some .bool=>match op with
   | .eql=>.val (.dat .bool (a==b)) st
   | .neq=>.val (.dat .bool (!(a==b))) st
   |_=>.bad
  |_,_,some (.slice _)=>cU op x y st
  |_,_,some (.pointer e)=>match op,ptrEq T e st x y with
   | .eql,some r=>.val (.bl r) st
   | .neq,some r=>.val (.bl (!r)) st
   |_,_=>.bad
  |_,_,_=>.bad
def zG(op:UnOp)(x:PV)(st:AJ):PO:=
 match op,x with
 | .neg,.dat (.int k) n=>.val (.dat (.int k) (k.wrap (0-(n:Int)))) st
 | .not,.bl b=>.val (.bl (!b)) st
 | .not,.ub=>.val .ub st
 | .not,.dat .bool b=>.val (.dat .bool (!b)) st
 |_,_=>.bad
def iJ(T:BU)(s d:TypeId)(x:PV)(st:AJ):PO:=
 match T.und s,T.und d,x with
 |some _,some (.int k),.dat (.int _) n=>.val (.dat (.int k) (k.wrap n)) st
 |some .string,some .string,.dat .str s=>.val (.dat .str s) st
 |_,_,_=>.bad
def dV(c a b:PV)(st:AJ):PO:=
 match c with
 | .bl t=>.val (bif t then a else b) st
 | .dat .bool t=>match a,b with
  | .dat .bool x,.bl false=>.val (.dat .bool (t&&x)) st
  | .bl true,.dat .bool x=>.val (.dat .bool (t||x)) st
  |_,_=>.ite t (.val a st) (.val b st)
 |_=>.bad
def Vp(T:BU)(t:TypeId)(x:PV)(f:Nat)(st:AJ):PO:=
 match T.und t,x with
 |some (.struct fs),.agg cs=>match fs[f]? with
  |some fd=>match T.und fd.type,T.inf fd.type with
   |some d,some i=>ov st (pick d i.size (HI fd.offset cs))
   |_,_=>.bad
  |none=>.bad
 |_,_=>.bad
def U0(T:BU)(t:TypeId)(x:PV)(f:Nat)(st:AJ):PO:=
 match T.und t with
 |some (.struct fs)=>match fs[f]? with
  |some fd=>match T.inf fd.type with
   |some i=>bif zc i.size 0 then .bad else match x with
    | .ptr id off=>bif HQ (st.obj id)then .val (.ptr id (ze off fd.offset)) st else .bad
    | .eptr id sz j off=>bif HQ (st.obj id)then .val (.eptr id sz j (ze off fd.offset)) st else .bad
    | .FN s y off=>.val (.FN s y (ze off fd.offset)) st
    |_=>.bad
   |none=>.bad
  |none=>.bad
 |_=>.bad
def Sr(T:BU)(t:TypeId)(x ix:PV)(st:AJ):PO:=
 match T.und t,ix with
 |some (.slice e),.dat (.int _) i=>match T.inf e with
  |some ti=>match x with
   | .dat (.list s) l=>bif zc ti.size s.sz then .HR (decide (0<=(i:Int))&&decide ((i:Int)<(l.length:Int))) (.FN s (l.getD (zd i) s.HA) 0) st else .bad
   | .sl id sz off len _=>bif zc ti.size sz&&HQ (st.obj id)then .HR (decide (0<=(i:Int))&&decide ((i:Int)<(len:Int))) (.eptr id sz (ze (zd i) off) 0) st else .bad
   |_=>.bad
  |none=>.bad
 |some (.array len e),.dat (.int _) i=>match T.inf e with
  |some ti=>match x with
   | .ptr id off=>match st.obj id with
    |some (.arr _ _ s _)=>bif zc off 0&&zc ti.size s.sz then .HR (decide (0<=(i:Int))&&decide ((i:Int)<(len:Int))) (.eptr id s.sz (zd i) 0) st else .bad
    |some _=>.HR (decide (0<=(i:Int))&&decide ((i:Int)<(len:Int))) (.ptr id (ze off (zk (zd i) ti.size))) st
    |none=>.bad
   | .eptr id sz j off=>bif HQ (st.obj id)then .HR (decide (0<=(i:Int))&&decide ((i:Int)<(len:Int))) (.eptr id sz j (ze off (zk (zd i) ti.size))) st else .bad
   | .FN s y off=>.HR (decide (0<=(i:Int))&&decide ((i:Int)<(len:Int))) (.FN s y (ze off (zk (zd i) ti.size))) st
   |_=>.bad
  |none=>.bad
 |_,_=>.bad
def iN(T:BU)(t:TypeId)(x ix:PV)(st:AJ):PO:=Sr T t (lz x) ix st
def VB(T:BU)(t:TypeId)(x ix:PV)(st:AJ):PO:=
 match T.und t,x,ix with
 |some .string,.dat .str s,.dat (.int _) i=>.HR (decide (0<=(i:Int))&&decide ((i:Int)<((s:List UInt8).length:Int))) (.dat (.int .u8) (((s:List UInt8).getD (zd i) 0).toNat:Int)) st
 |some (.array len e),.agg cs,.dat (.int _) i=>match T.und e,T.inf e with
  |some d,some ti=>vJ (decide (0<=(i:Int))&&decide ((i:Int)<(len:Int))) st (pick d ti.size (HI (zk (zd i) ti.size) cs))
  |_,_=>.bad
 |_,_,_=>.bad
def Oe(x:PV)(i:Nat)(st:AJ):PO:=
 match x with
 | .tup vs=>match vs[i]? with
  |some v=>.val v st
  |none=>.bad
 |_=>.bad
def pb(x:Option PV)(HA:Nat):Option (Bool×Nat):=
 match x with
 |none=>some (true,HA)
 |some (.dat (.int _) n)=>some (decide (0<=(n:Int)),zd n)
 |_=>none
def has(mx:Option PV)(c:Nat):Bool:=match mx with
 |none=>true
 |some _=>decide (0<c)
def Rx(T:BU)(t:TypeId)(x:PV)(lo hi mx:Option PV)(st:AJ):PO:=
 match T.und t with
 |some .string=>match x,mx with
  | .dat .str s,none=>match pb lo 0,pb hi (s:List UInt8).length with
   |some (c1,l),some (c2,h)=>.HR (c1&&c2&&decide (l<=h)&&decide (h<=(s:List UInt8).length)) (.dat .str (((s:List UInt8).drop l).take (Nat.sub h l))) st
   |_,_=>.bad
  |_,_=>.bad
 |some (.slice e)=>match T.inf e with
  |some ti=>match x with
   | .dat (.list s) xs=>bif zc ti.size s.sz then
     match pb lo 0,pb hi xs.length,mx with
     |some (c1,l),some (c2,h),none=>.HR (c1&&c2&&decide (l<=h)&&decide (h<=xs.length)) (.dat (.list s) ((xs.drop l).take (Nat.sub h l))) st
     |_,_,_=>.bad
    else .bad
   | .sl id sz off len cap=>bif zc ti.size sz&&HQ (st.obj id)then
     match hi,mx with
     |none,some _=>.bad
     |_,_=>match pb lo 0,pb hi len,pb mx (cap.getD len)with
      |some (c1,l),some (c2,h),some (c3,m)=>.HR (c1&&c2&&c3&&decide (l<=h)&&decide (h<=m)&&decide (m<=cap.getD len)&&has mx (cap.getD len)) (.sl id sz (ze off l) (Nat.sub h l) (some (Nat.sub m l))) st
      |_,_,_=>.bad
    else .bad
   | .nil=>match pb lo 0,pb hi 0,mx with
    |some (c1,l),some (c2,h),none=>.HR (c1&&c2&&decide (l<=h)&&decide (h<=0)) .nil st
    |some (c1,l),some (c2,h),some q=>match hi,pb (some q) 0 with
     |some _,some (c3,m)=>.HR (c1&&c2&&c3&&decide (l<=h)&&decide (h<=m)&&decide (m<=0)) .nil st
     |_,_=>.bad
    |_,_,_=>.bad
   |_=>.bad
  |none=>.bad
 |_=>.bad
def bK(T:BU)(t:TypeId)(x:PV)(lo hi mx:Option PV)(st:AJ):PO:=Rx T t (lz x) lo hi mx st
def pi64(n:Nat):PV:=.dat (.int .i64) (Int.ofNat n)
def TP(T:BU)(ts:Array TypeId)(args:List PV)(st:AJ):PO:=
 match ts[0]?,args with
 |some t,[x]=>match T.und t,x with
  |some .string,.dat .str s=>.val (pi64 (s:List UInt8).length) st
  |some (.slice _),.dat (.list _) l=>.val (pi64 l.length) st
  |some (.slice _),.sl id _ _ len _=>bif HQ (st.obj id)then .val (pi64 len) st else .bad
  |some (.slice _),.nil=>.val (pi64 0) st
  |some (.map _ _),.mp id=>match st.obj id with
   |some (.map _ _ l)=>.val (pi64 l.length) st
   |_=>.bad
  |_,_=>.bad
 |_,_=>.bad
def pF(T:BU)(ts:Array TypeId)(args:List PV)(st:AJ):PO:=TP T ts (args.map lz) st
def xC(f:Int->Int->Int)(k:IntKind):Int->List PV->Option Int
 |x,[]=>some x
 |x,.dat (.int k') y::ys=>bif k==k' then xC f k (f x y) ys else none
 |_,_=>none
def No(f:Int->Int->Int)(args:List PV)(st:AJ):PO:=
 match args with
 | .dat (.int k) x::ys=>match xC f k x ys with
  |some z=>.val (.dat (.int k) z) st
  |none=>.bad
 |_=>.bad
def imax(x y:Int):Int:=if y>x then y else x
def Er(x y:Int):Int:=if y<x then y else x
def MZ(st:AJ)(s:Sh)(x:PV):Option (Bool×List s.T):=
 match x with
 | .nil=>some (true,[])
 | .dat (.list s') l=>(D6 (.list s') (.list s) l).map fun r=>(true,r)
 | .sl id sz off len _=>match st.obj id with
  |some (.arr _ _ s' l)=>bif zc sz s'.sz then(D6 (.list s') (.list s) l).map fun r=>(decide (off+len<=r.length),(r.drop off).take len)else none
  |_=>none
 | .dat .str l=>(D6 (.list (.int .u8)) (.list s) (List.map (fun b:UInt8=>(b.toNat:Int)) l)).map fun r=>(true,r)
 |_=>none
def On(st:AJ)(s:Sh)(x:PV):Option (Bool×List s.T):=MZ st s (lz x)
def vA:Nat:=281474976710656
def SK:TypeDesc->Bool
 | .slice _=>true
 | .string=>true
 |_=>false
def RS(T:BU)(ts:Array TypeId)(args:List PV)(st:AJ):PO:=
 match ts[0]?,ts[1]?,args with
 |some t,some tx,[b,x]=>match T.und t,T.und tx with
  |some (.slice e),some dx=>bif SK dx then match T.inf e,VE T 9 e with
   |some i,some s=>
    bif zg 0 i.bytes&&zg 0 i.size&&zc i.zero.length i.size&&zc i.size s.sz then
     match On st s x with
     |some (c,new)=>match b with
      | .nil=>match x with
       | .nil=>.val .nil st
       | .dat _ _=>.ite (decide (0<new.length)) (.HR (c&&decide ((2*new.length+1000)*i.bytes<=vA)) (.sl st.nx s.sz 0 new.length none) (st.push (.arr false e s new))) (.val .nil st)
       | .sl _ _ _ _ (some _)=>.ite (decide (0<new.length)) (.HR (c&&decide ((2*new.length+1000)*i.bytes<=vA)) (.sl st.nx s.sz 0 new.length none) (st.push (.arr false e s new))) (.HR c .nil st)
       |_=>.HR (c&&decide (0<new.length)&&decide ((2*new.length+1000)*i.bytes<=vA)) (.sl st.nx s.sz 0 new.length none) (st.push (.arr false e s new))
      | .sl id sz off len cap=>match st.obj id with
       |some (.arr false e' s' l)=>match D6 (.list s') (.list s) l with
        |some l'=>bif zc e e'&&zc sz s.sz then
          match cap with
          |none=>.HR (c&&decide (off=0)&&decide (len=l'.length)&&decide ((2*(len+new.length)+1000)*i.bytes<=vA)) (.sl st.nx s.sz 0 (ze len new.length) none) ((st.Ox id).push (.arr false e s (l'++new)))
          |some k=>.HR (c&&decide (len+new.length<=k)&&decide (off+k<=l'.length)) (.sl id sz off (ze len new.length) (some k)) (st.setObj id (.arr false e s (l'.take (off+len)++(new++l'.drop (off+len+new.length)))))
         else .bad
        |none=>.bad
       |_=>.bad
      |_=>.bad
     |none=>.bad
    else .bad
   |_,_=>.bad
   else .bad
  |_,_=>.bad
 |_,_,_=>.bad
def Wo(T:BU)(ts:Array TypeId)(args:List PV)(st:AJ):PO:=
 match ts[0]?,args with
 |some t,[x]=>match T.und t with
  |some (.slice e)=>match x with
   | .nil=>.val (.tup []) st
   | .sl id sz off len _=>match T.inf e,st.obj id with
    |some i,some (.arr false e' s l)=>
     bif zc sz s.sz&&zg 0 i.zero.length&&zc i.zero.length s.sz&&KU V.one i.zero then
      match C0 s (i.zero.map Vb)with
      |some z=>.HR (decide (off+len<=l.length)) (.tup []) (st.setObj id (.arr false e' s (l.take off++(zi len z++l.drop (off+len)))))
      |none=>.bad
     else .bad
    |_,_=>.bad
   |_=>.bad
  |_=>.bad
 |_,_=>.bad
def Vw(args:List PV)(st:AJ):PO:=
 match args with
 |[.sl id sz off len none]=>bif HQ (st.obj id)then .HR (decide (0<len)) (.eptr id sz off 0) st else .bad
 |_=>.bad
def Wi(l:List Int):List UInt8:=l.map fun x=>UInt8.ofNat x.toNat
def QA(l:List Int):Bool:=l.all fun x=>decide (0<=x)&&decide (x<256)
def iA(T:BU)(ts:List TypeId)(args:List PV)(st:AJ):PO:=
 match ts,args with
 |[pt,_],[.eptr id _ i 0,.dat (.int .i64) n]=>match T.und pt,st.obj id with
  |some (.pointer e),some (.arr false e' s l)=>match T.inf e,D6 (.list s) (.list (.int .u8)) l with
   |some ti,some bs=>bif zc ti.size 1&&zc e e' then
     .HR (decide (i=0)&&decide (0<(n:Int))&&decide (zd n<=(bs:List Int).length)&&decide (zd n<=9223372036854775807)&&QA bs) (.dat .str (Wi ((bs:List Int).take (zd n)))) (st.Ox id)
    else .bad
   |_,_=>.bad
  |_,_=>.bad
 |_,_=>.bad
def Iz(T:BU)(b:Builtin)(ts:Array TypeId)(args:List PV)(st:AJ):PO:=
 match b with
 | .len=>pF T ts args st
 | .append=>RS T ts args st
 | .max=>No imax args st
 | .min=>No Er args st
 | .clear=>Wo T ts args st
 | .unsafeSliceData=>Vw args st
 | .unsafeString=>iA T ts.toList args st
 |_=>.bad
def rune(s:List UInt8)(pos:Nat):Int:=(Utf8.decode (bytesOf s) pos).1
def qK(s:List UInt8)(pos:Nat):Nat:=(Utf8.decode (bytesOf s) pos).2
def Vi(T:BU)(t:TypeId)(x:PV)(st:AJ):PO:=
 match T.und t,x with
 |some .string,.dat .str s=>.val (.ptr st.nx 0) (st.push (.siter s 0))
 |_,_=>.bad
def iH(x:PV)(isStr:Bool)(st:AJ):PO:=
 match x,isStr with
 | .ptr id 0,true=>match st.obj id with
  |some (.siter s pos)=>.ite (decide (pos<s.length)) (.val (.tup [.bl true,.dat (.int .i64) (Int.ofNat pos),.dat (.int .i32) (rune s pos)]) (st.setObj id (.siter s (ze pos (qK s pos))))) (.val (.tup [.bl false]) st)
  |_=>.bad
 |_,_=>.bad
def QQ(st:AJ)(place:Nat->Option (Nat×Nat))(cells:List PV):List (Nat×PV)->Option (List PV)
 |[]=>some cells
 |(i,v)::rest=>match place i with
  |none=>none
  |some (off,size)=>match vB st v with
   |some vs=>bif zc (Dk vs) size&&zj (ze off size) (Dk cells)then QQ st place (Cn off vs cells) rest else none
   |none=>none
def VW(T:BU)(st:AJ)(t:TypeId)(parts:List (Nat×PV)):Option PV:=
 match T.inf t,T.und t with
 |some i,some (.struct fs)=>
  match fs.toList.mapM (fun f=>(T.inf f.type).map fun j=>(f.offset,j.size))with
  |some pl=>(QQ st (fun i=>pl[i]?) (i.zero.map Vb) parts).map .agg
  |none=>none
 |some i,some (.array _ e)=>match T.inf e with
  |some j=>(QQ st (fun i=>some (i*j.size,j.size)) (i.zero.map Vb) parts).map .agg
  |none=>none
 |_,_=>none
def JC(z:List PV):Nat->List PV
 |0=>[]
 |n+1=>z++JC z n
def CF(st:AJ):PV->Option (Bool×PV)
 | .sl id sz off len _=>match st.obj id with
  |some (.arr _ _ s l)=>bif zc sz s.sz then some (decide (off+len<=l.length),.dat (.list s) ((l.drop off).take len))else none
  |_=>none
 | .dat s x=>some (true,.dat s x)
 | .bl b=>some (true,.bl b)
 | .nil=>some (true,.nil)
 |_=>none
def Ep(st:AJ):List PV->Option (Bool×List PV)
 |[]=>some (true,[])
 |v::vs=>match CF st v,Ep st vs with
  |some (c,x),some (d,xs)=>some (c&&d,x::xs)
  |_,_=>none
def By(st:AJ):PV->AJ
 | .sl id _ _ _ _=>match st.obj id with
  |some (.arr _ e s l)=>st.setObj id (.arr true e s l)
  |_=>st
 |_=>st
def Bp:List PV->AJ->AJ
 |[],st=>st
 |v::vs,st=>Bp vs (By st v)
def RK(T:BU)(t:TypeId)(len:Nat)(parts:List (Nat×PV))(st:AJ):PO:=
 match T.und t with
 |some (.slice e)=>match T.inf e,VE T 9 e with
  |some i,some s=>
   bif zj (zk len i.size) 16777216&&zg 0 i.zero.length&&zc i.zero.length i.size&&zc i.size s.sz then
    match QQ st (fun k=>some (k*i.size,i.size)) (JC (i.zero.map Vb) len) parts with
    |some cs=>match chunk s len cs with
     |some l=>.val (.sl st.nx s.sz 0 len none) (st.push (.arr false e s l))
     |none=>match Ep st cs with
      |some (c,cs')=>match chunk s len cs' with
       |some l=>.HR c (.sl st.nx s.sz 0 len none) ((Bp cs st).push (.arr false e s l))
       |none=>.bad
      |none=>.bad
    |none=>.bad
   else .bad
  |_,_=>.bad
 |_=>.bad
def dM(T:BU)(t:TypeId)(l c:PV)(st:AJ):PO:=
 match T.und t,l,c with
 |some (.slice e),.dat (.int _) l,.dat (.int _) c=>match T.inf e,VE T 9 e with
  |some i,some s=>
   bif zg 0 i.zero.length&&zc i.zero.length i.size&&zc i.size s.sz then
    match C0 s (i.zero.map Vb)with
    |some z=>.HR (decide (0<=(l:Int))&&decide ((l:Int)=(c:Int))&&decide (i.bytes*zd l<=vA)&&decide ((l:Int)<9223372036854775808)) (.sl st.nx s.sz 0 (zd l) none) (st.push (.arr false e s (zi (zd l) z)))
    |none=>.bad
   else .bad
  |_,_=>.bad
 |_,_,_=>.bad
def pD(T:BU)(t:TypeId):Option Sh:=match T.und t with
 |some (.int k)=>some (.int k)
 |some .string=>some .str
 |some .bool=>some .bool
 |_=>none
def Kq:PV->Bool
 | .agg _=>true
 |_=>false
def yX(s:Sh)(p:PV):Option s.T:=bif Kq p==s.PN then C0 s p.cells else none
def Wf(T:BU)(t:TypeId)(st:AJ):PO:=match T.und t with
 |some (.map kt e)=>match pD T kt,VE T 9 e with
  |some ks,some vs=>.val (.mp st.nx) (st.push (.map ks vs []))
  |_,_=>.bad
 |_=>.bad
def aH(st:AJ)(ks vs:Sh)(m:PV):Option (List (ks.T×vs.T)):=match m with
 | .nilm=>some []
 | .mp id=>match st.obj id with
  |some (.map ks' vs' l)=>D6 (.list (.pair ks' vs')) (.list (.pair ks vs)) l
  |_=>none
 |_=>none
def wY:V->Bool
 | .agg _=>true
 |_=>false
def xL(ks vs:Sh)(ok:Bool)(z:vs.T)(x:ks.T)(st:AJ):List (ks.T×vs.T)->PO
 |[]=>.val (bif ok then .tup [B7 vs z,.bl false]else B7 vs z) st
 |(a,b)::l=>.ite (Wv ks x a) (.val (bif ok then .tup [B7 vs b,.bl true]else B7 vs b) st) (xL ks vs ok z x st l)
def RD(T:BU)(t:TypeId)(m k:PV)(ok:Bool)(st:AJ):PO:=match T.und t with
 |some (.map kt e)=>match pD T kt,VE T 9 e,T.inf e with
  |some ks,some vs,some i=>match oI ks k,aH st ks vs m,C0 vs (i.zero.map Vb)with
   |some x,some l,some z=>
    bif wY i.zv==vs.PN then bif vs.kF then xL ks vs ok z x st l else
     (let v:=B7 vs ((DO ks vs x l).getD z)
     .val (bif ok then .tup [v,.dat .bool (DO ks vs x l).isSome]else v) st)
    else .bad
   |_,_,_=>.bad
  |_,_,_=>.bad
 |_=>.bad
def Rp(T:BU)(t:TypeId)(m k v:PV)(st:AJ):PO:=match T.und t,m with
 |some (.map kt _),.mp id=>match pD T kt,st.obj id with
  |some ks,some (.map ks' vs l)=>match oI ks k,D6 (.list (.pair ks' vs)) (.list (.pair ks vs)) l,yX vs v with
   |some x,some l,some y=>.val (.tup []) (st.setObj id (.map ks vs (Km ks vs x y l)))
   |_,_,_=>.bad
  |_,_=>.bad
 |_,_=>.bad
def Q8(T:BU)(ts:Array TypeId)(args:List PV)(st:AJ):PO:=match ts[0]?,args with
 |some t,[.mp id,k]=>match T.und t with
  |some (.map kt _)=>match pD T kt,st.obj id with
   |some ks,some (.map ks' vs l)=>match oI ks k,D6 (.list (.pair ks' vs)) (.list (.pair ks vs)) l with
    |some x,some l=>.val (.tup []) (st.setObj id (.map ks vs (Rb ks vs x l)))
    |_,_=>.bad
   |_,_=>.bad
  |_=>.bad
 |_,_=>.bad
abbrev KL:=BU->AJ->PO
def v1(st:AJ)(x:Operand)(k:PV->PO):PO:=match P1 st x with|some v=>k v|none=>.bad
def Vh(x:Operand):KL:=fun _ st=>ov st (P1 st x)
def cR(c a b:Operand):KL:=fun _ st=>v1 st c fun c=>v1 st a fun a=>v1 st b fun b=>dV c a b st
def pJ(T:BU)(t:TypeId):Bool:=
 match T.und t with
 |some (.struct fs)=>match fs[0]? with
  |some f=>match T.und f.type with
   |some (.pointer u)=>zc u t
   |_=>false
  |none=>false
 |_=>false
def Q5(t:TypeId):KL:=fun T st=>match tV T t with
 |some (s,n)=>.val (.ptr st.nx 0) (st.push (.arr false t s (zi n s.HA)))
 |none=>match aN T t with|some cs=>.val (.ptr st.nx 0) (st.push (bif pJ T t then .tbox t cs else .box cs))|none=>.bad
def qS(_:TypeId)(x:Operand):KL:=fun _ st=>v1 st x fun v=>match vB st v with|some cs=>bif KU (Js st) cs then .val (.ptr st.nx 0) (st.push (.box cs))else .bad|none=>.bad
def XB(t:TypeId)(ps:Array (Nat×Operand)):KL:=fun T st=>match Y6 st ps.toList with|some l=>ov st (VW T st t l)|none=>.bad
def SW(t:TypeId)(n:Nat)(ps:Array (Nat×Operand)):KL:=fun T st=>match Y6 st ps.toList with|some l=>RK T t n l st|none=>.bad
def bM(t:TypeId)(x:Operand):KL:=fun T st=>v1 st x fun a=>Mn T st t a
def X5(t:TypeId)(x y:Operand):KL:=fun T st=>v1 st x fun a=>v1 st y fun b=>VI T st t a b
def OG(x:Operand):KL:=fun _ st=>v1 st x fun a=>match a with| .ptr id _| .eptr id _ _ _=>bif HQ (st.obj id)then .val a st else .bad| .FN .. =>.val a st|_=>.bad
def qP(T:BU)(op:BinOp)(t:TypeId)(x y:Operand)(a b:PV):Option Bool:=
 match op,a,b,T.und t with
 | .eql,.nili,.nili,some (.interface _)=>bif Xx x||Xx y then some true else none
 | .neq,.nili,.nili,some (.interface _)=>bif Xx x||Xx y then some false else none
 |_,_,_,_=>none
def qH(op:BinOp)(t:TypeId)(x y:Operand)(_:TypeId):KL:=fun T st=>v1 st x fun a=>v1 st y fun b=>match qP T op t x y a b with|some r=>.val (.bl r) st|none=>qX T op t a b st
def xS(op:UnOp)(_:TypeId)(x:Operand):KL:=fun _ st=>v1 st x fun a=>zG op a st
def cZ(s d:TypeId)(x:Operand):KL:=fun T st=>v1 st x fun a=>iJ T s d a st
def gV(f:Fn)(a b:Array Operand):KL:=fun _ st=>match LM st a.toList,LM st b.toList with|some x,some y=>.val (.fn f x y) st|_,_=>.bad
def aU(t:TypeId)(l c:Operand):KL:=fun T st=>v1 st l fun a=>v1 st c fun b=>dM T t a b st
def o1(st:AJ)(x:Option Operand)(k:Option PV->PO):PO:=match x with|none=>k none|some y=>v1 st y fun v=>k (some v)
def Yd(t:TypeId)(x:Operand)(a b c:Option Operand):KL:=fun T st=>v1 st x fun v=>o1 st a fun l=>o1 st b fun h=>o1 st c fun m=>bK T t v l h m st
def W8(t:TypeId)(x:Operand)(f:Nat):KL:=fun T st=>v1 st x fun a=>U0 T t a f st
def WU(t:TypeId)(x:Operand)(f:Nat):KL:=fun T st=>v1 st x fun a=>Vp T t a f st
def Wz(t:TypeId)(x i:Operand):KL:=fun T st=>v1 st x fun a=>v1 st i fun b=>iN T t a b st
def Ye(t:TypeId)(x i:Operand):KL:=fun T st=>v1 st x fun a=>v1 st i fun b=>VB T t a b st
def Q0(x:Operand)(i:Nat):KL:=fun _ st=>v1 st x fun a=>Oe a i st
def RF(c:Call):KL:=fun T st=>
 match LM st c.args.toList with
 |none=>.bad
 |some args=>match c.callee with
  | .builtin b=>match b with
   | .delete=>Q8 T c.argTypes args st
   |_=>Iz T b c.argTypes args st
  |_=>.bad
def Ym(t:TypeId)(r:Option Operand):KL:=fun T st=>match r with|none=>Wf T t st|some _=>.bad
def Uf(t:TypeId)(x i:Operand)(ok:Bool):KL:=fun T st=>v1 st x fun a=>v1 st i fun b=>RD T t a b ok st
def O6(t:TypeId)(m k x:Operand):KL:=fun T st=>v1 st m fun a=>v1 st k fun b=>v1 st x fun c=>Rp T t a b c st
def Xf(t:TypeId)(x:Operand):KL:=fun T st=>v1 st x fun a=>Vi T t a st
def dE(x:Operand)(isStr:Bool):KL:=fun _ st=>v1 st x fun a=>iH a isStr st
def Jo:KL:=fun _ _=>.bad
def pop(o:Op):KL:=@Op.casesOn (fun _=>KL) o Vh Vh cR Q5 qS XB SW O6 bM X5 (fun _=>Jo) (fun _=>Jo) OG qH xS cZ
 (fun _ _=>Jo) (fun _ _=>Jo) gV Ym (fun _ _=>Jo) aU Yd W8 WU Wz Ye Uf O6 (fun _ _ _=>Jo) (fun _ _ _ _=>Jo)
 Xf dE (fun _=>Jo) (fun _ _ _ _=>Jo) Q0 RF (fun _=>Jo) (fun _=>Jo) (fun _=>Jo) (fun _ _=>Jo) (fun _ _ _=>Jo) (fun _ _=>Jo)
theorem Nb(k:IntKind)(a b:Int):Wv (.int k) a b=decide (a=b):=by
 show(a==b)=_;by_cases h:a=b<;>simp[h]
theorem GB{v:Sh}{q:IntKind}(x k:Int)(b:v.T):∀m:List (Int×v.T),DO (.int q) v x (Km (.int q) v k b m)=if x=k then some b else DO (.int q) v x m
 |[]=>by
  show(bif Wv (.int q) x k then some b else none)=_;rw[Nb];by_cases h:x=k<;>simp[h,DO]
 |(a,c)::m=>by
  show DO (.int q) v x (bif Wv (.int q) k a then(k,b)::m else(a,c)::Km (.int q) v k b m)=_;rw[Nb];by_cases h:k=a
  ·subst h;simp only[decide_true,we];show(bif Wv (.int q) x k then some b else DO (.int q) v x m)=if x=k then some b else(bif Wv (.int q) x k then some c else DO (.int q) v x m)
   rw[Nb];by_cases h2:x=k<;>simp[h2]
  ·simp only[h,decide_false,wg];show(bif Wv (.int q) x a then some c else DO (.int q) v x (Km (.int q) v k b m))=if x=k then some b else(bif Wv (.int q) x a then some c else DO (.int q) v x m)
   rw[Nb,GB x k b m];by_cases h2:x=a
   ·subst h2;simp[Ne.symm h]
   ·simp[h2]
end Go.Pe
namespace Go.Det
section
abbrev Uw:=FuncId->Option (List V->H->Option (V×H))
def Jn(P:Program)(s:Uw):Prop:=∀f q,s f=some q->∀(p:Pl) (h:H) (w:World) (args:List V) (args':Array Value) v h',R p h w->Gp p->Aq p args args'.toList->q args h=some (v,h')->
 Calls P f args' w fun e w'=>∃v' p',e=.returned v'/\Ac p' v v'/\Ext p h w p' h' w'
def lM(a b:Uw):Uw:=fun f=>match a f with
 |some q=>some q
 |none=>b f
variable {P:Program}
theorem JO{a b:Uw}(ha:Jn P a)(hb:Jn P b):Jn P (lM a b):=by
 intro f q hq;unfold lM at hq;cases h:a f with
 |some q'=>rw[h]at hq;cases hq;exact ha f _ h
 |none=>rw[h]at hq;exact hb f q hq
def Xu(C:Ctx)(s:Uw):Ctx:={ C with spec:=s }
theorem Ue{C:Ctx}(hC:C.Ok P){s:Uw}(h:Jn P s):(Xu C s).Ok P where
 T:=hC.T
 fn:=hC.fn
 prim:=hC.prim
 spec:=h
theorem Mj{C:Ctx}(hce:Gf C)(s:Uw):Gf (Xu C s):=hce
theorem Ru{C:Ctx}(hC:C.Ok P)(hce:Gf C)(hm:P.follows .mixedOrders=true){n:Nat}{L:G0}(h:BW C n L=true):Jn P (Gv L):=oX (C':=C) hC hce hm h
theorem CN{C:Ctx}{n:Nat}:∀ {a b:G0},BW C n a=true->BW C n b=true->BW C n (a++b)=true
 |[],b,_,h=>h
 |(f,x,v)::a,b,h,k=>by
  simp only[BW,List.cons_append,Bool.and_eq_true]at h ⊢;exact⟨h.1,CN h.2 k⟩
def Re(C:Ctx)(n:Nat)(L:G0):Uw:=fun f=>match Gv L f with
 |none=>none
 |some q=>some fun args h=>match q args h with
  |some x=>some x
  |none=>match Bf C n (.fn f args) h with
   |some [x]=>some x
   |_=>none
theorem Yu{C:Ctx}(hC:C.Ok P)(hce:Gf C)(hm:P.follows .mixedOrders=true){n k:Nat}{L:G0}(ha:BW C k L=true):Jn P (Re C n L):=by
 intro f q hq p h w args args' v h' hr hg hargs hqr;unfold Re at hq;cases hL:Gv L f with
 |none=>rw[hL]at hq;cases hq
 |some q0=>
  rw[hL]at hq;cases hq;simp only at hqr;split at hqr
  case h_1=>rename_i x hx;cases hqr;exact Ru hC hce hm ha f q0 hL p h w args args' v h' hr hg hargs hx
  case h_2=>
   split at hqr
   case h_2=>cases hqr
   rename_i x he;cases hqr;refine((IC hC hce hm n).fn f args h _ he p w args' hr hg hargs).mono ?_;rintro e w' ⟨v1,h1,v',p',hmem,rfl,k1,k2⟩;cases List.mem_singleton.1 hmem;exact⟨v',p',rfl,k1,k2⟩
theorem GO{p:Pl}{h:H}{w w':World}(hr:R p h w)(hb:Go.RowKit.Below w.heap.size w w'):Ext p h w p h w':=by
 obtain⟨h1,h2,h3,h4,h5⟩:=hb;refine⟨⟨[],by simp⟩,⟨hr.len,fun b o hb=>?_,hr.inj⟩,h4,fun r hlt _=>h5 r hlt,fun r hi=>.inl hi,h1,h3,h2,fun r hlt hl=>⟨h5 r hlt,.inl hl⟩⟩;obtain⟨r,m,y,g1,g2,g3⟩:=hr.obj b o hb;exact⟨r,m,y,g1,by rw[h5 r (Array.getElem?_eq_some_iff.1 g2).1];exact g2,g3⟩
end
end Go.Det
