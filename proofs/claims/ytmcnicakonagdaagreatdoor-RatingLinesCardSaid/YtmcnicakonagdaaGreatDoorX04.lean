import Derived.Test.YtmcnicakonagdaaGreatDoorX03
import Derived.Below
/- A part of a proof (no law is stated here). Made by program out of texts by AI agents. -/
noncomputable section
open Nat renaming beq -> zc, add -> ze, blt -> zg, ble -> zj, mul -> zk
open Int renaming toNat -> zd
open BitVec renaming ofInt -> zf
open Go.Op renaming bytesLess -> zh
open List renaming replicate -> zi
namespace Go.Det
section
def OW(P:Program):Nat->Nat->Bool
 |0,_=>true
 |n+1,a=>(match Qa P (fun _=>true) a with|some i=>Dv i.body|none=>true)&&OW P n (a+1)
variable {P:Program}
theorem QO{ct:FuncId->Bool}{f:FuncId}{i:Fn}(hi:Qa P ct f=some i):Qa P (fun _=>true) f=some { i with cert:=true }/\i.cert=ct f:=by
 unfold Qa at hi ⊢;cases hf:P.funcs[f]? with
 |none=>rw[hf]at hi;cases hi
 |some fn=>
  rw[hf]at hi;simp only at hi ⊢;cases hb:fn.body with
  |none=>rw[hb]at hi;cases hi
  |some b=>
   rw[hb]at hi;simp only at hi ⊢;split at hi
   ·cases hi
   ·rename_i hn;rw[wc hn];cases hi;exact⟨rfl,rfl⟩
theorem IB{f:Nat}{i:Fn}{ct:FuncId->Bool}(hi:Qa P ct f=some i):∀ {n a:Nat},OW P n a=true->a<=f->f<a+n->Dv i.body=true
 |0,a,_,h1,h2=>by omega
 |n+1,a,h,h1,h2=>by
  simp only[OW,Bool.and_eq_true]at h;by_cases e:a=f
  ·subst e;rw[(QO hi).1]at h;exact h.1
  ·exact IB hi h.2 (by omega) (by omega)
def mkC(P:Program)(N:Nat)(L:List (FuncId×PK)):Ctx:=⟨sA P,0,Qa P (fun f=>zg f N),Sv L,fun _=>none,true⟩
theorem Zp{N:Nat}{L:List (FuncId×PK)}(h:∀f i,f<N->Qa P (fun f=>zg f N) f=some i->Dv i.body=true):Gi (mkC P N L):=by
 intro f i hi hc;have hi:Qa P (fun f=>zg f N) f=some i:=hi;rw[(QO hi).2]at hc;exact h f i (Nat.le_of_ble_eq_true hc) hi
theorem vW{N:Nat}{L:List (FuncId×PK)}(hL:∀x∈L,JK P x):(mkC P N L).Ok P where
 T:=sR P
 fn:=fun _ _ h=>mR (P:=P) (ct:=fun f=>zg f N) h
 prim:=fun f q hq p h w args args' v h' hr _ ha hd=>WE hL f q hq p h w args args' v h' hr ha hd
 spec:=fun f q hq=>by cases hq
end
end Go.Det
namespace Go.Pe
open Go.Det
inductive Sh where
 |int (k:IntKind)
 |bool
 |str
 |list (s:Sh)
 |pair (a b:Sh)
 |unit
 |nlist (s:Sh)
 |fnv
 |ptr (s:Sh)
 deriving DecidableEq
@[reducible] def Sh.T:Sh->Type
 | .int _=>Int
 | .bool=>Bool
 | .str=>List UInt8
 | .list s=>List s.T
 | .pair a b=>a.T×b.T
 | .unit=>Unit
 | .nlist s=>List s.T
 | .fnv=>Option Fn
 | .ptr s=>s.T
def Sh.GN:(s:Sh)->s.T
 | .int _=>(0:Int)
 | .bool=>false
 | .str=>([]:List UInt8)
 | .list _=>[]
 | .pair a b=>(a.GN,b.GN)
 | .unit=>()
 | .nlist _=>[]
 | .fnv=>none
 | .ptr s=>s.GN
def Sh.sz:Sh->Nat
 | .pair a b=>ze a.sz b.sz
 | .unit=>0
 |_=>1
inductive PV where
 |any
 |bl (b:Bool)
 |ub
 |dat (s:Sh) (x:s.T)
 |nil|nilp|nilm|nilf|nili
 |agg (l:List PV)
 |tup (l:List PV)
 |ptr (id off:Nat)
 |eptr (id sz i off:Nat)
 |CO (s:Sh) (x:s.T) (off:Nat)
 |sl (id sz off len:Nat) (cap:Option Nat)
 |mp (id:Nat)
 |fn (f:Fn) (first captured:List PV)
 |yl (id:Nat)
inductive LpS where
 |ready|busy|ret
 |exit (i:Nat)
inductive Obj where
 |arr (fz:Bool) (e:TypeId) (s:Sh) (l:List s.T)
 |box (cs:List PV)
 |tbox (t:TypeId) (cs:List PV)
 |map (ks vs:Sh) (l:List (ks.T×vs.T))
 |siter (s:List UInt8) (pos:Nat)
 |lp (f:FuncId) (r:Nat) (ps:Array Tmp) (asg body:Code) (s:LpS) (n:Nat) (sl:List (Nat×PV))
abbrev Ob:=List (Nat×Obj)
def AP:Ob->Nat->Option Obj
 |[],_=>none
 |(i,o)::l,j=>bif zc i j then some o else AP l j
def Dt:Ob->Nat->Obj->Ob
 |[],_,_=>[]
 |(i,o)::l,j,x=>bif zc i j then(i,x)::l else(i,o)::Dt l j x
def FQ:Ob->Nat->Ob
 |[],_=>[]
 |(i,o)::l,j=>bif zc i j then FQ l j else(i,o)::FQ l j
structure AJ where
 n:Nat
 fr:PM PV
 ob:Ob
 nx:Nat
def AJ.get(st:AJ)(t:Nat):PV:=(st.fr.get t).getD .any
def AJ.obj(st:AJ)(id:Nat):Option Obj:=AP st.ob id
def AJ.set(st:AJ)(t:Nat)(v:PV):AJ:=⟨st.n,st.fr.set t (some v),st.ob,st.nx⟩
def AJ.setObj(st:AJ)(id:Nat)(o:Obj):AJ:=⟨st.n,st.fr,Dt st.ob id o,st.nx⟩
def AJ.N9(st:AJ)(id:Nat):AJ:=⟨st.n,st.fr,FQ st.ob id,st.nx⟩
def AJ.push(st:AJ)(o:Obj):AJ:=⟨st.n,st.fr,(st.nx,o)::st.ob,ze st.nx 1⟩
def AJ.put(st:AJ)(d:Option Nat)(v:PV):Option AJ:=
 match d with
 |none=>some st
 |some t=>bif zg t st.n then some (st.set t v)else none
def E2(vs:List (Nat×PV)):PM PV:=vs.foldl (fun m x=>m.set x.1 (some x.2)) .leaf
def flat:(s:Sh)->s.T->List PV
 | .pair a b,(x,y)=>flat a x++flat b y
 | .unit,_=>[]
 | .fnv,x=>[match (x:Option Fn)with|some f=>.fn f [] []|none=>.nilf]
 | .ptr s,x=>[.CO s x 0]
 |s,x=>[.dat s x]
def DS(s s':Sh)(x:s.T):Option s'.T:=if h:s=s' then some (h▸x)else none
def asP(s':Sh)(x:s'.T):(s:Sh)->Option s.T
 | .ptr s=>DS s' s x
 |_=>none
def sG(s:Sh)(v:PV):Option s.T:=
 match v with
 | .CO s' x 0=>asP s' x s
 | .dat s' x=>DS s' s x
 | .bl b=>DS .bool s b
 | .fn f [] []=>DS .fnv s (some f)
 | .nilf=>DS .fnv s none
 | .nil=>match s with
  | .list _=>some []
  | .nlist _=>some []
  |_=>none
 |_=>none
def Cp:(s:Sh)->List PV->Option (s.T×List PV)
 | .pair a b,l=>match Cp a l with
  |some (x,l1)=>match Cp b l1 with
   |some (y,l2)=>some ((x,y),l2)
   |none=>none
  |none=>none
 | .unit,l=>some ((),l)
 |s,v::l=>match sG s v with
  |some x=>some (x,l)
  |none=>none
 |_,[]=>none
def DH(s:Sh)(l:List PV):Option s.T:=
 match Cp s l with
 |some (x,[])=>some x
 |_=>none
def PV.cells:PV->List PV
 | .agg cs=>cs
 |v=>[v]
def Yh(ty:TypeId->Option Sh):List Field->Option Sh
 |[]=>none
 |[x]=>ty x.type
 |x::xs=>match ty x.type,Yh ty xs with
  |some a,some b=>some (.pair a b)
  |_,_=>none
def nlf:Option Sh->Option Sh
 |some (.list (.int .u64))=>some (.nlist (.int .u64))
 |s=>s
def lz:PV->PV
 | .dat (.nlist s) x=>.dat (.list s) x
 |v=>v
def Sh.leaves:Sh->List Sh
 | .pair a b=>a.leaves++b.leaves
 | .unit=>[]
 |s=>[s]
def Tm:Sh->PV->Bool×PV
 | .nlist s,.dat (.list s') x=>bif s==s' then(decide (0<x.length),.dat (.nlist s') x)else(true,.dat (.list s') x)
 | .list s,.dat (.nlist s') x=>bif s==s' then(true,.dat (.list s') x)else(true,.dat (.nlist s') x)
 |_,v=>(true,v)
def Lf:List Sh->List PV->Bool×List PV
 |s::l,v::vs=>((Tm s v).1&&(Lf l vs).1,(Tm s v).2::(Lf l vs).2)
 |_,vs=>(true,vs)
def Wm(T:BW):Nat->TypeId->Option Sh
 |0,_=>none
 |f+1,t=>match T.und t with
  |some (.int k)=>some (.int k)
  |some .bool=>some .bool
  |some .string=>some .str
  |some (.slice e)=>(Wm T f e).map .list
  |some (.func _ _ _)=>some .fnv
  |some (.struct fs)=>Yh (fun x=>nlf (Wm T f x)) fs.toList
  |_=>none
def Sh.mX:Sh->Bool
 | .pair a b=>a.mX||b.mX
 | .fnv=>true
 |_=>false
def B5:(s:Sh)->s.T->PV
 | .pair a b,x=>.agg (flat (.pair a b) x)
 | .unit,_=>.agg []
 | .fnv,x=>match (x:Option Fn)with|some f=>.fn f [] []|none=>.nilf
 | .ptr s,x=>.CO s x 0
 |s,x=>.dat s x
def Sh.P6:Sh->Bool
 | .pair _ _| .unit=>true
 |_=>false
def rX:(s:Sh)->s.T->s.T->Bool
 | .int _,a,b=>(a:Int)==b
 | .bool,a,b=>(a:Bool)==b
 | .str,a,b=>(a:List UInt8)==b
 |_,_,_=>false
def Kq(s v:Sh)(k:s.T):List (s.T×v.T)->Option v.T
 |[]=>none
 |(a,b)::l=>bif rX s k a then some b else Kq s v k l
def Ri(s v:Sh)(k:s.T)(x:v.T):List (s.T×v.T)->List (s.T×v.T)
 |[]=>[(k,x)]
 |(a,b)::l=>bif rX s k a then(k,x)::l else(a,b)::Ri s v k x l
def Ru(s v:Sh)(k:s.T):List (s.T×v.T)->List (s.T×v.T)
 |[]=>[]
 |(a,b)::l=>bif rX s k a then l else(a,b)::Ru s v k l
inductive Tr where
 |fail
 |leaf (v:PV) (ob:Ob)
 |ite (c:Bool) (a b:Tr)
 |both (a b:Tr)
 |cut (nd ro:Bool) (d:Nat) (f:FuncId) (base:Nat) (b:Code) (st:AJ) (k:DX->AJ->Tr)
 |alts (m:Nat) (f:Nat->Tr)
 |loop (nd ro:Bool) (d:Nat) (f:FuncId) (base:Nat) (b:Code) (st:AJ) (k:DX->AJ->Tr)
inductive PO where
 |bad
 |val (v:PV) (st:AJ)
 |ite (c:Bool) (a b:PO)
def PO.HS(c:Bool)(v:PV)(st:AJ):PO:=.ite c (.val v st) .bad
mutual
def M6:Value->Option PV
 | .bool b=>some (.bl b)
 | .int k n=>some (.dat (.int k) n)
 | .string s=>some (.dat .str s.data.toList)
 | .pointer none=>some .nilp
 | .slice none 0 0=>some .nil
 | .map none=>some .nilm
 | .nilFunc=>some .nilf
 | .nilIface=>some .nili
 | .func f ⟨[]⟩ ⟨[]⟩=>some (.fn f [] [])
 | .agg ⟨cs⟩=>(ZT cs).map .agg
 | .tuple ⟨cs⟩=>(ZT cs).map .tup
 |_=>none
def ZT:List Value->Option (List PV)
 |[]=>some []
 |v::vs=>match M6 v,ZT vs with
  |some x,some xs=>some (x::xs)
  |_,_=>none
end
def Vg:V->PV
 | .bool b=>.bl b
 | .int k n=>.dat (.int k) n
 | .str s=>.dat .str s
 | .nilp=>.nilp
 | .nils=>.nil
 | .nilm=>.nilm
 | .nilf=>.nilf
 | .nili=>.nili
 |_=>.any
def Qg(st:AJ):Operand->Option PV
 | .tmp t=>some (st.get t)
 | .const v=>M6 v
 | .global _=>none
 | .func f=>some (.fn (.func f) [] [])
def Ma(st:AJ):List Operand->Option (List PV)
 |[]=>some []
 |x::xs=>match Qg st x,Ma st xs with
  |some v,some vs=>some (v::vs)
  |_,_=>none
def ZB(st:AJ):List (Nat×Operand)->Option (List (Nat×PV))
 |[]=>some []
 |(i,x)::xs=>match Qg st x,ZB st xs with
  |some v,some vs=>some ((i,v)::vs)
  |_,_=>none
def aU(T:BW)(t:TypeId):Option (List PV):=(T.inf t).bind fun i=>bif KP V.ok i.zero then some (i.zero.map Vg)else none
def pick(d:TypeDesc)(n:Nat)(cs:List PV):Option PV:=
 bif DP d then(bif zj n (El cs)&&zg 0 n then some (.agg (X2 n cs))else none)
 else match cs with
  |v::_=>some v
  |[]=>none
def ov(st:AJ):Option PV->PO
 |some v=>.val v st
 |none=>.bad
def xA(c:Bool)(st:AJ):Option PV->PO
 |some v=>.HS c v st
 |none=>.bad
def chunk(s:Sh):Nat->List PV->Option (List s.T)
 |0,_=>some []
 |n+1,cs=>match Cp s cs with
  |some (x,cs')=>(chunk s n cs').map (x:: ·)
  |none=>none
def NY(s:Sh)(l:List s.T):Nat->Nat->List PV
 |_,0=>[]
 |j,n+1=>flat s (l.getD j s.GN)++NY s l (ze j 1) n
def zsh:List V->Option Sh
 | .bool _::_=>some .bool
 | .int k _::_=>some (.int k)
 |_=>none
def wS:Sh->V->Bool
 | .bool,.bool b=> !b
 | .int k,.int k' n=>decide (k=k')&&decide (n=0)
 |_,_=>false
def wO(T:BW)(t:TypeId):Option (Sh×Nat):=
 match T.und t,T.inf t with
 |some (.array _ _),some i=>match zsh i.zero with
  |some s=>bif zj 32 (El i.zero)&&KP (wS s) i.zero then some (s,El i.zero)else none
  |none=>none
 |_,_=>none
def MK(T:BW)(st:AJ)(t:TypeId)(a:PV):PO:=
 match T.und t,T.inf t with
 |some d,some i=>match a with
  | .ptr id off=>match st.obj id with
   |some (.box cs)=>ov st (pick d i.size (Jw off cs))
   |some (.arr _ _ s l)=>bif zc off 0&&zc s.sz 1 then xA (decide (l.length=i.size)) st (pick d i.size (NY s l 0 i.size))else .bad
   |some (.tbox _ cs)=>ov st (pick d i.size (Jw off cs))
   |_=>.bad
  | .eptr id sz j off=>match st.obj id with
   |some (.arr _ _ s l)=>bif zc sz s.sz then xA (decide (j<l.length)) st (pick d i.size (Jw off (flat s (l.getD j s.GN))))else .bad
   |_=>.bad
  | .CO s x off=>ov st (pick d i.size (Jw off (flat s x)))
  |_=>.bad
 |_,_=>.bad
def HR:Option Obj->Bool
 |some _=>true
 |none=>false
def Jq(st:AJ):PV->Bool
 | .agg _| .tup _| .any| .ub=>false
 | .ptr id _| .eptr id _ _ _| .sl id _ _ _ _| .mp id| .yl id=>HR (st.obj id)
 |_=>true
def wV(st:AJ):PV->Option (List PV)
 | .agg l=>some l
 |p=>bif Jq st p then some [p]else none
def VA(T:BW)(st:AJ)(t:TypeId)(a x:PV):PO:=
 match T.inf t,wV st x with
 |some i,some xs=>bif zc (El xs) i.size&&KP (Jq st) xs then
   match a with
   | .ptr id off=>match st.obj id with
    |some (.box cs)=>bif zj (ze off i.size) (El cs)then .val (.tup []) (st.setObj id (.box (Cq off xs cs)))else .bad
    |some (.arr false e s l)=>bif zc off 0&&zc s.sz 1 then
      match chunk s i.size xs with
      |some y=>.HS (decide (l.length=i.size)) (.tup []) (st.setObj id (.arr false e s y))
      |none=>.bad
     else .bad
    |some (.tbox tb cs)=>bif zj (ze off i.size) (El cs)then .val (.tup []) (st.setObj id (.tbox tb (Cq off xs cs)))else .bad
    |_=>.bad
   | .eptr id sz j off=>match st.obj id with
    |some (.arr false e s l)=>bif zc sz s.sz&&zj (ze off i.size) sz then
      match DH s (Cq off xs (flat s (l.getD j s.GN)))with
      |some y=>.HS (decide (j<l.length)) (.tup []) (st.setObj id (.arr false e s (l.set j y)))
      |none=>.bad
     else .bad
    |_=>.bad
   |_=>.bad
  else .bad
 |_,_=>.bad
def Hk(k:IntKind)(a b:Int):Int:=k.wrap (zf k.bits a&&&zf k.bits b).toNat
def YB(k:IntKind)(a b:Int):Int:=k.wrap (zf k.bits a|||zf k.bits b).toNat
def AaQ(k:IntKind)(a b:Int):Int:=k.wrap (zf k.bits a^^^zf k.bits b).toNat
def zH(k:IntKind)(a b:Int):Int:=k.wrap (zf k.bits a&&& ~~~zf k.bits b).toNat
def tU(op:BinOp)(k:IntKind)(a b:Int)(st:AJ):PO:=
 match op with
 | .add=>.val (.dat (.int k) (k.wrap (a+b))) st
 | .sub=>.val (.dat (.int k) (k.wrap (a-b))) st
 | .mul=>.val (.dat (.int k) (k.wrap (a*b))) st
 | .quo=>.HS (decide (b≠0)) (.dat (.int k) (k.wrap (a.tdiv b))) st
 | .rem=>.HS (decide (b≠0)) (.dat (.int k) (a.tmod b)) st
 | .and=>.val (.dat (.int k) (Hk k a b)) st
 | .or=>.val (.dat (.int k) (YB k a b)) st
 | .xor=>.val (.dat (.int k) (AaQ k a b)) st
 | .andNot=>.val (.dat (.int k) (zH k a b)) st
 | .eql=>.val (.dat .bool (a==b)) st
 | .neq=>.val (.dat .bool (a !=b)) st
 | .lss=>.val (.dat .bool (decide (a<b))) st
 | .leq=>.val (.dat .bool (decide (a<=b))) st
 | .gtr=>.val (.dat .bool (decide (a>b))) st
 | .geq=>.val (.dat .bool (decide (a>=b))) st
 |_=>.bad
def psh(op:BinOp)(k:IntKind)(a b:Int)(st:AJ):PO:=
 match op with
 | .shl=>.HS (decide (0<=b)) (.dat (.int k) (k.wrap (a*2^(min b.toNat k.bits)))) st
 | .shr=>.HS (decide (0<=b)) (.dat (.int k) (a.fdiv (2^(min b.toNat k.bits)))) st
 |_=>.bad
def vF(op:BinOp)(x y:List UInt8)(st:AJ):PO:=
 match op with
 | .add=>.HS (decide (x.length+y.length<=4611686018427387904)) (.dat .str (x++y)) st
 | .eql=>.val (.dat .bool (x==y)) st
 | .neq=>.val (.dat .bool (!(x==y))) st
 | .lss=>.val (.dat .bool (zh x y)) st
 | .leq=>.val (.dat .bool (zh x y||x==y)) st
 | .gtr=>.val (.dat .bool (!(zh x y||x==y))) st
 | .geq=>.val (.dat .bool (!zh x y)) st
 |_=>.bad
def mY:BinOp->Bool
 | .shl| .shr=>true
 |_=>false
def Je:PV->Option Bool
 | .bl b=>some b
 | .dat .bool b=>some b
 |_=>none
def GL:List FK->List PV->List PV->Option Bool
 |[],[],[]=>some true
 | .int k::ks,.dat (.int k1) a::xs,.dat (.int k2) b::ys=>bif k==k1&&k==k2 then(GL ks xs ys).map fun r=>(a:Int)==(b:Int)&&r else none
 | .str::ks,.dat .str a::xs,.dat .str b::ys=>(GL ks xs ys).map fun r=>(a:List UInt8)==(b:List UInt8)&&r
 | .bool::ks,a::xs,b::ys=>match Je a,Je b with
  |some a,some b=>(GL ks xs ys).map fun r=>a==b&&r
  |_,_=>none
 |_,_,_=>none
def RK(st:AJ)(ng:Bool)(x:PV):PO:=
 match x with
 | .nil=>.val (.bl (!ng)) st
 | .sl id _ _ _ _=>bif HR (st.obj id)then .val (.bl ng) st else .bad
 | .dat (.list _) l=>.ite (decide (0<l.length)) (.val (.bl ng) st) (.val .ub st)
 | .dat (.nlist _) l=>.val (.dat .bool (bif ng then decide (0<l.length)else !decide (0<l.length))) st
 |_=>.bad
def dU(op:BinOp)(x y:PV)(st:AJ):PO:=
 match op,x,y with
 | .eql,x,.nil=>RK st false x
 | .neq,x,.nil=>RK st true x
 |_,_,_=>.bad
def ptrEq(T:BW)(e:TypeId)(st:AJ)(x y:PV):Option Bool:=
 match x,y with
 | .nilp,.nilp=>some true
 | .ptr id _,.nilp=>bif HR (st.obj id)then some false else none
 | .nilp,.ptr id _=>bif HR (st.obj id)then some false else none
 | .ptr a i,.ptr b j=>bif zc a b&&HR (st.obj a)then match T.inf e with
   |some ti=>bif zg 0 ti.size then some (zc i j)else none
   |none=>none
  else none
 |_,_=>none
def uX(T:BW)(op:BinOp)(t:TypeId)(x y:PV)(st:AJ):PO:=
 match x,y with
 | .dat (.int k) a,.dat (.int k') b=>bif mY op then psh op k a b st else(bif k==k' then tU op k a b st else .bad)
 | .dat .str a,.dat .str b=>vF op a b st
 | .agg xs,.agg ys=>match T.flat t with
  |some ks=>match op,GL ks xs ys with
   | .eql,some r=>.val (.dat .bool r) st
   | .neq,some r=>.val (.dat .bool (!r)) st
   |_,_=>.bad
  |none=>.bad
 |x,y=>match Je x,Je y,T.und t with
  |some a,some b,some .bool=>match op with
   | .eql=>.val (.dat .bool (a==b)) st
   | .neq=>.val (.dat .bool (!(a==b))) st
   |_=>.bad
  |_,_,some (.slice _)=>dU op x y st
  |_,_,some (.pointer e)=>match op,ptrEq T e st x y with
   | .eql,some r=>.val (.bl r) st
   | .neq,some r=>.val (.bl (!r)) st
   |_,_=>.bad
  |_,_,_=>.bad
def pun(op:UnOp)(x:PV)(st:AJ):PO:=
 match op,x with
 | .neg,.dat (.int k) n=>.val (.dat (.int k) (k.wrap (0-(n:Int)))) st
 | .not,.bl b=>.val (.bl (!b)) st
 | .not,.ub=>.val .ub st
 | .not,.dat .bool b=>.val (.dat .bool (!b)) st
 |_,_=>.bad
def iG(T:BW)(s d:TypeId)(x:PV)(st:AJ):PO:=
 match T.und s,T.und d,x with
 |some _,some (.int k),.dat (.int _) n=>.val (.dat (.int k) (k.wrap n)) st
 |some .string,some .string,.dat .str s=>.val (.dat .str s) st
 |_,_,_=>.bad
def aF(c a b:PV)(st:AJ):PO:=
 match c with
 | .bl t=>.val (bif t then a else b) st
 | .dat .bool t=>match a,b with
  | .dat .bool x,.bl false=>.val (.dat .bool (t&&x)) st
  | .bl true,.dat .bool x=>.val (.dat .bool (t||x)) st
  |_,_=>.ite t (.val a st) (.val b st)
 |_=>.bad
def Vr(T:BW)(t:TypeId)(x:PV)(f:Nat)(st:AJ):PO:=
 match T.und t,x with
 |some (.struct fs),.agg cs=>match fs[f]? with
  |some fd=>match T.und fd.type,T.inf fd.type with
   |some d,some i=>ov st (pick d i.size (Jw fd.offset cs))
   |_,_=>.bad
  |none=>.bad
 |_,_=>.bad
def VS(T:BW)(t:TypeId)(x:PV)(f:Nat)(st:AJ):PO:=
 match T.und t with
 |some (.struct fs)=>match fs[f]? with
  |some fd=>match T.inf fd.type with
   |some i=>bif zc i.size 0 then .bad else match x with
    | .ptr id off=>bif HR (st.obj id)then .val (.ptr id (ze off fd.offset)) st else .bad
    | .eptr id sz j off=>bif HR (st.obj id)then .val (.eptr id sz j (ze off fd.offset)) st else .bad
    | .CO s y off=>.val (.CO s y (ze off fd.offset)) st
    |_=>.bad
   |none=>.bad
  |none=>.bad
 |_=>.bad
def SN(T:BW)(t:TypeId)(x ix:PV)(st:AJ):PO:=
 match T.und t,ix with
 |some (.slice e),.dat (.int _) i=>match T.inf e with
  |some ti=>match x with
   | .dat (.list s) l=>bif zc ti.size s.sz then .HS (decide (0<=(i:Int))&&decide ((i:Int)<(l.length:Int))) (.CO s (l.getD (zd i) s.GN) 0) st else .bad
   | .sl id sz off len _=>bif zc ti.size sz&&HR (st.obj id)then .HS (decide (0<=(i:Int))&&decide ((i:Int)<(len:Int))) (.eptr id sz (ze (zd i) off) 0) st else .bad
   |_=>.bad
  |none=>.bad
 |some (.array len e),.dat (.int _) i=>match T.inf e with
  |some ti=>match x with
   | .ptr id off=>match st.obj id with
    |some (.arr _ _ s _)=>bif zc off 0&&zc ti.size s.sz then .HS (decide (0<=(i:Int))&&decide ((i:Int)<(len:Int))) (.eptr id s.sz (zd i) 0) st else .bad
    |some _=>.HS (decide (0<=(i:Int))&&decide ((i:Int)<(len:Int))) (.ptr id (ze off (zk (zd i) ti.size))) st
    |none=>.bad
   | .eptr id sz j off=>bif HR (st.obj id)then .HS (decide (0<=(i:Int))&&decide ((i:Int)<(len:Int))) (.eptr id sz j (ze off (zk (zd i) ti.size))) st else .bad
   | .CO s y off=>.HS (decide (0<=(i:Int))&&decide ((i:Int)<(len:Int))) (.CO s y (ze off (zk (zd i) ti.size))) st
   |_=>.bad
  |none=>.bad
 |_,_=>.bad
def bY(T:BW)(t:TypeId)(x ix:PV)(st:AJ):PO:=SN T t (lz x) ix st
def Wp(T:BW)(t:TypeId)(x ix:PV)(st:AJ):PO:=
 match T.und t,x,ix with
 |some .string,.dat .str s,.dat (.int _) i=>.HS (decide (0<=(i:Int))&&decide ((i:Int)<((s:List UInt8).length:Int))) (.dat (.int .u8) (((s:List UInt8).getD (zd i) 0).toNat:Int)) st
 |some (.array len e),.agg cs,.dat (.int _) i=>match T.und e,T.inf e with
  |some d,some ti=>xA (decide (0<=(i:Int))&&decide ((i:Int)<(len:Int))) st (pick d ti.size (Jw (zk (zd i) ti.size) cs))
  |_,_=>.bad
 |_,_,_=>.bad
def Pw(x:PV)(i:Nat)(st:AJ):PO:=
 match x with
 | .tup vs=>match vs[i]? with
  |some v=>.val v st
  |none=>.bad
 |_=>.bad
def pb(x:Option PV)(GN:Nat):Option (Bool×Nat):=
 match x with
 |none=>some (true,GN)
 |some (.dat (.int _) n)=>some (decide (0<=(n:Int)),zd n)
 |_=>none
def has(mx:Option PV)(c:Nat):Bool:=match mx with
 |none=>true
 |some _=>decide (0<c)
def SI(T:BW)(t:TypeId)(x:PV)(lo hi mx:Option PV)(st:AJ):PO:=
 match T.und t with
 |some .string=>match x,mx with
  | .dat .str s,none=>match pb lo 0,pb hi (s:List UInt8).length with
   |some (c1,l),some (c2,h)=>.HS (c1&&c2&&decide (l<=h)&&decide (h<=(s:List UInt8).length)) (.dat .str (((s:List UInt8).drop l).take (Nat.sub h l))) st
   |_,_=>.bad
  |_,_=>.bad
 |some (.slice e)=>match T.inf e with
  |some ti=>match x with
   | .dat (.list s) xs=>bif zc ti.size s.sz then
     match pb lo 0,pb hi xs.length,mx with
     |some (c1,l),some (c2,h),none=>.HS (c1&&c2&&decide (l<=h)&&decide (h<=xs.length)) (.dat (.list s) ((xs.drop l).take (Nat.sub h l))) st
     |_,_,_=>.bad
    else .bad
   | .sl id sz off len cap=>bif zc ti.size sz&&HR (st.obj id)then
     match hi,mx with
     |none,some _=>.bad
     |_,_=>match pb lo 0,pb hi len,pb mx (cap.getD len)with
      |some (c1,l),some (c2,h),some (c3,m)=>.HS (c1&&c2&&c3&&decide (l<=h)&&decide (h<=m)&&decide (m<=cap.getD len)&&has mx (cap.getD len)) (.sl id sz (ze off l) (Nat.sub h l) (some (Nat.sub m l))) st
      |_,_,_=>.bad
    else .bad
   | .nil=>match pb lo 0,pb hi 0,mx with
    |some (c1,l),some (c2,h),none=>.HS (c1&&c2&&decide (l<=h)&&decide (h<=0)) .nil st
    |some (c1,l),some (c2,h),some q=>match hi,pb (some q) 0 with
     |some _,some (c3,m)=>.HS (c1&&c2&&c3&&decide (l<=h)&&decide (h<=m)&&decide (m<=0)) .nil st
     |_,_=>.bad
    |_,_,_=>.bad
   |_=>.bad
  |none=>.bad
 |_=>.bad
def fF(T:BW)(t:TypeId)(x:PV)(lo hi mx:Option PV)(st:AJ):PO:=SI T t (lz x) lo hi mx st
def pi64(n:Nat):PV:=.dat (.int .i64) (Int.ofNat n)
def TB(T:BW)(ts:Array TypeId)(args:List PV)(st:AJ):PO:=
 match ts[0]?,args with
 |some t,[x]=>match T.und t,x with
  |some .string,.dat .str s=>.val (pi64 (s:List UInt8).length) st
  |some (.slice _),.dat (.list _) l=>.val (pi64 l.length) st
  |some (.slice _),.sl id _ _ len _=>bif HR (st.obj id)then .val (pi64 len) st else .bad
  |some (.slice _),.nil=>.val (pi64 0) st
  |some (.map _ _),.mp id=>match st.obj id with
   |some (.map _ _ l)=>.val (pi64 l.length) st
   |_=>.bad
  |_,_=>.bad
 |_,_=>.bad
def mF(T:BW)(ts:Array TypeId)(args:List PV)(st:AJ):PO:=TB T ts (args.map lz) st
def zQ(f:Int->Int->Int)(k:IntKind):Int->List PV->Option Int
 |x,[]=>some x
 |x,.dat (.int k') y::ys=>bif k==k' then zQ f k (f x y) ys else none
 |_,_=>none
def Nl(f:Int->Int->Int)(args:List PV)(st:AJ):PO:=
 match args with
 | .dat (.int k) x::ys=>match zQ f k x ys with
  |some z=>.val (.dat (.int k) z) st
  |none=>.bad
 |_=>.bad
def imax(x y:Int):Int:=if y>x then y else x
def Er(x y:Int):Int:=if y<x then y else x
def Nd(st:AJ)(s:Sh)(x:PV):Option (Bool×List s.T):=
 match x with
 | .nil=>some (true,[])
 | .dat (.list s') l=>(DS (.list s') (.list s) l).map fun r=>(true,r)
 | .sl id sz off len _=>match st.obj id with
  |some (.arr _ _ s' l)=>bif zc sz s'.sz then(DS (.list s') (.list s) l).map fun r=>(decide (off+len<=r.length),(r.drop off).take len)else none
  |_=>none
 | .dat .str l=>(DS (.list (.int .u8)) (.list s) (List.map (fun b:UInt8=>(b.toNat:Int)) l)).map fun r=>(true,r)
 |_=>none
def NH(st:AJ)(s:Sh)(x:PV):Option (Bool×List s.T):=Nd st s (lz x)
def wW:Nat:=281474976710656
def RC:TypeDesc->Bool
 | .slice _=>true
 | .string=>true
 |_=>false
def RX(T:BW)(ts:Array TypeId)(args:List PV)(st:AJ):PO:=
 match ts[0]?,ts[1]?,args with
 |some t,some tx,[b,x]=>match T.und t,T.und tx with
  |some (.slice e),some dx=>bif RC dx then match T.inf e,Wm T 9 e with
   |some i,some s=>
    bif zg 0 i.bytes&&zg 0 i.size&&zc i.zero.length i.size&&zc i.size s.sz then
     match NH st s x with
     |some (c,new)=>match b with
      | .nil=>match x with
       | .nil=>.val .nil st
       | .dat _ _=>.ite (decide (0<new.length)) (.HS (c&&decide ((2*new.length+1000)*i.bytes<=wW)) (.sl st.nx s.sz 0 new.length none) (st.push (.arr false e s new))) (.val .nil st)
       | .sl _ _ _ _ (some _)=>.ite (decide (0<new.length)) (.HS (c&&decide ((2*new.length+1000)*i.bytes<=wW)) (.sl st.nx s.sz 0 new.length none) (st.push (.arr false e s new))) (.HS c .nil st)
       |_=>.HS (c&&decide (0<new.length)&&decide ((2*new.length+1000)*i.bytes<=wW)) (.sl st.nx s.sz 0 new.length none) (st.push (.arr false e s new))
      | .sl id sz off len cap=>match st.obj id with
       |some (.arr false e' s' l)=>match DS (.list s') (.list s) l with
        |some l'=>bif zc e e'&&zc sz s.sz then
          match cap with
          |none=>.HS (c&&decide (off=0)&&decide (len=l'.length)&&decide ((2*(len+new.length)+1000)*i.bytes<=wW)) (.sl st.nx s.sz 0 (ze len new.length) none) ((st.N9 id).push (.arr false e s (l'++new)))
          |some k=>.HS (c&&decide (len+new.length<=k)&&decide (off+k<=l'.length)) (.sl id sz off (ze len new.length) (some k)) (st.setObj id (.arr false e s (l'.take (off+len)++(new++l'.drop (off+len+new.length)))))
         else .bad
        |none=>.bad
       |_=>.bad
      |_=>.bad
     |none=>.bad
    else .bad
   |_,_=>.bad
   else .bad
  |_,_=>.bad
 |_,_,_=>.bad
def VN(T:BW)(ts:Array TypeId)(args:List PV)(st:AJ):PO:=
 match ts[0]?,args with
 |some t,[x]=>match T.und t with
  |some (.slice e)=>match x with
   | .nil=>.val (.tup []) st
   | .sl id sz off len _=>match T.inf e,st.obj id with
    |some i,some (.arr false e' s l)=>
     bif zc sz s.sz&&zg 0 i.zero.length&&zc i.zero.length s.sz&&KP V.one i.zero then
      match DH s (i.zero.map Vg)with
      |some z=>.HS (decide (off+len<=l.length)) (.tup []) (st.setObj id (.arr false e' s (l.take off++(zi len z++l.drop (off+len)))))
      |none=>.bad
     else .bad
    |_,_=>.bad
   |_=>.bad
  |_=>.bad
 |_,_=>.bad
def Vy(args:List PV)(st:AJ):PO:=
 match args with
 |[.sl id sz off len none]=>bif HR (st.obj id)then .HS (decide (0<len)) (.eptr id sz off 0) st else .bad
 |_=>.bad
def Wn(l:List Int):List UInt8:=l.map fun x=>UInt8.ofNat x.toNat
def Q2(l:List Int):Bool:=l.all fun x=>decide (0<=x)&&decide (x<256)
def gO(T:BW)(ts:List TypeId)(args:List PV)(st:AJ):PO:=
 match ts,args with
 |[pt,_],[.eptr id _ i 0,.dat (.int .i64) n]=>match T.und pt,st.obj id with
  |some (.pointer e),some (.arr false e' s l)=>match T.inf e,DS (.list s) (.list (.int .u8)) l with
   |some ti,some bs=>bif zc ti.size 1&&zc e e' then
     .HS (decide (i=0)&&decide (0<(n:Int))&&decide (zd n<=(bs:List Int).length)&&decide (zd n<=9223372036854775807)&&Q2 bs) (.dat .str (Wn ((bs:List Int).take (zd n)))) (st.N9 id)
    else .bad
   |_,_=>.bad
  |_,_=>.bad
 |_,_=>.bad
def HZ(T:BW)(b:Builtin)(ts:Array TypeId)(args:List PV)(st:AJ):PO:=
 match b with
 | .len=>mF T ts args st
 | .append=>RX T ts args st
 | .max=>Nl imax args st
 | .min=>Nl Er args st
 | .clear=>VN T ts args st
 | .unsafeSliceData=>Vy args st
 | .unsafeString=>gO T ts.toList args st
 |_=>.bad
def rune(s:List UInt8)(pos:Nat):Int:=(Utf8.decode (bytesOf s) pos).1
def qQ(s:List UInt8)(pos:Nat):Nat:=(Utf8.decode (bytesOf s) pos).2
def Wj(T:BW)(t:TypeId)(x:PV)(st:AJ):PO:=
 match T.und t,x with
 |some .string,.dat .str s=>.val (.ptr st.nx 0) (st.push (.siter s 0))
 |_,_=>.bad
def dH(x:PV)(isStr:Bool)(st:AJ):PO:=
 match x,isStr with
 | .ptr id 0,true=>match st.obj id with
  |some (.siter s pos)=>.ite (decide (pos<s.length)) (.val (.tup [.bl true,.dat (.int .i64) (Int.ofNat pos),.dat (.int .i32) (rune s pos)]) (st.setObj id (.siter s (ze pos (qQ s pos))))) (.val (.tup [.bl false]) st)
  |_=>.bad
 |_,_=>.bad
def QZ(st:AJ)(place:Nat->Option (Nat×Nat))(cells:List PV):List (Nat×PV)->Option (List PV)
 |[]=>some cells
 |(i,v)::rest=>match place i with
  |none=>none
  |some (off,size)=>match wV st v with
   |some vs=>bif zc (El vs) size&&zj (ze off size) (El cells)then QZ st place (Cq off vs cells) rest else none
   |none=>none
def UX(T:BW)(st:AJ)(t:TypeId)(parts:List (Nat×PV)):Option PV:=
 match T.inf t,T.und t with
 |some i,some (.struct fs)=>
  match fs.toList.mapM (fun f=>(T.inf f.type).map fun j=>(f.offset,j.size))with
  |some pl=>(QZ st (fun i=>pl[i]?) (i.zero.map Vg) parts).map .agg
  |none=>none
 |some i,some (.array _ e)=>match T.inf e with
  |some j=>(QZ st (fun i=>some (i*j.size,j.size)) (i.zero.map Vg) parts).map .agg
  |none=>none
 |_,_=>none
def JT(z:List PV):Nat->List PV
 |0=>[]
 |n+1=>z++JT z n
def CT(st:AJ):PV->Option (Bool×PV)
 | .sl id sz off len _=>match st.obj id with
  |some (.arr _ _ s l)=>bif zc sz s.sz then some (decide (off+len<=l.length),.dat (.list s) ((l.drop off).take len))else none
  |_=>none
 | .dat s x=>some (true,.dat s x)
 | .CO s x off=>some (true,.CO s x off)
 | .bl b=>some (true,.bl b)
 | .nil=>some (true,.nil)
 |_=>none
def Fh(st:AJ):List PV->Option (Bool×List PV)
 |[]=>some (true,[])
 |v::vs=>match CT st v,Fh st vs with
  |some (c,x),some (d,xs)=>some (c&&d,x::xs)
  |_,_=>none
def Bz(st:AJ):PV->AJ
 | .sl id _ _ _ _=>match st.obj id with
  |some (.arr _ e s l)=>st.setObj id (.arr true e s l)
  |_=>st
 |_=>st
def Bo:List PV->AJ->AJ
 |[],st=>st
 |v::vs,st=>Bo vs (Bz st v)
def RL(T:BW)(t:TypeId)(len:Nat)(parts:List (Nat×PV))(st:AJ):PO:=
 match T.und t with
 |some (.slice e)=>match T.inf e,Wm T 9 e with
  |some i,some s=>
   bif zj (zk len i.size) 16777216&&zg 0 i.zero.length&&zc i.zero.length i.size&&zc i.size s.sz then
    match QZ st (fun k=>some (k*i.size,i.size)) (JT (i.zero.map Vg) len) parts with
    |some cs=>match chunk s len cs with
     |some l=>.val (.sl st.nx s.sz 0 len none) (st.push (.arr false e s l))
     |none=>match Fh st cs with
      |some (c,cs')=>match chunk s len cs' with
       |some l=>.HS c (.sl st.nx s.sz 0 len none) ((Bo cs st).push (.arr false e s l))
       |none=>.bad
      |none=>.bad
    |none=>.bad
   else .bad
  |_,_=>.bad
 |_=>.bad
def cO(T:BW)(t:TypeId)(l c:PV)(st:AJ):PO:=
 match T.und t,l,c with
 |some (.slice e),.dat (.int _) l,.dat (.int _) c=>match T.inf e,Wm T 9 e with
  |some i,some s=>
   bif zg 0 i.zero.length&&zc i.zero.length i.size&&zc i.size s.sz then
    match DH s (i.zero.map Vg)with
    |some z=>.HS (decide (0<=(l:Int))&&decide ((l:Int)=(c:Int))&&decide (i.bytes*zd l<=wW)&&decide ((l:Int)<9223372036854775808)) (.sl st.nx s.sz 0 (zd l) none) (st.push (.arr false e s (zi (zd l) z)))
    |none=>.bad
   else .bad
  |_,_=>.bad
 |_,_,_=>.bad
def jZ(T:BW)(t:TypeId):Option Sh:=match T.und t with
 |some (.int k)=>some (.int k)
 |some .string=>some .str
 |some .bool=>some .bool
 |_=>none
def Lv:PV->Bool
 | .agg _=>true
 |_=>false
def asV(s:Sh)(p:PV):Option s.T:=bif Lv p==s.P6 then DH s p.cells else none
def Wt(T:BW)(t:TypeId)(st:AJ):PO:=match T.und t with
 |some (.map kt e)=>match jZ T kt,Wm T 9 e with
  |some ks,some vs=>.val (.mp st.nx) (st.push (.map ks vs []))
  |_,_=>.bad
 |_=>.bad
def cI(st:AJ)(ks vs:Sh)(m:PV):Option (List (ks.T×vs.T)):=match m with
 | .nilm=>some []
 | .mp id=>match st.obj id with
  |some (.map ks' vs' l)=>DS (.list (.pair ks' vs')) (.list (.pair ks vs)) l
  |_=>none
 |_=>none
def yW:V->Bool
 | .agg _=>true
 |_=>false
def yV(ks vs:Sh)(ok:Bool)(z:vs.T)(x:ks.T)(st:AJ):List (ks.T×vs.T)->PO
 |[]=>.val (bif ok then .tup [B5 vs z,.bl false]else B5 vs z) st
 |(a,b)::l=>.ite (rX ks x a) (.val (bif ok then .tup [B5 vs b,.bl true]else B5 vs b) st) (yV ks vs ok z x st l)
def SA(T:BW)(t:TypeId)(m k:PV)(ok:Bool)(st:AJ):PO:=match T.und t with
 |some (.map kt e)=>match jZ T kt,Wm T 9 e,T.inf e with
  |some ks,some vs,some i=>match sG ks k,cI st ks vs m,DH vs (i.zero.map Vg)with
   |some x,some l,some z=>
    bif yW i.zv==vs.P6 then bif vs.mX then yV ks vs ok z x st l else
     (let v:=B5 vs ((Kq ks vs x l).getD z)
     .val (bif ok then .tup [v,.dat .bool (Kq ks vs x l).isSome]else v) st)
    else .bad
   |_,_,_=>.bad
  |_,_,_=>.bad
 |_=>.bad
def SC(T:BW)(t:TypeId)(m k v:PV)(st:AJ):PO:=match T.und t,m with
 |some (.map kt _),.mp id=>match jZ T kt,st.obj id with
  |some ks,some (.map ks' vs l)=>match sG ks k,DS (.list (.pair ks' vs)) (.list (.pair ks vs)) l,asV vs v with
   |some x,some l,some y=>.val (.tup []) (st.setObj id (.map ks vs (Ri ks vs x y l)))
   |_,_,_=>.bad
  |_,_=>.bad
 |_,_=>.bad
def Sc(T:BW)(ts:Array TypeId)(args:List PV)(st:AJ):PO:=match ts[0]?,args with
 |some t,[.mp id,k]=>match T.und t with
  |some (.map kt _)=>match jZ T kt,st.obj id with
   |some ks,some (.map ks' vs l)=>match sG ks k,DS (.list (.pair ks' vs)) (.list (.pair ks vs)) l with
    |some x,some l=>.val (.tup []) (st.setObj id (.map ks vs (Ru ks vs x l)))
    |_,_=>.bad
   |_,_=>.bad
  |_=>.bad
 |_,_=>.bad
abbrev Km:=BW->AJ->PO
def v1(st:AJ)(x:Operand)(k:PV->PO):PO:=match Qg st x with|some v=>k v|none=>.bad
def VU(x:Operand):Km:=fun _ st=>ov st (Qg st x)
def fV(c a b:Operand):Km:=fun _ st=>v1 st c fun c=>v1 st a fun a=>v1 st b fun b=>aF c a b st
def rO(T:BW)(t:TypeId):Bool:=
 match T.und t with
 |some (.struct fs)=>match fs[0]? with
  |some f=>match T.und f.type with
   |some (.pointer u)=>zc u t
   |_=>false
  |none=>false
 |_=>false
def Rk(t:TypeId):Km:=fun T st=>match wO T t with
 |some (s,n)=>.val (.ptr st.nx 0) (st.push (.arr false t s (zi n s.GN)))
 |none=>match aU T t with|some cs=>.val (.ptr st.nx 0) (st.push (bif rO T t then .tbox t cs else .box cs))|none=>.bad
def rS(_:TypeId)(x:Operand):Km:=fun _ st=>v1 st x fun v=>match wV st v with|some cs=>bif KP (Jq st) cs then .val (.ptr st.nx 0) (st.push (.box cs))else .bad|none=>.bad
def W9(t:TypeId)(ps:Array (Nat×Operand)):Km:=fun T st=>match ZB st ps.toList with|some l=>ov st (UX T st t l)|none=>.bad
def Tj(t:TypeId)(n:Nat)(ps:Array (Nat×Operand)):Km:=fun T st=>match ZB st ps.toList with|some l=>RL T t n l st|none=>.bad
def aE(t:TypeId)(x:Operand):Km:=fun T st=>v1 st x fun a=>MK T st t a
def Xl(t:TypeId)(x y:Operand):Km:=fun T st=>v1 st x fun a=>v1 st y fun b=>VA T st t a b
def N1(x:Operand):Km:=fun _ st=>v1 st x fun a=>match a with| .ptr id _| .eptr id _ _ _=>bif HR (st.obj id)then .val a st else .bad| .CO .. =>.val a st|_=>.bad
def rG(T:BW)(op:BinOp)(t:TypeId)(x y:Operand)(a b:PV):Option Bool:=
 match op,a,b,T.und t with
 | .eql,.nili,.nili,some (.interface _)=>bif XC x||XC y then some true else none
 | .neq,.nili,.nili,some (.interface _)=>bif XC x||XC y then some false else none
 |_,_,_,_=>none
def rQ(op:BinOp)(t:TypeId)(x y:Operand)(_:TypeId):Km:=fun T st=>v1 st x fun a=>v1 st y fun b=>match rG T op t x y a b with|some r=>.val (.bl r) st|none=>uX T op t a b st
def yX(op:UnOp)(_:TypeId)(x:Operand):Km:=fun _ st=>v1 st x fun a=>pun op a st
def eX(s d:TypeId)(x:Operand):Km:=fun T st=>v1 st x fun a=>iG T s d a st
def aN(f:Fn)(a b:Array Operand):Km:=fun _ st=>match Ma st a.toList,Ma st b.toList with|some x,some y=>.val (.fn f x y) st|_,_=>.bad
def gE(t:TypeId)(l c:Operand):Km:=fun T st=>v1 st l fun a=>v1 st c fun b=>cO T t a b st
def o1(st:AJ)(x:Option Operand)(k:Option PV->PO):PO:=match x with|none=>k none|some y=>v1 st y fun v=>k (some v)
def XD(t:TypeId)(x:Operand)(a b c:Option Operand):Km:=fun T st=>v1 st x fun v=>o1 st a fun l=>o1 st b fun h=>o1 st c fun m=>fF T t v l h m st
def XS(t:TypeId)(x:Operand)(f:Nat):Km:=fun T st=>v1 st x fun a=>VS T t a f st
def Xh(t:TypeId)(x:Operand)(f:Nat):Km:=fun T st=>v1 st x fun a=>Vr T t a f st
def X3(t:TypeId)(x i:Operand):Km:=fun T st=>v1 st x fun a=>v1 st i fun b=>bY T t a b st
def WI(t:TypeId)(x i:Operand):Km:=fun T st=>v1 st x fun a=>v1 st i fun b=>Wp T t a b st
def QX(x:Operand)(i:Nat):Km:=fun _ st=>v1 st x fun a=>Pw a i st
def Rw(c:Call):Km:=fun T st=>
 match Ma st c.args.toList with
 |none=>.bad
 |some args=>match c.callee with
  | .builtin b=>match b with
   | .delete=>Sc T c.argTypes args st
   |_=>HZ T b c.argTypes args st
  |_=>.bad
def Xt(t:TypeId)(r:Option Operand):Km:=fun T st=>match r with|none=>Wt T t st|some _=>.bad
def TK(t:TypeId)(x i:Operand)(ok:Bool):Km:=fun T st=>v1 st x fun a=>v1 st i fun b=>SA T t a b ok st
def O9(t:TypeId)(m k x:Operand):Km:=fun T st=>v1 st m fun a=>v1 st k fun b=>v1 st x fun c=>SC T t a b c st
def Xo(t:TypeId)(x:Operand):Km:=fun T st=>v1 st x fun a=>Wj T t a st
def eV(x:Operand)(isStr:Bool):Km:=fun _ st=>v1 st x fun a=>dH a isStr st
def Ji:Km:=fun _ _=>.bad
def pop(o:Op):Km:=@Op.casesOn (fun _=>Km) o VU VU fV Rk rS W9 Tj O9 aE Xl (fun _=>Ji) (fun _=>Ji) N1 rQ yX eX
 (fun _ _=>Ji) (fun _ _=>Ji) aN Xt (fun _ _=>Ji) gE XD XS Xh X3 WI TK O9 (fun _ _ _=>Ji) (fun _ _ _ _=>Ji)
 Xo eV (fun _=>Ji) (fun _ _ _ _=>Ji) QX Rw (fun _=>Ji) (fun _=>Ji) (fun _=>Ji) (fun _ _=>Ji) (fun _ _ _=>Ji) (fun _ _=>Ji)
end Go.Pe
namespace Go.Det
section
abbrev V0:=FuncId->Option (List V->H->Option (V×H))
def Lo(P:Program)(s:V0):Prop:=∀f q,s f=some q->∀(p:Pl) (h:H) (w:World) (args:List V) (args':Array Value) v h',R p h w->Gp p->As p args args'.toList->q args h=some (v,h')->
 Calls P f args' w fun e w'=>∃v' p',e=.returned v'/\Ac p' v v'/\Ext p h w p' h' w'
def wZ(a b:V0):V0:=fun f=>match a f with
 |some q=>some q
 |none=>b f
variable {P:Program}
theorem RM{a b:V0}(ha:Lo P a)(hb:Lo P b):Lo P (wZ a b):=by
 intro f q hq;unfold wZ at hq;cases h:a f with
 |some q'=>rw[h]at hq;cases hq;exact ha f _ h
 |none=>rw[h]at hq;exact hb f q hq
def Xv(C:Ctx)(s:V0):Ctx:={ C with spec:=s }
theorem TS{C:Ctx}(hC:C.Ok P){s:V0}(h:Lo P s):(Xv C s).Ok P where
 T:=hC.T
 fn:=hC.fn
 prim:=hC.prim
 spec:=h
theorem My{C:Ctx}(hce:Gi C)(s:V0):Gi (Xv C s):=hce
theorem Xb{C:Ctx}(hC:C.Ok P)(hce:Gi C)(hm:P.follows .mixedOrders=true){n:Nat}{L:CE}(h:AY C n L=true):Lo P (JV L):=qD (C':=C) hC hce hm h
theorem AI{C:Ctx}{n:Nat}:∀ {a b:CE},AY C n a=true->AY C n b=true->AY C n (a++b)=true
 |[],b,_,h=>h
 |(f,x,v)::a,b,h,k=>by
  simp only[AY,List.cons_append,Bool.and_eq_true]at h ⊢;exact⟨h.1,AI h.2 k⟩
def JM(C:Ctx)(n:Nat)(L:CE):V0:=fun f=>match JV L f with
 |none=>none
 |some q=>some fun args h=>match q args h with
  |some x=>some x
  |none=>match Bi C n (.fn f args) h with
   |some [x]=>some x
   |_=>none
theorem QJ{C:Ctx}(hC:C.Ok P)(hce:Gi C)(hm:P.follows .mixedOrders=true){n k:Nat}{L:CE}(ha:AY C k L=true):Lo P (JM C n L):=by
 intro f q hq p h w args args' v h' hr hg hargs hqr;unfold JM at hq;cases hL:JV L f with
 |none=>rw[hL]at hq;cases hq
 |some q0=>
  rw[hL]at hq;cases hq;simp only at hqr;split at hqr
  case h_1=>rename_i x hx;cases hqr;exact Xb hC hce hm ha f q0 hL p h w args args' v h' hr hg hargs hx
  case h_2=>
   split at hqr
   case h_2=>cases hqr
   rename_i x he;cases hqr;refine((Il hC hce hm n).fn f args h _ he p w args' hr hg hargs).mono ?_;rintro e w' ⟨v1,h1,v',p',hmem,rfl,k1,k2⟩;cases List.mem_singleton.1 hmem;exact⟨v',p',rfl,k1,k2⟩
theorem Mj{p:Pl}{h:H}{w w':World}(hr:R p h w)(hb:Go.RowKit.Below w.heap.size w w'):Ext p h w p h w':=by
 obtain⟨h1,h2,h3,h4,h5⟩:=hb;refine⟨⟨[],by simp⟩,⟨hr.len,fun b o hb=>?_,hr.inj⟩,h4,fun r hlt _=>h5 r hlt,fun r hi=>.inl hi,h1,h3,h2,fun r hlt hl=>⟨h5 r hlt,.inl hl⟩⟩;obtain⟨r,m,y,g1,g2,g3⟩:=hr.obj b o hb;exact⟨r,m,y,g1,by rw[h5 r (Array.getElem?_eq_some_iff.1 g2).1];exact g2,g3⟩
end
end Go.Det
