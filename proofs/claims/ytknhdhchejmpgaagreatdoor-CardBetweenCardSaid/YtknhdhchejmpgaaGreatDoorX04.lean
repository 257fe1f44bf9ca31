import Derived.Test.YtknhdhchejmpgaaGreatDoorX03
import Derived.Below
/- A part of a proof (no law is stated here). Made by program out of texts by AI agents. -/
noncomputable section
open Nat renaming beq -> zc, add -> zg, blt -> zj, ble -> zm, mul -> zn
open Int renaming toNat -> ze
open BitVec renaming ofInt -> zh
open Go.Op renaming bytesLess -> zk
open List renaming replicate -> zl
namespace Go.Det
section
def OA(P:Program):Nat->Nat->Bool
 |0,_=>true
 |n+1,a=>(match P0 P (fun _=>true) a with|some i=>Dw i.body|none=>true)&&OA P n (a+1)
variable {P:Program}
theorem Qm{ct:FuncId->Bool}{f:FuncId}{i:Fn}(hi:P0 P ct f=some i):P0 P (fun _=>true) f=some { i with cert:=true }/\i.cert=ct f:=by
 unfold P0 at hi ⊢;cases hf:P.funcs[f]? with
 |none=>rw[hf]at hi;cases hi
 |some fn=>
  rw[hf]at hi;simp only at hi ⊢;cases hb:fn.body with
  |none=>rw[hb]at hi;cases hi
  |some b=>
   rw[hb]at hi;simp only at hi ⊢;split at hi
   ·cases hi
   ·rename_i hn;rw[wc hn];cases hi;exact⟨rfl,rfl⟩
theorem ID{f:Nat}{i:Fn}{ct:FuncId->Bool}(hi:P0 P ct f=some i):∀ {n a:Nat},OA P n a=true->a<=f->f<a+n->Dw i.body=true
 |0,a,_,h1,h2=>by omega
 |n+1,a,h,h1,h2=>by
  simp only[OA,Bool.and_eq_true]at h;by_cases e:a=f
  ·subst e;rw[(Qm hi).1]at h;exact h.1
  ·exact ID hi h.2 (by omega) (by omega)
def zP(P:Program)(N:Nat)(L:List (FuncId×PK)):Ctx:=⟨qG P,0,P0 P (fun f=>zj f N),Su L,fun _=>none,true⟩
theorem Yz{N:Nat}{L:List (FuncId×PK)}(h:∀f i,f<N->P0 P (fun f=>zj f N) f=some i->Dw i.body=true):Ga (zP P N L):=by
 intro f i hi hc;have hi:P0 P (fun f=>zj f N) f=some i:=hi;rw[(Qm hi).2]at hc;exact h f i (Nat.le_of_ble_eq_true hc) hi
theorem tI{N:Nat}{L:List (FuncId×PK)}(hL:∀x∈L,IP P x):(zP P N L).Ok P where
 T:=rT P
 fn:=fun _ _ h=>mU (P:=P) (ct:=fun f=>zj f N) h
 prim:=fun f q hq p h w args args' v h' hr _ ha hd=>XY hL f q hq p h w args args' v h' hr ha hd
 spec:=fun f q hq=>by cases hq
end
end Go.Det
namespace Go.Pe
open Go.Det
inductive Sh where
 |int (k:IntKind)
 |bool
 |str
 |list (s:Sh)
 |pair (a b:Sh)
 |unit
 |nlist (s:Sh)
 |fnv
 deriving DecidableEq
@[reducible] def Sh.T:Sh->Type
 | .int _=>Int
 | .bool=>Bool
 | .str=>List UInt8
 | .list s=>List s.T
 | .pair a b=>a.T×b.T
 | .unit=>Unit
 | .nlist s=>List s.T
 | .fnv=>Option Fn
def Sh.Ht:(s:Sh)->s.T
 | .int _=>(0:Int)
 | .bool=>false
 | .str=>([]:List UInt8)
 | .list _=>[]
 | .pair a b=>(a.Ht,b.Ht)
 | .unit=>()
 | .nlist _=>[]
 | .fnv=>none
def Sh.sz:Sh->Nat
 | .pair a b=>zg a.sz b.sz
 | .unit=>0
 |_=>1
inductive PV where
 |any
 |bl (b:Bool)
 |ub
 |dat (s:Sh) (x:s.T)
 |nil|nilp|nilm|nilf|nili
 |agg (l:List PV)
 |tup (l:List PV)
 |ptr (id off:Nat)
 |eptr (id sz i off:Nat)
 |FO (s:Sh) (x:s.T) (off:Nat)
 |sl (id sz off len:Nat) (cap:Option Nat)
 |mp (id:Nat)
 |fn (f:Fn) (first captured:List PV)
 |yl (id:Nat)
inductive zH where
 |ready|busy|ret
 |exit (i:Nat)
inductive Obj where
 |arr (fz:Bool) (e:TypeId) (s:Sh) (l:List s.T)
 |box (cs:List PV)
 |tbox (t:TypeId) (cs:List PV)
 |map (ks vs:Sh) (l:List (ks.T×vs.T))
 |siter (s:List UInt8) (pos:Nat)
 |lp (f:FuncId) (r:Nat) (ps:Array Tmp) (asg body:Code) (s:zH) (n:Nat) (sl:List (Nat×PV))
abbrev Ob:=List (Nat×Obj)
def AO:Ob->Nat->Option Obj
 |[],_=>none
 |(i,o)::l,j=>bif zc i j then some o else AO l j
def Dx:Ob->Nat->Obj->Ob
 |[],_,_=>[]
 |(i,o)::l,j,x=>bif zc i j then(i,x)::l else(i,o)::Dx l j x
def F8:Ob->Nat->Ob
 |[],_=>[]
 |(i,o)::l,j=>bif zc i j then F8 l j else(i,o)::F8 l j
structure AK where
 n:Nat
 fr:PM PV
 ob:Ob
 nx:Nat
def AK.get(st:AK)(t:Nat):PV:=(st.fr.get t).getD .any
def AK.obj(st:AK)(id:Nat):Option Obj:=AO st.ob id
def AK.set(st:AK)(t:Nat)(v:PV):AK:=⟨st.n,st.fr.set t (some v),st.ob,st.nx⟩
def AK.setObj(st:AK)(id:Nat)(o:Obj):AK:=⟨st.n,st.fr,Dx st.ob id o,st.nx⟩
def AK.PJ(st:AK)(id:Nat):AK:=⟨st.n,st.fr,F8 st.ob id,st.nx⟩
def AK.push(st:AK)(o:Obj):AK:=⟨st.n,st.fr,(st.nx,o)::st.ob,zg st.nx 1⟩
def AK.put(st:AK)(d:Option Nat)(v:PV):Option AK:=
 match d with
 |none=>some st
 |some t=>bif zj t st.n then some (st.set t v)else none
def Fh(vs:List (Nat×PV)):PM PV:=vs.foldl (fun m x=>m.set x.1 (some x.2)) .leaf
def flat:(s:Sh)->s.T->List PV
 | .pair a b,(x,y)=>flat a x++flat b y
 | .unit,_=>[]
 | .fnv,x=>[match (x:Option Fn)with|some f=>.fn f [] []|none=>.nilf]
 |s,x=>[.dat s x]
def DU(s s':Sh)(x:s.T):Option s'.T:=if h:s=s' then some (h▸x)else none
def nY(s:Sh)(v:PV):Option s.T:=
 match v with
 | .dat s' x=>DU s' s x
 | .bl b=>DU .bool s b
 | .fn f [] []=>DU .fnv s (some f)
 | .nilf=>DU .fnv s none
 | .nil=>match s with
  | .list _=>some []
  | .nlist _=>some []
  |_=>none
 |_=>none
def Ct:(s:Sh)->List PV->Option (s.T×List PV)
 | .pair a b,l=>match Ct a l with
  |some (x,l1)=>match Ct b l1 with
   |some (y,l2)=>some ((x,y),l2)
   |none=>none
  |none=>none
 | .unit,l=>some ((),l)
 |s,v::l=>match nY s v with
  |some x=>some (x,l)
  |none=>none
 |_,[]=>none
def C1(s:Sh)(l:List PV):Option s.T:=
 match Ct s l with
 |some (x,[])=>some x
 |_=>none
def PV.cells:PV->List PV
 | .agg cs=>cs
 |v=>[v]
def WX(ty:TypeId->Option Sh):List Field->Option Sh
 |[]=>none
 |[x]=>ty x.type
 |x::xs=>match ty x.type,WX ty xs with
  |some a,some b=>some (.pair a b)
  |_,_=>none
def nlf:Option Sh->Option Sh
 |some (.list (.int .u64))=>some (.nlist (.int .u64))
 |s=>s
def lz:PV->PV
 | .dat (.nlist s) x=>.dat (.list s) x
 |v=>v
def Sh.leaves:Sh->List Sh
 | .pair a b=>a.leaves++b.leaves
 | .unit=>[]
 |s=>[s]
def Ti:Sh->PV->Bool×PV
 | .nlist s,.dat (.list s') x=>bif s==s' then(decide (0<x.length),.dat (.nlist s') x)else(true,.dat (.list s') x)
 | .list s,.dat (.nlist s') x=>bif s==s' then(true,.dat (.list s') x)else(true,.dat (.nlist s') x)
 |_,v=>(true,v)
def Kj:List Sh->List PV->Bool×List PV
 |s::l,v::vs=>((Ti s v).1&&(Kj l vs).1,(Ti s v).2::(Kj l vs).2)
 |_,vs=>(true,vs)
def V6(T:BS):Nat->TypeId->Option Sh
 |0,_=>none
 |f+1,t=>match T.und t with
  |some (.int k)=>some (.int k)
  |some .bool=>some .bool
  |some .string=>some .str
  |some (.slice e)=>(V6 T f e).map .list
  |some (.func _ _ _)=>some .fnv
  |some (.struct fs)=>WX (fun x=>nlf (V6 T f x)) fs.toList
  |_=>none
def Sh.oF:Sh->Bool
 | .pair a b=>a.oF||b.oF
 | .fnv=>true
 |_=>false
def Cb:(s:Sh)->s.T->PV
 | .pair a b,x=>.agg (flat (.pair a b) x)
 | .unit,_=>.agg []
 | .fnv,x=>match (x:Option Fn)with|some f=>.fn f [] []|none=>.nilf
 |s,x=>.dat s x
def Sh.PW:Sh->Bool
 | .pair _ _| .unit=>true
 |_=>false
def qC:(s:Sh)->s.T->s.T->Bool
 | .int _,a,b=>(a:Int)==b
 | .bool,a,b=>(a:Bool)==b
 | .str,a,b=>(a:List UInt8)==b
 |_,_,_=>false
def Kf(s v:Sh)(k:s.T):List (s.T×v.T)->Option v.T
 |[]=>none
 |(a,b)::l=>bif qC s k a then some b else Kf s v k l
def Rj(s v:Sh)(k:s.T)(x:v.T):List (s.T×v.T)->List (s.T×v.T)
 |[]=>[(k,x)]
 |(a,b)::l=>bif qC s k a then(k,x)::l else(a,b)::Rj s v k x l
def RV(s v:Sh)(k:s.T):List (s.T×v.T)->List (s.T×v.T)
 |[]=>[]
 |(a,b)::l=>bif qC s k a then l else(a,b)::RV s v k l
inductive Tr where
 |fail
 |leaf (v:PV) (ob:Ob)
 |ite (c:Bool) (a b:Tr)
 |both (a b:Tr)
 |cut (nd ro:Bool) (d:Nat) (f:FuncId) (base:Nat) (b:Code) (st:AK) (k:DX->AK->Tr)
 |alts (m:Nat) (f:Nat->Tr)
 |loop (nd ro:Bool) (d:Nat) (f:FuncId) (base:Nat) (b:Code) (st:AK) (k:DX->AK->Tr)
inductive PO where
 |bad
 |val (v:PV) (st:AK)
 |ite (c:Bool) (a b:PO)
def PO.HV(c:Bool)(v:PV)(st:AK):PO:=.ite c (.val v st) .bad
mutual
def MP:Value->Option PV
 | .bool b=>some (.bl b)
 | .int k n=>some (.dat (.int k) n)
 | .string s=>some (.dat .str s.data.toList)
 | .pointer none=>some .nilp
 | .slice none 0 0=>some .nil
 | .map none=>some .nilm
 | .nilFunc=>some .nilf
 | .nilIface=>some .nili
 | .func f ⟨[]⟩ ⟨[]⟩=>some (.fn f [] [])
 | .agg ⟨cs⟩=>(Zu cs).map .agg
 | .tuple ⟨cs⟩=>(Zu cs).map .tup
 |_=>none
def Zu:List Value->Option (List PV)
 |[]=>some []
 |v::vs=>match MP v,Zu vs with
  |some x,some xs=>some (x::xs)
  |_,_=>none
end
def Vq:V->PV
 | .bool b=>.bl b
 | .int k n=>.dat (.int k) n
 | .str s=>.dat .str s
 | .nilp=>.nilp
 | .nils=>.nil
 | .nilm=>.nilm
 | .nilf=>.nilf
 | .nili=>.nili
 |_=>.any
def P2(st:AK):Operand->Option PV
 | .tmp t=>some (st.get t)
 | .const v=>MP v
 | .global _=>none
 | .func f=>some (.fn (.func f) [] [])
def Mm(st:AK):List Operand->Option (List PV)
 |[]=>some []
 |x::xs=>match P2 st x,Mm st xs with
  |some v,some vs=>some (v::vs)
  |_,_=>none
def ZK(st:AK):List (Nat×Operand)->Option (List (Nat×PV))
 |[]=>some []
 |(i,x)::xs=>match P2 st x,ZK st xs with
  |some v,some vs=>some ((i,v)::vs)
  |_,_=>none
def iX(T:BS)(t:TypeId):Option (List PV):=(T.inf t).bind fun i=>bif KS V.ok i.zero then some (i.zero.map Vq)else none
def pick(d:TypeDesc)(n:Nat)(cs:List PV):Option PV:=
 bif DN d then(bif zm n (DB cs)&&zj 0 n then some (.agg (Ub n cs))else none)
 else match cs with
  |v::_=>some v
  |[]=>none
def ov(st:AK):Option PV->PO
 |some v=>.val v st
 |none=>.bad
def uX(c:Bool)(st:AK):Option PV->PO
 |some v=>.HV c v st
 |none=>.bad
def chunk(s:Sh):Nat->List PV->Option (List s.T)
 |0,_=>some []
 |n+1,cs=>match Ct s cs with
  |some (x,cs')=>(chunk s n cs').map (x:: ·)
  |none=>none
def Oy(s:Sh)(l:List s.T):Nat->Nat->List PV
 |_,0=>[]
 |j,n+1=>flat s (l.getD j s.Ht)++Oy s l (zg j 1) n
def zsh:List V->Option Sh
 | .bool _::_=>some .bool
 | .int k _::_=>some (.int k)
 |_=>none
def uW:Sh->V->Bool
 | .bool,.bool b=> !b
 | .int k,.int k' n=>decide (k=k')&&decide (n=0)
 |_,_=>false
def sC(T:BS)(t:TypeId):Option (Sh×Nat):=
 match T.und t,T.inf t with
 |some (.array _ _),some i=>match zsh i.zero with
  |some s=>bif zm 32 (DB i.zero)&&KS (uW s) i.zero then some (s,DB i.zero)else none
  |none=>none
 |_,_=>none
def ML(T:BS)(st:AK)(t:TypeId)(a:PV):PO:=
 match T.und t,T.inf t with
 |some d,some i=>match a with
  | .ptr id off=>match st.obj id with
   |some (.box cs)=>ov st (pick d i.size (H5 off cs))
   |some (.arr _ _ s l)=>bif zc off 0&&zc s.sz 1 then uX (decide (l.length=i.size)) st (pick d i.size (Oy s l 0 i.size))else .bad
   |some (.tbox _ cs)=>ov st (pick d i.size (H5 off cs))
   |_=>.bad
  | .eptr id sz j off=>match st.obj id with
   |some (.arr _ _ s l)=>bif zc sz s.sz then uX (decide (j<l.length)) st (pick d i.size (H5 off (flat s (l.getD j s.Ht))))else .bad
   |_=>.bad
  | .FO s x off=>ov st (pick d i.size (H5 off (flat s x)))
  |_=>.bad
 |_,_=>.bad
def HW:Option Obj->Bool
 |some _=>true
 |none=>false
def JG(st:AK):PV->Bool
 | .agg _| .tup _| .any| .ub=>false
 | .ptr id _| .eptr id _ _ _| .sl id _ _ _ _| .mp id| .yl id=>HW (st.obj id)
 |_=>true
def vD(st:AK):PV->Option (List PV)
 | .agg l=>some l
 |p=>bif JG st p then some [p]else none
def Wx(T:BS)(st:AK)(t:TypeId)(a x:PV):PO:=
 match T.inf t,vD st x with
 |some i,some xs=>bif zc (DB xs) i.size&&KS (JG st) xs then
   match a with
   | .ptr id off=>match st.obj id with
    |some (.box cs)=>bif zm (zg off i.size) (DB cs)then .val (.tup []) (st.setObj id (.box (Ck off xs cs)))else .bad
    |some (.arr false e s l)=>bif zc off 0&&zc s.sz 1 then
      match chunk s i.size xs with
      |some y=>.HV (decide (l.length=i.size)) (.tup []) (st.setObj id (.arr false e s y))
      |none=>.bad
     else .bad
    |some (.tbox tb cs)=>bif zm (zg off i.size) (DB cs)then .val (.tup []) (st.setObj id (.tbox tb (Ck off xs cs)))else .bad
    |_=>.bad
   | .eptr id sz j off=>match st.obj id with
    |some (.arr false e s l)=>bif zc sz s.sz&&zm (zg off i.size) sz then
      match C1 s (Ck off xs (flat s (l.getD j s.Ht)))with
      |some y=>.HV (decide (j<l.length)) (.tup []) (st.setObj id (.arr false e s (l.set j y)))
      |none=>.bad
     else .bad
    |_=>.bad
   |_=>.bad
  else .bad
 |_,_=>.bad
def Hc(k:IntKind)(a b:Int):Int:=k.wrap (zh k.bits a&&&zh k.bits b).toNat
def Yy(k:IntKind)(a b:Int):Int:=k.wrap (zh k.bits a|||zh k.bits b).toNat
def yZ(k:IntKind)(a b:Int):Int:=k.wrap (zh k.bits a^^^zh k.bits b).toNat
def vK(k:IntKind)(a b:Int):Int:=k.wrap (zh k.bits a&&& ~~~zh k.bits b).toNat
def sE(op:BinOp)(k:IntKind)(a b:Int)(st:AK):PO:=
 match op with
 | .add=>.val (.dat (.int k) (k.wrap (a+b))) st
 | .sub=>.val (.dat (.int k) (k.wrap (a-b))) st
 | .mul=>.val (.dat (.int k) (k.wrap (a*b))) st
 | .quo=>.HV (decide (b≠0)) (.dat (.int k) (k.wrap (a.tdiv b))) st
 | .rem=>.HV (decide (b≠0)) (.dat (.int k) (a.tmod b)) st
 | .and=>.val (.dat (.int k) (Hc k a b)) st
 | .or=>.val (.dat (.int k) (Yy k a b)) st
 | .xor=>.val (.dat (.int k) (yZ k a b)) st
 | .andNot=>.val (.dat (.int k) (vK k a b)) st
 | .eql=>.val (.dat .bool (a==b)) st
 | .neq=>.val (.dat .bool (a !=b)) st
 | .lss=>.val (.dat .bool (decide (a<b))) st
 | .leq=>.val (.dat .bool (decide (a<=b))) st
 | .gtr=>.val (.dat .bool (decide (a>b))) st
 | .geq=>.val (.dat .bool (decide (a>=b))) st
 |_=>.bad
def yY(op:BinOp)(k:IntKind)(a b:Int)(st:AK):PO:=
 match op with
 | .shl=>.HV (decide (0<=b)) (.dat (.int k) (k.wrap (a*2^(min b.toNat k.bits)))) st
 | .shr=>.HV (decide (0<=b)) (.dat (.int k) (a.fdiv (2^(min b.toNat k.bits)))) st
 |_=>.bad
def tQ(op:BinOp)(x y:List UInt8)(st:AK):PO:=
 match op with
 | .add=>.HV (decide (x.length+y.length<=4611686018427387904)) (.dat .str (x++y)) st
 | .eql=>.val (.dat .bool (x==y)) st
 | .neq=>.val (.dat .bool (!(x==y))) st
 | .lss=>.val (.dat .bool (zk x y)) st
 | .leq=>.val (.dat .bool (zk x y||x==y)) st
 | .gtr=>.val (.dat .bool (!(zk x y||x==y))) st
 | .geq=>.val (.dat .bool (!zk x y)) st
 |_=>.bad
def mI:BinOp->Bool
 | .shl| .shr=>true
 |_=>false
def Jl:PV->Option Bool
 | .bl b=>some b
 | .dat .bool b=>some b
 |_=>none
def GY:List FK->List PV->List PV->Option Bool
 |[],[],[]=>some true
 | .int k::ks,.dat (.int k1) a::xs,.dat (.int k2) b::ys=>bif k==k1&&k==k2 then(GY ks xs ys).map fun r=>(a:Int)==(b:Int)&&r else none
 | .str::ks,.dat .str a::xs,.dat .str b::ys=>(GY ks xs ys).map fun r=>(a:List UInt8)==(b:List UInt8)&&r
 | .bool::ks,a::xs,b::ys=>match Jl a,Jl b with
  |some a,some b=>(GY ks xs ys).map fun r=>a==b&&r
  |_,_=>none
 |_,_,_=>none
def SJ(st:AK)(ng:Bool)(x:PV):PO:=
 match x with
 | .nil=>.val (.bl (!ng)) st
 | .sl id _ _ _ _=>bif HW (st.obj id)then .val (.bl ng) st else .bad
 | .dat (.list _) l=>.ite (decide (0<l.length)) (.val (.bl ng) st) (.val .ub st)
 | .dat (.nlist _) l=>.val (.dat .bool (bif ng then decide (0<l.length)else !decide (0<l.length))) st
 |_=>.bad
def aX(op:BinOp)(x y:PV)(st:AK):PO:=
 match op,x,y with
 | .eql,x,.nil=>SJ st false x
 | .neq,x,.nil=>SJ st true x
 |_,_,_=>.bad
def ptrEq(T:BS)(e:TypeId)(st:AK)(x y:PV):Option Bool:=
 match x,y with
 | .nilp,.nilp=>some true
 | .ptr id _,.nilp=>bif HW (st.obj id)then some false else none
 | .nilp,.ptr id _=>bif HW (st.obj id)then some false else none
 | .ptr a i,.ptr b j=>bif zc a b&&HW (st.obj a)then match T.inf e with
   |some ti=>bif zj 0 ti.size then some (zc i j)else none
   |none=>none
  else none
 |_,_=>none
def rO(T:BS)(op:BinOp)(t:TypeId)(x y:PV)(st:AK):PO:=
 match x,y with
 | .dat (.int k) a,.dat (.int k') b=>bif mI op then yY op k a b st else(bif k==k' then sE op k a b st else .bad)
 | .dat .str a,.dat .str b=>tQ op a b st
 | .agg xs,.agg ys=>match T.flat t with
  |some ks=>match op,GY ks xs ys with
   | .eql,some r=>.val (.dat .bool r) st
   | .neq,some r=>.val (.dat .bool (!r)) st
   |_,_=>.bad
  |none=>.bad
 |x,y=>match Jl x,Jl y,T.und t with
  |some a,some b,some .bool=>match op with
   | .eql=>.val (.dat .bool (a==b)) st
   | .neq=>.val (.dat .bool (!(a==b))) st
   |_=>.bad
  |_,_,some (.slice _)=>aX op x y st
  |_,_,some (.pointer e)=>match op,ptrEq T e st x y with
   | .eql,some r=>.val (.bl r) st
   | .neq,some r=>.val (.bl (!r)) st
   |_,_=>.bad
  |_,_,_=>.bad
def zB(op:UnOp)(x:PV)(st:AK):PO:=
 match op,x with
 | .neg,.dat (.int k) n=>.val (.dat (.int k) (k.wrap (0-(n:Int)))) st
 | .not,.bl b=>.val (.bl (!b)) st
 | .not,.ub=>.val .ub st
 | .not,.dat .bool b=>.val (.dat .bool (!b)) st
 |_,_=>.bad
def dR(T:BS)(s d:TypeId)(x:PV)(st:AK):PO:=
 match T.und s,T.und d,x with
 |some _,some (.int k),.dat (.int _) n=>.val (.dat (.int k) (k.wrap n)) st
 |some .string,some .string,.dat .str s=>.val (.dat .str s) st
 |_,_,_=>.bad
def bC(c a b:PV)(st:AK):PO:=
 match c with
 | .bl t=>.val (bif t then a else b) st
 | .dat .bool t=>match a,b with
  | .dat .bool x,.bl false=>.val (.dat .bool (t&&x)) st
  | .bl true,.dat .bool x=>.val (.dat .bool (t||x)) st
  |_,_=>.ite t (.val a st) (.val b st)
 |_=>.bad
def U9(T:BS)(t:TypeId)(x:PV)(f:Nat)(st:AK):PO:=
 match T.und t,x with
 |some (.struct fs),.agg cs=>match fs[f]? with
  |some fd=>match T.und fd.type,T.inf fd.type with
   |some d,some i=>ov st (pick d i.size (H5 fd.offset cs))
   |_,_=>.bad
  |none=>.bad
 |_,_=>.bad
def Wb(T:BS)(t:TypeId)(x:PV)(f:Nat)(st:AK):PO:=
 match T.und t with
 |some (.struct fs)=>match fs[f]? with
  |some fd=>match T.inf fd.type with
   |some i=>bif zc i.size 0 then .bad else match x with
    | .ptr id off=>bif HW (st.obj id)then .val (.ptr id (zg off fd.offset)) st else .bad
    | .eptr id sz j off=>bif HW (st.obj id)then .val (.eptr id sz j (zg off fd.offset)) st else .bad
    | .FO s y off=>.val (.FO s y (zg off fd.offset)) st
    |_=>.bad
   |none=>.bad
  |none=>.bad
 |_=>.bad
def SX(T:BS)(t:TypeId)(x ix:PV)(st:AK):PO:=
 match T.und t,ix with
 |some (.slice e),.dat (.int _) i=>match T.inf e with
  |some ti=>match x with
   | .dat (.list s) l=>bif zc ti.size s.sz then .HV (decide (0<=(i:Int))&&decide ((i:Int)<(l.length:Int))) (.FO s (l.getD (ze i) s.Ht) 0) st else .bad
   | .sl id sz off len _=>bif zc ti.size sz&&HW (st.obj id)then .HV (decide (0<=(i:Int))&&decide ((i:Int)<(len:Int))) (.eptr id sz (zg (ze i) off) 0) st else .bad
   |_=>.bad
  |none=>.bad
 |some (.array len e),.dat (.int _) i=>match T.inf e with
  |some ti=>match x with
   | .ptr id off=>match st.obj id with
    |some (.arr _ _ s _)=>bif zc off 0&&zc ti.size s.sz then .HV (decide (0<=(i:Int))&&decide ((i:Int)<(len:Int))) (.eptr id s.sz (ze i) 0) st else .bad
    |some _=>.HV (decide (0<=(i:Int))&&decide ((i:Int)<(len:Int))) (.ptr id (zg off (zn (ze i) ti.size))) st
    |none=>.bad
   | .eptr id sz j off=>bif HW (st.obj id)then .HV (decide (0<=(i:Int))&&decide ((i:Int)<(len:Int))) (.eptr id sz j (zg off (zn (ze i) ti.size))) st else .bad
   | .FO s y off=>.HV (decide (0<=(i:Int))&&decide ((i:Int)<(len:Int))) (.FO s y (zg off (zn (ze i) ti.size))) st
   |_=>.bad
  |none=>.bad
 |_,_=>.bad
def fX(T:BS)(t:TypeId)(x ix:PV)(st:AK):PO:=SX T t (lz x) ix st
def WH(T:BS)(t:TypeId)(x ix:PV)(st:AK):PO:=
 match T.und t,x,ix with
 |some .string,.dat .str s,.dat (.int _) i=>.HV (decide (0<=(i:Int))&&decide ((i:Int)<((s:List UInt8).length:Int))) (.dat (.int .u8) (((s:List UInt8).getD (ze i) 0).toNat:Int)) st
 |some (.array len e),.agg cs,.dat (.int _) i=>match T.und e,T.inf e with
  |some d,some ti=>uX (decide (0<=(i:Int))&&decide ((i:Int)<(len:Int))) st (pick d ti.size (H5 (zn (ze i) ti.size) cs))
  |_,_=>.bad
 |_,_,_=>.bad
def OF(x:PV)(i:Nat)(st:AK):PO:=
 match x with
 | .tup vs=>match vs[i]? with
  |some v=>.val v st
  |none=>.bad
 |_=>.bad
def pb(x:Option PV)(Ht:Nat):Option (Bool×Nat):=
 match x with
 |none=>some (true,Ht)
 |some (.dat (.int _) n)=>some (decide (0<=(n:Int)),ze n)
 |_=>none
def has(mx:Option PV)(c:Nat):Bool:=match mx with
 |none=>true
 |some _=>decide (0<c)
def SQ(T:BS)(t:TypeId)(x:PV)(lo hi mx:Option PV)(st:AK):PO:=
 match T.und t with
 |some .string=>match x,mx with
  | .dat .str s,none=>match pb lo 0,pb hi (s:List UInt8).length with
   |some (c1,l),some (c2,h)=>.HV (c1&&c2&&decide (l<=h)&&decide (h<=(s:List UInt8).length)) (.dat .str (((s:List UInt8).drop l).take (Nat.sub h l))) st
   |_,_=>.bad
  |_,_=>.bad
 |some (.slice e)=>match T.inf e with
  |some ti=>match x with
   | .dat (.list s) xs=>bif zc ti.size s.sz then
     match pb lo 0,pb hi xs.length,mx with
     |some (c1,l),some (c2,h),none=>.HV (c1&&c2&&decide (l<=h)&&decide (h<=xs.length)) (.dat (.list s) ((xs.drop l).take (Nat.sub h l))) st
     |_,_,_=>.bad
    else .bad
   | .sl id sz off len cap=>bif zc ti.size sz&&HW (st.obj id)then
     match hi,mx with
     |none,some _=>.bad
     |_,_=>match pb lo 0,pb hi len,pb mx (cap.getD len)with
      |some (c1,l),some (c2,h),some (c3,m)=>.HV (c1&&c2&&c3&&decide (l<=h)&&decide (h<=m)&&decide (m<=cap.getD len)&&has mx (cap.getD len)) (.sl id sz (zg off l) (Nat.sub h l) (some (Nat.sub m l))) st
      |_,_,_=>.bad
    else .bad
   | .nil=>match pb lo 0,pb hi 0,mx with
    |some (c1,l),some (c2,h),none=>.HV (c1&&c2&&decide (l<=h)&&decide (h<=0)) .nil st
    |some (c1,l),some (c2,h),some q=>match hi,pb (some q) 0 with
     |some _,some (c3,m)=>.HV (c1&&c2&&c3&&decide (l<=h)&&decide (h<=m)&&decide (m<=0)) .nil st
     |_,_=>.bad
    |_,_,_=>.bad
   |_=>.bad
  |none=>.bad
 |_=>.bad
def cO(T:BS)(t:TypeId)(x:PV)(lo hi mx:Option PV)(st:AK):PO:=SQ T t (lz x) lo hi mx st
def pi64(n:Nat):PV:=.dat (.int .i64) (Int.ofNat n)
def TP(T:BS)(ts:Array TypeId)(args:List PV)(st:AK):PO:=
 match ts[0]?,args with
 |some t,[x]=>match T.und t,x with
  |some .string,.dat .str s=>.val (pi64 (s:List UInt8).length) st
  |some (.slice _),.dat (.list _) l=>.val (pi64 l.length) st
  |some (.slice _),.sl id _ _ len _=>bif HW (st.obj id)then .val (pi64 len) st else .bad
  |some (.slice _),.nil=>.val (pi64 0) st
  |some (.map _ _),.mp id=>match st.obj id with
   |some (.map _ _ l)=>.val (pi64 l.length) st
   |_=>.bad
  |_,_=>.bad
 |_,_=>.bad
def kF(T:BS)(ts:Array TypeId)(args:List PV)(st:AK):PO:=TP T ts (args.map lz) st
def vX(f:Int->Int->Int)(k:IntKind):Int->List PV->Option Int
 |x,[]=>some x
 |x,.dat (.int k') y::ys=>bif k==k' then vX f k (f x y) ys else none
 |_,_=>none
def Nk(f:Int->Int->Int)(args:List PV)(st:AK):PO:=
 match args with
 | .dat (.int k) x::ys=>match vX f k x ys with
  |some z=>.val (.dat (.int k) z) st
  |none=>.bad
 |_=>.bad
def imax(x y:Int):Int:=if y>x then y else x
def Es(x y:Int):Int:=if y<x then y else x
def M6(st:AK)(s:Sh)(x:PV):Option (Bool×List s.T):=
 match x with
 | .nil=>some (true,[])
 | .dat (.list s') l=>(DU (.list s') (.list s) l).map fun r=>(true,r)
 | .sl id sz off len _=>match st.obj id with
  |some (.arr _ _ s' l)=>bif zc sz s'.sz then(DU (.list s') (.list s) l).map fun r=>(decide (off+len<=r.length),(r.drop off).take len)else none
  |_=>none
 | .dat .str l=>(DU (.list (.int .u8)) (.list s) (List.map (fun b:UInt8=>(b.toNat:Int)) l)).map fun r=>(true,r)
 |_=>none
def Po(st:AK)(s:Sh)(x:PV):Option (Bool×List s.T):=M6 st s (lz x)
def uU:Nat:=281474976710656
def SF:TypeDesc->Bool
 | .slice _=>true
 | .string=>true
 |_=>false
def RS(T:BS)(ts:Array TypeId)(args:List PV)(st:AK):PO:=
 match ts[0]?,ts[1]?,args with
 |some t,some tx,[b,x]=>match T.und t,T.und tx with
  |some (.slice e),some dx=>bif SF dx then match T.inf e,V6 T 9 e with
   |some i,some s=>
    bif zj 0 i.bytes&&zj 0 i.size&&zc i.zero.length i.size&&zc i.size s.sz then
     match Po st s x with
     |some (c,new)=>match b with
      | .nil=>match x with
       | .nil=>.val .nil st
       | .dat _ _=>.ite (decide (0<new.length)) (.HV (c&&decide ((2*new.length+1000)*i.bytes<=uU)) (.sl st.nx s.sz 0 new.length none) (st.push (.arr false e s new))) (.val .nil st)
       | .sl _ _ _ _ (some _)=>.ite (decide (0<new.length)) (.HV (c&&decide ((2*new.length+1000)*i.bytes<=uU)) (.sl st.nx s.sz 0 new.length none) (st.push (.arr false e s new))) (.HV c .nil st)
       |_=>.HV (c&&decide (0<new.length)&&decide ((2*new.length+1000)*i.bytes<=uU)) (.sl st.nx s.sz 0 new.length none) (st.push (.arr false e s new))
      | .sl id sz off len cap=>match st.obj id with
       |some (.arr false e' s' l)=>match DU (.list s') (.list s) l with
        |some l'=>bif zc e e'&&zc sz s.sz then
          match cap with
          |none=>.HV (c&&decide (off=0)&&decide (len=l'.length)&&decide ((2*(len+new.length)+1000)*i.bytes<=uU)) (.sl st.nx s.sz 0 (zg len new.length) none) ((st.PJ id).push (.arr false e s (l'++new)))
          |some k=>.HV (c&&decide (len+new.length<=k)&&decide (off+k<=l'.length)) (.sl id sz off (zg len new.length) (some k)) (st.setObj id (.arr false e s (l'.take (off+len)++(new++l'.drop (off+len+new.length)))))
         else .bad
        |none=>.bad
       |_=>.bad
      |_=>.bad
     |none=>.bad
    else .bad
   |_,_=>.bad
   else .bad
  |_,_=>.bad
 |_,_,_=>.bad
def Vt(T:BS)(ts:Array TypeId)(args:List PV)(st:AK):PO:=
 match ts[0]?,args with
 |some t,[x]=>match T.und t with
  |some (.slice e)=>match x with
   | .nil=>.val (.tup []) st
   | .sl id sz off len _=>match T.inf e,st.obj id with
    |some i,some (.arr false e' s l)=>
     bif zc sz s.sz&&zj 0 i.zero.length&&zc i.zero.length s.sz&&KS V.one i.zero then
      match C1 s (i.zero.map Vq)with
      |some z=>.HV (decide (off+len<=l.length)) (.tup []) (st.setObj id (.arr false e' s (l.take off++(zl len z++l.drop (off+len)))))
      |none=>.bad
     else .bad
    |_,_=>.bad
   |_=>.bad
  |_=>.bad
 |_,_=>.bad
def Vy(args:List PV)(st:AK):PO:=
 match args with
 |[.sl id sz off len none]=>bif HW (st.obj id)then .HV (decide (0<len)) (.eptr id sz off 0) st else .bad
 |_=>.bad
def V8(l:List Int):List UInt8:=l.map fun x=>UInt8.ofNat x.toNat
def Qe(l:List Int):Bool:=l.all fun x=>decide (0<=x)&&decide (x<256)
def fN(T:BS)(ts:List TypeId)(args:List PV)(st:AK):PO:=
 match ts,args with
 |[pt,_],[.eptr id _ i 0,.dat (.int .i64) n]=>match T.und pt,st.obj id with
  |some (.pointer e),some (.arr false e' s l)=>match T.inf e,DU (.list s) (.list (.int .u8)) l with
   |some ti,some bs=>bif zc ti.size 1&&zc e e' then
     .HV (decide (i=0)&&decide (0<(n:Int))&&decide (ze n<=(bs:List Int).length)&&decide (ze n<=9223372036854775807)&&Qe bs) (.dat .str (V8 ((bs:List Int).take (ze n)))) (st.PJ id)
    else .bad
   |_,_=>.bad
  |_,_=>.bad
 |_,_=>.bad
def Is(T:BS)(b:Builtin)(ts:Array TypeId)(args:List PV)(st:AK):PO:=
 match b with
 | .len=>kF T ts args st
 | .append=>RS T ts args st
 | .max=>Nk imax args st
 | .min=>Nk Es args st
 | .clear=>Vt T ts args st
 | .unsafeSliceData=>Vy args st
 | .unsafeString=>fN T ts.toList args st
 |_=>.bad
def rune(s:List UInt8)(pos:Nat):Int:=(Utf8.decode (bytesOf s) pos).1
def qW(s:List UInt8)(pos:Nat):Nat:=(Utf8.decode (bytesOf s) pos).2
def Wy(T:BS)(t:TypeId)(x:PV)(st:AK):PO:=
 match T.und t,x with
 |some .string,.dat .str s=>.val (.ptr st.nx 0) (st.push (.siter s 0))
 |_,_=>.bad
def bD(x:PV)(isStr:Bool)(st:AK):PO:=
 match x,isStr with
 | .ptr id 0,true=>match st.obj id with
  |some (.siter s pos)=>.ite (decide (pos<s.length)) (.val (.tup [.bl true,.dat (.int .i64) (Int.ofNat pos),.dat (.int .i32) (rune s pos)]) (st.setObj id (.siter s (zg pos (qW s pos))))) (.val (.tup [.bl false]) st)
  |_=>.bad
 |_,_=>.bad
def Qt(st:AK)(place:Nat->Option (Nat×Nat))(cells:List PV):List (Nat×PV)->Option (List PV)
 |[]=>some cells
 |(i,v)::rest=>match place i with
  |none=>none
  |some (off,size)=>match vD st v with
   |some vs=>bif zc (DB vs) size&&zm (zg off size) (DB cells)then Qt st place (Ck off vs cells) rest else none
   |none=>none
def Wd(T:BS)(st:AK)(t:TypeId)(parts:List (Nat×PV)):Option PV:=
 match T.inf t,T.und t with
 |some i,some (.struct fs)=>
  match fs.toList.mapM (fun f=>(T.inf f.type).map fun j=>(f.offset,j.size))with
  |some pl=>(Qt st (fun i=>pl[i]?) (i.zero.map Vq) parts).map .agg
  |none=>none
 |some i,some (.array _ e)=>match T.inf e with
  |some j=>(Qt st (fun i=>some (i*j.size,j.size)) (i.zero.map Vq) parts).map .agg
  |none=>none
 |_,_=>none
def JP(z:List PV):Nat->List PV
 |0=>[]
 |n+1=>z++JP z n
def CD(st:AK):PV->Option (Bool×PV)
 | .sl id sz off len _=>match st.obj id with
  |some (.arr _ _ s l)=>bif zc sz s.sz then some (decide (off+len<=l.length),.dat (.list s) ((l.drop off).take len))else none
  |_=>none
 | .dat s x=>some (true,.dat s x)
 | .bl b=>some (true,.bl b)
 | .nil=>some (true,.nil)
 |_=>none
def EA(st:AK):List PV->Option (Bool×List PV)
 |[]=>some (true,[])
 |v::vs=>match CD st v,EA st vs with
  |some (c,x),some (d,xs)=>some (c&&d,x::xs)
  |_,_=>none
def Bz(st:AK):PV->AK
 | .sl id _ _ _ _=>match st.obj id with
  |some (.arr _ e s l)=>st.setObj id (.arr true e s l)
  |_=>st
 |_=>st
def Bq:List PV->AK->AK
 |[],st=>st
 |v::vs,st=>Bq vs (Bz st v)
def SG(T:BS)(t:TypeId)(len:Nat)(parts:List (Nat×PV))(st:AK):PO:=
 match T.und t with
 |some (.slice e)=>match T.inf e,V6 T 9 e with
  |some i,some s=>
   bif zm (zn len i.size) 16777216&&zj 0 i.zero.length&&zc i.zero.length i.size&&zc i.size s.sz then
    match Qt st (fun k=>some (k*i.size,i.size)) (JP (i.zero.map Vq) len) parts with
    |some cs=>match chunk s len cs with
     |some l=>.val (.sl st.nx s.sz 0 len none) (st.push (.arr false e s l))
     |none=>match EA st cs with
      |some (c,cs')=>match chunk s len cs' with
       |some l=>.HV c (.sl st.nx s.sz 0 len none) ((Bq cs st).push (.arr false e s l))
       |none=>.bad
      |none=>.bad
    |none=>.bad
   else .bad
  |_,_=>.bad
 |_=>.bad
def eJ(T:BS)(t:TypeId)(l c:PV)(st:AK):PO:=
 match T.und t,l,c with
 |some (.slice e),.dat (.int _) l,.dat (.int _) c=>match T.inf e,V6 T 9 e with
  |some i,some s=>
   bif zj 0 i.zero.length&&zc i.zero.length i.size&&zc i.size s.sz then
    match C1 s (i.zero.map Vq)with
    |some z=>.HV (decide (0<=(l:Int))&&decide ((l:Int)=(c:Int))&&decide (i.bytes*ze l<=uU)&&decide ((l:Int)<9223372036854775808)) (.sl st.nx s.sz 0 (ze l) none) (st.push (.arr false e s (zl (ze l) z)))
    |none=>.bad
   else .bad
  |_,_=>.bad
 |_,_,_=>.bad
def nN(T:BS)(t:TypeId):Option Sh:=match T.und t with
 |some (.int k)=>some (.int k)
 |some .string=>some .str
 |some .bool=>some .bool
 |_=>none
def Kt:PV->Bool
 | .agg _=>true
 |_=>false
def yN(s:Sh)(p:PV):Option s.T:=bif Kt p==s.PW then C1 s p.cells else none
def VR(T:BS)(t:TypeId)(st:AK):PO:=match T.und t with
 |some (.map kt e)=>match nN T kt,V6 T 9 e with
  |some ks,some vs=>.val (.mp st.nx) (st.push (.map ks vs []))
  |_,_=>.bad
 |_=>.bad
def cR(st:AK)(ks vs:Sh)(m:PV):Option (List (ks.T×vs.T)):=match m with
 | .nilm=>some []
 | .mp id=>match st.obj id with
  |some (.map ks' vs' l)=>DU (.list (.pair ks' vs')) (.list (.pair ks vs)) l
  |_=>none
 |_=>none
def xI:V->Bool
 | .agg _=>true
 |_=>false
def wJ(ks vs:Sh)(ok:Bool)(z:vs.T)(x:ks.T)(st:AK):List (ks.T×vs.T)->PO
 |[]=>.val (bif ok then .tup [Cb vs z,.bl false]else Cb vs z) st
 |(a,b)::l=>.ite (qC ks x a) (.val (bif ok then .tup [Cb vs b,.bl true]else Cb vs b) st) (wJ ks vs ok z x st l)
def Sj(T:BS)(t:TypeId)(m k:PV)(ok:Bool)(st:AK):PO:=match T.und t with
 |some (.map kt e)=>match nN T kt,V6 T 9 e,T.inf e with
  |some ks,some vs,some i=>match nY ks k,cR st ks vs m,C1 vs (i.zero.map Vq)with
   |some x,some l,some z=>
    bif xI i.zv==vs.PW then bif vs.oF then wJ ks vs ok z x st l else
     (let v:=Cb vs ((Kf ks vs x l).getD z)
     .val (bif ok then .tup [v,.dat .bool (Kf ks vs x l).isSome]else v) st)
    else .bad
   |_,_,_=>.bad
  |_,_,_=>.bad
 |_=>.bad
def Sx(T:BS)(t:TypeId)(m k v:PV)(st:AK):PO:=match T.und t,m with
 |some (.map kt _),.mp id=>match nN T kt,st.obj id with
  |some ks,some (.map ks' vs l)=>match nY ks k,DU (.list (.pair ks' vs)) (.list (.pair ks vs)) l,yN vs v with
   |some x,some l,some y=>.val (.tup []) (st.setObj id (.map ks vs (Rj ks vs x y l)))
   |_,_,_=>.bad
  |_,_=>.bad
 |_,_=>.bad
def SV(T:BS)(ts:Array TypeId)(args:List PV)(st:AK):PO:=match ts[0]?,args with
 |some t,[.mp id,k]=>match T.und t with
  |some (.map kt _)=>match nN T kt,st.obj id with
   |some ks,some (.map ks' vs l)=>match nY ks k,DU (.list (.pair ks' vs)) (.list (.pair ks vs)) l with
    |some x,some l=>.val (.tup []) (st.setObj id (.map ks vs (RV ks vs x l)))
    |_,_=>.bad
   |_,_=>.bad
  |_=>.bad
 |_,_=>.bad
abbrev Lj:=BS->AK->PO
def v1(st:AK)(x:Operand)(k:PV->PO):PO:=match P2 st x with|some v=>k v|none=>.bad
def VI(x:Operand):Lj:=fun _ st=>ov st (P2 st x)
def iK(c a b:Operand):Lj:=fun _ st=>v1 st c fun c=>v1 st a fun a=>v1 st b fun b=>bC c a b st
def pV(T:BS)(t:TypeId):Bool:=
 match T.und t with
 |some (.struct fs)=>match fs[0]? with
  |some f=>match T.und f.type with
   |some (.pointer u)=>zc u t
   |_=>false
  |none=>false
 |_=>false
def Rt(t:TypeId):Lj:=fun T st=>match sC T t with
 |some (s,n)=>.val (.ptr st.nx 0) (st.push (.arr false t s (zl n s.Ht)))
 |none=>match iX T t with|some cs=>.val (.ptr st.nx 0) (st.push (bif pV T t then .tbox t cs else .box cs))|none=>.bad
def qK(_:TypeId)(x:Operand):Lj:=fun _ st=>v1 st x fun v=>match vD st v with|some cs=>bif KS (JG st) cs then .val (.ptr st.nx 0) (st.push (.box cs))else .bad|none=>.bad
def Yv(t:TypeId)(ps:Array (Nat×Operand)):Lj:=fun T st=>match ZK st ps.toList with|some l=>ov st (Wd T st t l)|none=>.bad
def Uz(t:TypeId)(n:Nat)(ps:Array (Nat×Operand)):Lj:=fun T st=>match ZK st ps.toList with|some l=>SG T t n l st|none=>.bad
def cL(t:TypeId)(x:Operand):Lj:=fun T st=>v1 st x fun a=>ML T st t a
def WW(t:TypeId)(x y:Operand):Lj:=fun T st=>v1 st x fun a=>v1 st y fun b=>Wx T st t a b
def NZ(x:Operand):Lj:=fun _ st=>v1 st x fun a=>match a with| .ptr id _| .eptr id _ _ _=>bif HW (st.obj id)then .val a st else .bad| .FO .. =>.val a st|_=>.bad
def qQ(T:BS)(op:BinOp)(t:TypeId)(x y:Operand)(a b:PV):Option Bool:=
 match op,a,b,T.und t with
 | .eql,.nili,.nili,some (.interface _)=>bif WY x||WY y then some true else none
 | .neq,.nili,.nili,some (.interface _)=>bif WY x||WY y then some false else none
 |_,_,_,_=>none
def pR(op:BinOp)(t:TypeId)(x y:Operand)(_:TypeId):Lj:=fun T st=>v1 st x fun a=>v1 st y fun b=>match qQ T op t x y a b with|some r=>.val (.bl r) st|none=>rO T op t a b st
def xJ(op:UnOp)(_:TypeId)(x:Operand):Lj:=fun _ st=>v1 st x fun a=>zB op a st
def aH(s d:TypeId)(x:Operand):Lj:=fun T st=>v1 st x fun a=>dR T s d a st
def gQ(f:Fn)(a b:Array Operand):Lj:=fun _ st=>match Mm st a.toList,Mm st b.toList with|some x,some y=>.val (.fn f x y) st|_,_=>.bad
def eW(t:TypeId)(l c:Operand):Lj:=fun T st=>v1 st l fun a=>v1 st c fun b=>eJ T t a b st
def o1(st:AK)(x:Option Operand)(k:Option PV->PO):PO:=match x with|none=>k none|some y=>v1 st y fun v=>k (some v)
def Xe(t:TypeId)(x:Operand)(a b c:Option Operand):Lj:=fun T st=>v1 st x fun v=>o1 st a fun l=>o1 st b fun h=>o1 st c fun m=>cO T t v l h m st
def XN(t:TypeId)(x:Operand)(f:Nat):Lj:=fun T st=>v1 st x fun a=>Wb T t a f st
def XA(t:TypeId)(x:Operand)(f:Nat):Lj:=fun T st=>v1 st x fun a=>U9 T t a f st
def WT(t:TypeId)(x i:Operand):Lj:=fun T st=>v1 st x fun a=>v1 st i fun b=>fX T t a b st
def X6(t:TypeId)(x i:Operand):Lj:=fun T st=>v1 st x fun a=>v1 st i fun b=>WH T t a b st
def Qc(x:Operand)(i:Nat):Lj:=fun _ st=>v1 st x fun a=>OF a i st
def Sd(c:Call):Lj:=fun T st=>
 match Mm st c.args.toList with
 |none=>.bad
 |some args=>match c.callee with
  | .builtin b=>match b with
   | .delete=>SV T c.argTypes args st
   |_=>Is T b c.argTypes args st
  |_=>.bad
def WN(t:TypeId)(r:Option Operand):Lj:=fun T st=>match r with|none=>VR T t st|some _=>.bad
def UO(t:TypeId)(x i:Operand)(ok:Bool):Lj:=fun T st=>v1 st x fun a=>v1 st i fun b=>Sj T t a b ok st
def Py(t:TypeId)(m k x:Operand):Lj:=fun T st=>v1 st m fun a=>v1 st k fun b=>v1 st x fun c=>Sx T t a b c st
def Xh(t:TypeId)(x:Operand):Lj:=fun T st=>v1 st x fun a=>Wy T t a st
def fG(x:Operand)(isStr:Bool):Lj:=fun _ st=>v1 st x fun a=>bD a isStr st
def Jp:Lj:=fun _ _=>.bad
def pop(o:Op):Lj:=@Op.casesOn (fun _=>Lj) o VI VI iK Rt qK Yv Uz Py cL WW (fun _=>Jp) (fun _=>Jp) NZ pR xJ aH
 (fun _ _=>Jp) (fun _ _=>Jp) gQ WN (fun _ _=>Jp) eW Xe XN XA WT X6 UO Py (fun _ _ _=>Jp) (fun _ _ _ _=>Jp)
 Xh fG (fun _=>Jp) (fun _ _ _ _=>Jp) Qc Sd (fun _=>Jp) (fun _=>Jp) (fun _=>Jp) (fun _ _=>Jp) (fun _ _ _=>Jp) (fun _ _=>Jp)
end Go.Pe
namespace Go.Det
section
abbrev U1:=FuncId->Option (List V->H->Option (V×H))
def JT(P:Program)(s:U1):Prop:=∀f q,s f=some q->∀(p:Pl) (h:H) (w:World) (args:List V) (args':Array Value) v h',R p h w->Gp p->As p args args'.toList->q args h=some (v,h')->
 Calls P f args' w fun e w'=>∃v' p',e=.returned v'/\Ac p' v v'/\Ext p h w p' h' w'
def pQ(a b:U1):U1:=fun f=>match a f with
 |some q=>some q
 |none=>b f
variable {P:Program}
theorem Lz{a b:U1}(ha:JT P a)(hb:JT P b):JT P (pQ a b):=by
 intro f q hq;unfold pQ at hq;cases h:a f with
 |some q'=>rw[h]at hq;cases hq;exact ha f _ h
 |none=>rw[h]at hq;exact hb f q hq
def Xq(C:Ctx)(s:U1):Ctx:={ C with spec:=s }
theorem Td{C:Ctx}(hC:C.Ok P){s:U1}(h:JT P s):(Xq C s).Ok P where
 T:=hC.T
 fn:=hC.fn
 prim:=hC.prim
 spec:=h
theorem Mx{C:Ctx}(hce:Ga C)(s:U1):Ga (Xq C s):=hce
theorem R1{C:Ctx}(hC:C.Ok P)(hce:Ga C)(hm:P.follows .mixedOrders=true){n:Nat}{L:GX}(h:BV C n L=true):JT P (GA L):=jN (C':=C) hC hce hm h
theorem CH{C:Ctx}{n:Nat}:∀ {a b:GX},BV C n a=true->BV C n b=true->BV C n (a++b)=true
 |[],b,_,h=>h
 |(f,x,v)::a,b,h,k=>by
  simp only[BV,List.cons_append,Bool.and_eq_true]at h ⊢;exact⟨h.1,CH h.2 k⟩
def R4(C:Ctx)(n:Nat)(L:GX):U1:=fun f=>match GA L f with
 |none=>none
 |some q=>some fun args h=>match q args h with
  |some x=>some x
  |none=>match Bj C n (.fn f args) h with
   |some [x]=>some x
   |_=>none
theorem Zq{C:Ctx}(hC:C.Ok P)(hce:Ga C)(hm:P.follows .mixedOrders=true){n k:Nat}{L:GX}(ha:BV C k L=true):JT P (R4 C n L):=by
 intro f q hq p h w args args' v h' hr hg hargs hqr;unfold R4 at hq;cases hL:GA L f with
 |none=>rw[hL]at hq;cases hq
 |some q0=>
  rw[hL]at hq;cases hq;simp only at hqr;split at hqr
  case h_1=>rename_i x hx;cases hqr;exact R1 hC hce hm ha f q0 hL p h w args args' v h' hr hg hargs hx
  case h_2=>
   split at hqr
   case h_2=>cases hqr
   rename_i x he;cases hqr;refine((Il hC hce hm n).fn f args h _ he p w args' hr hg hargs).mono ?_;rintro e w' ⟨v1,h1,v',p',hmem,rfl,k1,k2⟩;cases List.mem_singleton.1 hmem;exact⟨v',p',rfl,k1,k2⟩
theorem IT{p:Pl}{h:H}{w w':World}(hr:R p h w)(hb:Go.RowKit.Below w.heap.size w w'):Ext p h w p h w':=by
 obtain⟨h1,h2,h3,h4,h5⟩:=hb;refine⟨⟨[],by simp⟩,⟨hr.len,fun b o hb=>?_,hr.inj⟩,h4,fun r hlt _=>h5 r hlt,fun r hi=>.inl hi,h1,h3,h2,fun r hlt hl=>⟨h5 r hlt,.inl hl⟩⟩;obtain⟨r,m,y,g1,g2,g3⟩:=hr.obj b o hb;exact⟨r,m,y,g1,by rw[h5 r (Array.getElem?_eq_some_iff.1 g2).1];exact g2,g3⟩
end
end Go.Det
