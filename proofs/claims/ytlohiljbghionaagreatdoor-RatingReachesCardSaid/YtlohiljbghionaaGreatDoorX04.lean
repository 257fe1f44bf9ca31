import Derived.Test.YtlohiljbghionaaGreatDoorX03
import Derived.Below
/- A part of a proof; no law is stated here. -/
noncomputable section
open Nat renaming beq -> zc, add -> ze, blt -> zg, ble -> zl, mul -> zm
open Int renaming toNat -> zd
open BitVec renaming ofInt -> zf
open Bool renaming and_eq_true -> zh
open Go.Op renaming bytesLess -> zi
open List renaming replicate -> zj
open Go.Utf8 renaming decode -> zk
namespace Go.Det
section
def PD(P:Program):Nat->Nat->Bool
 |0,_=>true
 |n+1,a=>(match Ra P (fun _=>true) a with|some i=>DY i.body|none=>true)&&PD P n (a+1)
variable {P:Program}
theorem Rh{ct:FuncId->Bool}{f:FuncId}{i:Fn}(a:Ra P ct f=some i):Ra P (fun _=>true) f=some { i with cert:=true }/\i.cert=ct f:=by
 unfold Ra at a ⊢;cases d:P.funcs[f]? with
 |none=>rw[d]at a;cases a
 |some fn=>
  rw[d]at a;simp only at a ⊢;cases c:fn.body with
  |none=>rw[c]at a;cases a
  |some b=>
   rw[c]at a;simp only at a ⊢;split at a
   ·cases a
   ·rename_i e;rw[wc e];cases a;exact⟨rfl,rfl⟩
theorem IZ{f:Nat}{i:Fn}{ct:FuncId->Bool}(b:Ra P ct f=some i):∀ {n a:Nat},PD P n a=true->a<=f->f<a+n->DY i.body=true
 |0,a,_,c,d=>by omega
 |n+1,a,h,c,d=>by
  simp only[PD,zh]at h;by_cases e:a=f
  ·subst e;rw[(Rh b).1]at h;exact h.1
  ·exact IZ b h.2 ae ae
def mkC(P:Program)(N:Nat)(L:List (FuncId×PK)):Ctx:=⟨yE P,0,Ra P<|fun f=>zg f N,SC L,fun _=>none,true⟩
theorem Z6{N:Nat}{L:List (FuncId×PK)}(h:∀f i,f<N->Ra P (fun f=>zg f N) f=some i->DY i.body=true):Gy (mkC P N L):=by
 intro f i a b;have a:Ra P (fun f=>zg f N) f=some i:=a;rw[(Rh a).2]at b;exact h f i (Nat.le_of_ble_eq_true b) a
theorem Aay{N:Nat}{L:List (FuncId×PK)}(d:∀x∈L,Kl P x):(mkC P N L).Ok P where
 T:=Abw P
 fn:=fun _ _ h=>xJ (P:=P) (ct:=fun f=>zg f N) h
 prim:=fun f q a p h w args args' v h' hr _ c b=>Y4 d f q a p h w args args' v h' hr c b
 spec:=fun f q a=>by cases a
end
end Go.Det
namespace Go.Pe
open Go.Det
inductive Sh where
 |int (k:IntKind)
 |bool
 |str
 |list (s:Sh)
 |pair (a b:Sh)
 |unit
 |nlist (s:Sh)
 |fnv
 |ptr (s:Sh)
 deriving DecidableEq
@[reducible] def Sh.T:Sh->Type
 | .int _=>Int
 | .bool=>Bool
 | .str=>Z
 | .list s=>List s.T
 | .pair a b=>a.T×b.T
 | .unit=>Unit
 | .nlist s=>List s.T
 | .fnv=>Option Fn
 | .ptr s=>s.T
def Sh.Hb:(s:Sh)->s.T
 | .int _=>(0:Int)
 | .bool=>false
 | .str=>([]:Z)
 | .list _=>[]
 | .pair a b=>(a.Hb,b.Hb)
 | .unit=>()
 | .nlist _=>[]
 | .fnv=>none
 | .ptr s=>s.Hb
def Sh.sz:Sh->Nat
 | .pair a b=>ze a.sz b.sz
 | .unit=>0
 |_=>1
inductive PV where
 |any
 |bl (b:Bool)
 |ub
 |dat (s:Sh) (x:s.T)
 |nil|nilp|nilm|nilf|nili
 |agg (l:List PV)
 |tup (l:List PV)
 |ptr (id off:Nat)
 |eptr (id sz i off:Nat)
 |BF (s:Sh) (x:s.T) (off:Nat)
 |sl (id sz off len:Nat) (cap:Option Nat)
 |mp (id:Nat)
 |fn (f:Fn) (first captured:List PV)
 |yl (id:Nat)
inductive LpS where
 |ready|busy|ret
 |exit (i:Nat)
inductive Obj where
 |arr (fz:Bool) (e:TypeId) (s:Sh) (l:List s.T)
 |box (cs:List PV)
 |tbox (t:TypeId) (cs:List PV)
 |map (ks vs:Sh) (l:List (ks.T×vs.T))
 |siter (s:Z) (pos:Nat)
 |lp (f:FuncId) (r:Nat) (ps:Array Tmp) (asg body:Code) (s:LpS) (n:Nat) (sl:List (Nat×PV))
abbrev Ob:=List<|Nat×Obj
def AP:Ob->Nat->Option Obj
 |[],_=>none
 |(i,o)::l,j=>bif zc i j then some o else AP l j
def DW:Ob->Nat->Obj->Ob
 |[],_,_=>[]
 |(i,o)::l,j,x=>bif zc i j then(i,x)::l else(i,o)::DW l j x
def GP:Ob->Nat->Ob
 |[],_=>[]
 |(i,o)::l,j=>bif zc i j then GP l j else(i,o)::GP l j
structure AL where
 n:Nat
 fr:PM PV
 ob:Ob
 nx:Nat
def AL.get(st:AL)(t:Nat):PV:=(st.fr.get t).getD .any
def AL.obj(st:AL)(id:Nat):Option Obj:=AP st.ob id
def AL.set(st:AL)(t:Nat)(v:PV):AL:=⟨st.n,st.fr.set t<|some v,st.ob,st.nx⟩
def AL.setObj(st:AL)(id:Nat)(o:Obj):AL:=⟨st.n,st.fr,DW st.ob id o,st.nx⟩
def AL.PQ(st:AL)(id:Nat):AL:=⟨st.n,st.fr,GP st.ob id,st.nx⟩
def AL.push(st:AL)(o:Obj):AL:=⟨st.n,st.fr,(st.nx,o)::st.ob,ze st.nx 1⟩
def AL.put(st:AL)(d:Option Nat)(v:PV):Option AL:=
 match d with
 |none=>some st
 |some t=>bif zg t st.n then some (st.set t v)else none
def FM(vs:List (Nat×PV)):PM PV:=vs.foldl (fun m x=>m.set x.1<|some x.2) .leaf
def flat:(s:Sh)->s.T->List PV
 | .pair a b,(x,y)=>flat a x++flat b y
 | .unit,_=>[]
 | .fnv,x=>[match (x:Option Fn)with|some f=>.fn f [] []|none=>.nilf]
 | .ptr s,x=>[.BF s x 0]
 |s,x=>[.dat s x]
def DP(s a:Sh)(x:s.T):Option a.T:=if h:s=a then some (h▸x)else none
def asP(a:Sh)(x:a.T):(s:Sh)->Option s.T
 | .ptr s=>DP a s x
 |_=>none
def sD(s:Sh)(v:PV):Option s.T:=
 match v with
 | .BF a x 0=>asP a x s
 | .dat a x=>DP a s x
 | .bl b=>DP .bool s b
 | .fn f [] []=>DP .fnv s<|some f
 | .nilf=>DP .fnv s none
 | .nil=>match s with
  | .list _=>some []
  | .nlist _=>some []
  |_=>none
 |_=>none
def Cx:(s:Sh)->List PV->Option (s.T×List PV)
 | .pair a b,l=>match Cx a l with
  |some (x,l1)=>match Cx b l1 with
   |some (y,c)=>some ((x,y),c)
   |none=>none
  |none=>none
 | .unit,l=>some ((),l)
 |s,v::l=>match sD s v with
  |some x=>some (x,l)
  |none=>none
 |_,[]=>none
def Dn(s:Sh)(l:List PV):Option s.T:=
 match Cx s l with
 |some (x,[])=>some x
 |_=>none
def PV.cells:PV->List PV
 | .agg cs=>cs
 |v=>[v]
def YU(ty:TypeId->Option Sh):List Field->Option Sh
 |[]=>none
 |[x]=>ty x.type
 |x::xs=>match ty x.type,YU ty xs with
  |some a,some b=>some<|.pair a b
  |_,_=>none
def nlf:Option Sh->Option Sh
 |some (.list<|.int .u64)=>some<|.nlist<|.int .u64
 |s=>s
def lz:PV->PV
 | .dat (.nlist s) x=>.dat (.list s) x
 |v=>v
def Sh.leaves:Sh->List Sh
 | .pair a b=>a.leaves++b.leaves
 | .unit=>[]
 |s=>[s]
def U0:Sh->PV->Bool×PV
 | .nlist s,.dat (.list a) x=>bif s==a then(decide (0<x.length),.dat (.nlist a) x)else(true,.dat (.list a) x)
 | .list s,.dat (.nlist a) x=>bif s==a then(true,.dat (.list a) x)else(true,.dat (.nlist a) x)
 |_,v=>(true,v)
def K1:List Sh->List PV->Bool×List PV
 |s::l,v::vs=>((U0 s v).1&&(K1 l vs).1,(U0 s v).2::(K1 l vs).2)
 |_,vs=>(true,vs)
def XA(T:B6):Nat->TypeId->Option Sh
 |0,_=>none
 |f+1,t=>match T.und t with
  |some (.int k)=>some<|.int k
  |some .bool=>some .bool
  |some .string=>some .str
  |some (.slice e)=>(XA T f e).map .list
  |some (.func _ _ _)=>some .fnv
  |some (.struct fs)=>YU (fun x=>nlf<|XA T f x) fs.toList
  |_=>none
def Sh.qR:Sh->Bool
 | .pair a b=>a.qR||b.qR
 | .fnv=>true
 |_=>false
def Ci:(s:Sh)->s.T->PV
 | .pair a b,x=>.agg<|flat (.pair a b) x
 | .unit,_=>.agg []
 | .fnv,x=>match (x:Option Fn)with|some f=>.fn f [] []|none=>.nilf
 | .ptr s,x=>.BF s x 0
 |s,x=>.dat s x
def Sh.QU:Sh->Bool
 | .pair _ _| .unit=>true
 |_=>false
def Wo:(s:Sh)->s.T->s.T->Bool
 | .int _,a,b=>(a:Int)==b
 | .bool,a,b=>(a:Bool)==b
 | .str,a,b=>(a:Z)==b
 |_,_,_=>false
def EJ(s v:Sh)(k:s.T):List (s.T×v.T)->Option v.T
 |[]=>none
 |(a,b)::l=>bif Wo s k a then some b else EJ s v k l
def Io(s v:Sh)(k:s.T)(x:v.T):List (s.T×v.T)->List (s.T×v.T)
 |[]=>[(k,x)]
 |(a,b)::l=>bif Wo s k a then(k,x)::l else(a,b)::Io s v k x l
def T1(s v:Sh)(k:s.T):List (s.T×v.T)->List (s.T×v.T)
 |[]=>[]
 |(a,b)::l=>bif Wo s k a then l else(a,b)::T1 s v k l
inductive Tr where
 |fail
 |leaf (v:PV) (ob:Ob)
 |ite (c:Bool) (a b:Tr)
 |both (a b:Tr)
 |cut (nd ro:Bool) (d:Nat) (f:FuncId) (base:Nat) (b:Code) (st:AL) (k:DX->AL->Tr)
 |alts (m:Nat) (f:Nat->Tr)
 |loop (nd ro:Bool) (d:Nat) (f:FuncId) (base:Nat) (b:Code) (st:AL) (k:DX->AL->Tr)
abbrev Tr.ck(c:Bool)(x:Tr):Tr:=.ite c x .fail
abbrev Tr.cd(P:Prop)[Decidable P](x:Tr):Tr:=.ite (decide P) x .fail
abbrev aa(k:Nat):Bool:=decide (1<=1)&&decide (0<1)&&decide ((3*1+2000)*k<=562949953421312)
abbrev ac(n m k:Nat):Bool:=decide (1<=1)&&true&&decide (n=m)&&decide ((3*(n+1)+2000)*k<=562949953421312)
abbrev Tr.di(P:Prop)[Decidable P](x y:Tr):Tr:=.ite (decide P) x y
inductive PO where
 |bad
 |val (v:PV) (st:AL)
 |ite (c:Bool) (a b:PO)
def PO.It(c:Bool)(v:PV)(st:AL):PO:=.ite c (.val v st) .bad
mutual
def NF:Value->Option PV
 | .bool b=>some<|.bl b
 | .int k n=>some<|.dat (.int k) n
 | .string s=>some<|.dat .str s.data.toList
 | .pointer none=>some .nilp
 | .slice none 0 0=>some .nil
 | .map none=>some .nilm
 | .nilFunc=>some .nilf
 | .nilIface=>some .nili
 | .func f ⟨[]⟩ ⟨[]⟩=>some<|.fn f [] []
 | .agg ⟨cs⟩=>(dK cs).map .agg
 | .tuple ⟨cs⟩=>(dK cs).map .tup
 |_=>none
def dK:List Value->Option (List PV)
 |[]=>some []
 |v::vs=>match NF v,dK vs with
  |some x,some xs=>some (x::xs)
  |_,_=>none
end
def X0:V->PV
 | .bool b=>.bl b
 | .int k n=>.dat (.int k) n
 | .str s=>.dat .str s
 | .nilp=>.nilp
 | .nils=>.nil
 | .nilm=>.nilm
 | .nilf=>.nilf
 | .nili=>.nili
 |_=>.any
def QX(st:AL):Operand->Option PV
 | .tmp t=>some<|st.get t
 | .const v=>NF v
 | .global _=>none
 | .func f=>some<|.fn (.func f) [] []
def MY(st:AL):List Operand->Option (List PV)
 |[]=>some []
 |x::xs=>match QX st x,MY st xs with
  |some v,some vs=>some (v::vs)
  |_,_=>none
def cW(st:AL):List (Nat×Operand)->Option (List<|Nat×PV)
 |[]=>some []
 |(i,x)::xs=>match QX st x,cW st xs with
  |some v,some vs=>some ((i,v)::vs)
  |_,_=>none
def gY(T:B6)(t:TypeId):Option (List PV):=(T.inf t).bind fun i=>bif KZ V.ok i.zero then some (i.zero.map X0)else none
def pick(d:TypeDesc)(n:Nat)(cs:List PV):Option PV:=
 bif D8 d then(bif zl n (EN cs)&&zg 0 n then some (.agg<|YR n cs)else none)
 else match cs with
  |v::_=>some v
  |[]=>none
def ov(st:AL):Option PV->PO
 |some v=>.val v st
 |none=>.bad
def ovc(c:Bool)(st:AL):Option PV->PO
 |some v=>.It c v st
 |none=>.bad
def chunk(s:Sh):Nat->List PV->Option (List s.T)
 |0,_=>some []
 |n+1,cs=>match Cx s cs with
  |some (x,cs')=>(chunk s n cs').map (x:: ·)
  |none=>none
def Pj(s:Sh)(l:List s.T):Nat->Nat->List PV
 |_,0=>[]
 |j,n+1=>flat s (l.getD j s.Hb)++Pj s l (ze j 1) n
def zsh:List V->Option Sh
 | .bool _::_=>some .bool
 | .int k _::_=>some<|.int k
 |_=>none
def isZ:Sh->V->Bool
 | .bool,.bool b=> !b
 | .int k,.int a n=>decide (k=a)&&decide (n=0)
 |_,_=>false
def Aba(T:B6)(t:TypeId):Option (Sh×Nat):=
 match T.und t,T.inf t with
 |some (.array _ _),some i=>match zsh i.zero with
  |some s=>bif zl 32 (EN i.zero)&&KZ (isZ s) i.zero then some (s,EN i.zero)else none
  |none=>none
 |_,_=>none
def Ni(T:B6)(st:AL)(t:TypeId)(a:PV):PO:=
 match T.und t,T.inf t with
 |some d,some i=>match a with
  | .ptr id off=>match st.obj id with
   |some (.box cs)=>ov st<|pick d i.size<|JX off cs
   |some (.arr _ _ s l)=>bif zc off 0&&zc s.sz 1 then ovc (decide (l.length=i.size)) st (pick d i.size<|Pj s l 0 i.size)else .bad
   |some (.tbox _ cs)=>ov st<|pick d i.size<|JX off cs
   |_=>.bad
  | .eptr id sz j off=>match st.obj id with
   |some (.arr _ _ s l)=>bif zc sz s.sz then ovc (decide (j<l.length)) st (pick d i.size<|JX off<|flat s<|l.getD j s.Hb)else .bad
   |_=>.bad
  | .BF s x off=>ov st<|pick d i.size<|JX off<|flat s x
  |_=>.bad
 |_,_=>.bad
def Is:Option Obj->Bool
 |some _=>true
 |none=>false
def J8(st:AL):PV->Bool
 | .agg _| .tup _| .any| .ub=>false
 | .ptr id _| .eptr id _ _ _| .sl id _ _ _ _| .mp id| .yl id=>Is<|st.obj id
 |_=>true
def pcs(st:AL):PV->Option (List PV)
 | .agg l=>some l
 |p=>bif J8 st p then some [p]else none
def WZ(T:B6)(st:AL)(t:TypeId)(a x:PV):PO:=
 match T.inf t,pcs st x with
 |some i,some xs=>bif zc (EN xs) i.size&&KZ (J8 st) xs then
   match a with
   | .ptr id off=>match st.obj id with
    |some (.box cs)=>bif zl (ze off i.size) (EN cs)then .val (.tup []) (st.setObj id<|.box<|CE off xs cs)else .bad
    |some (.arr false e s l)=>bif zc off 0&&zc s.sz 1 then
      match chunk s i.size xs with
      |some y=>.It (decide (l.length=i.size)) (.tup [])<|st.setObj id<|.arr false e s y
      |none=>.bad
     else .bad
    |some (.tbox tb cs)=>bif zl (ze off i.size) (EN cs)then .val (.tup []) (st.setObj id<|.tbox tb<|CE off xs cs)else .bad
    |_=>.bad
   | .eptr id sz j off=>match st.obj id with
    |some (.arr false e s l)=>bif zc sz s.sz&&zl (ze off i.size) sz then
      match Dn s (CE off xs<|flat s<|l.getD j s.Hb)with
      |some y=>.It (decide (j<l.length)) (.tup [])<|st.setObj id<|.arr false e s<|l.set j y
      |none=>.bad
     else .bad
    |_=>.bad
   |_=>.bad
  else .bad
 |_,_=>.bad
def H4(k:IntKind)(a b:Int):Int:=k.wrap (zf k.bits a&&&zf k.bits b).toNat
def aL(k:IntKind)(a b:Int):Int:=k.wrap (zf k.bits a|||zf k.bits b).toNat
def Ad6(k:IntKind)(a b:Int):Int:=k.wrap (zf k.bits a^^^zf k.bits b).toNat
def AcN(k:IntKind)(a b:Int):Int:=k.wrap (zf k.bits a&&& ~~~zf k.bits b).toNat
def Aaf(op:BinOp)(k:IntKind)(a b:Int)(st:AL):PO:=
 match op with
 | .add=>.val (.dat (.int k)<|k.wrap<|a+b) st
 | .sub=>.val (.dat (.int k)<|k.wrap<|a-b) st
 | .mul=>.val (.dat (.int k)<|k.wrap<|a*b) st
 | .quo=>.It (decide (b≠0)) (.dat (.int k)<|k.wrap<|a.tdiv b) st
 | .rem=>.It (decide (b≠0)) (.dat (.int k)<|a.tmod b) st
 | .and=>.val (.dat (.int k)<|H4 k a b) st
 | .or=>.val (.dat (.int k)<|aL k a b) st
 | .xor=>.val (.dat (.int k)<|Ad6 k a b) st
 | .andNot=>.val (.dat (.int k)<|AcN k a b) st
 | .eql=>.val (.dat .bool<|a==b) st
 | .neq=>.val (.dat .bool<|a !=b) st
 | .lss=>.val (.dat .bool<|decide (a<b)) st
 | .leq=>.val (.dat .bool<|decide (a<=b)) st
 | .gtr=>.val (.dat .bool<|decide (a>b)) st
 | .geq=>.val (.dat .bool<|decide (a>=b)) st
 |_=>.bad
def psh(op:BinOp)(k:IntKind)(a b:Int)(st:AL):PO:=
 match op with
 | .shl=>.It (decide (0<=b)) (.dat (.int k)<|k.wrap<|a*2^(min b.toNat k.bits)) st
 | .shr=>.It (decide (0<=b)) (.dat (.int k)<|a.fdiv<|2^(min b.toNat k.bits)) st
 |_=>.bad
def AbK(op:BinOp)(x y:Z)(st:AL):PO:=
 match op with
 | .add=>.It (decide (x.length+y.length<=4611686018427387904)) (.dat .str<|x++y) st
 | .eql=>.val (.dat .bool<|x==y) st
 | .neq=>.val (.dat .bool<|!(x==y)) st
 | .lss=>.val (.dat .bool<|zi x y) st
 | .leq=>.val (.dat .bool<|zi x y||x==y) st
 | .gtr=>.val (.dat .bool<|!(zi x y||x==y)) st
 | .geq=>.val (.dat .bool<|!zi x y) st
 |_=>.bad
def uW:BinOp->Bool
 | .shl| .shr=>true
 |_=>false
def Jp:PV->Option Bool
 | .bl b=>some b
 | .dat .bool b=>some b
 |_=>none
def Hc:List FK->List PV->List PV->Option Bool
 |[],[],[]=>some true
 | .int k::ks,.dat (.int d) a::xs,.dat (.int e) b::c=>bif k==d&&k==e then(Hc ks xs c).map fun r=>(a:Int)==(b:Int)&&r else none
 | .str::ks,.dat .str a::xs,.dat .str b::c=>(Hc ks xs c).map fun r=>(a:Z)==(b:Z)&&r
 | .bool::ks,a::xs,b::c=>match Jp a,Jp b with
  |some a,some b=>(Hc ks xs c).map fun r=>a==b&&r
  |_,_=>none
 |_,_,_=>none
def TP(st:AL)(ng:Bool)(x:PV):PO:=
 match x with
 | .nil=>.val (.bl<|!ng) st
 | .sl id _ _ _ _=>bif Is (st.obj id)then .val (.bl ng) st else .bad
 | .dat (.list _) l=>.ite (decide (0<l.length)) (.val (.bl ng) st)<|.val .ub st
 | .dat (.nlist _) l=>.val (.dat .bool<|bif ng then decide (0<l.length)else !decide (0<l.length)) st
 |_=>.bad
def jW(op:BinOp)(x y:PV)(st:AL):PO:=
 match op,x,y with
 | .eql,x,.nil=>TP st false x
 | .neq,x,.nil=>TP st true x
 |_,_,_=>.bad
def ptrEq(T:B6)(e:TypeId)(st:AL)(x y:PV):Option Bool:=
 match x,y with
 | .nilp,.nilp=>some true
 | .ptr id _,.nilp=>bif Is (st.obj id)then some false else none
 | .nilp,.ptr id _=>bif Is (st.obj id)then some false else none
 | .ptr a i,.ptr b j=>bif zc a b&&Is (st.obj a)then match T.inf e with
   |some c=>bif zg 0 c.size then some (zc i j)else none
   |none=>none
  else none
 |_,_=>none
def AbJ(T:B6)(op:BinOp)(t:TypeId)(x y:PV)(st:AL):PO:=
 match x,y with
 | .dat (.int k) a,.dat (.int c) b=>bif uW op then psh op k a b st else(bif k==c then Aaf op k a b st else .bad)
 | .dat .str a,.dat .str b=>AbK op a b st
 | .agg xs,.agg d=>match T.flat t with
  |some ks=>match op,Hc ks xs d with
   | .eql,some r=>.val (.dat .bool r) st
   | .neq,some r=>.val (.dat .bool<|!r) st
   |_,_=>.bad
  |none=>.bad
 |x,y=>match Jp x,Jp y,T.und t with
  |some a,some b,some .bool=>match op with
   | .eql=>.val (.dat .bool<|a==b) st
   | .neq=>.val (.dat .bool<|!(a==b)) st
   |_=>.bad
  |_,_,some (.slice _)=>jW op x y st
  |_,_,some (.pointer e)=>match op,ptrEq T e st x y with
   | .eql,some r=>.val (.bl r) st
   | .neq,some r=>.val (.bl<|!r) st
   |_,_=>.bad
  |_,_,_=>.bad
def pun(op:UnOp)(x:PV)(st:AL):PO:=
 match op,x with
 | .neg,.dat (.int k) n=>.val (.dat (.int k)<|k.wrap<|0-(n:Int)) st
 | .not,.bl b=>.val (.bl<|!b) st
 | .not,.ub=>.val .ub st
 | .not,.dat .bool b=>.val (.dat .bool<|!b) st
 |_,_=>.bad
def gB(T:B6)(s d:TypeId)(x:PV)(st:AL):PO:=
 match T.und s,T.und d,x with
 |some _,some<|.int k,.dat (.int _) n=>.val (.dat (.int k)<|k.wrap n) st
 |some .string,some .string,.dat .str s=>.val (.dat .str s) st
 |_,_,_=>.bad
def oO(c a b:PV)(st:AL):PO:=
 match c with
 | .bl t=>.val (bif t then a else b) st
 | .dat .bool t=>match a,b with
  | .dat .bool x,.bl false=>.val (.dat .bool<|t&&x) st
  | .bl true,.dat .bool x=>.val (.dat .bool<|t||x) st
  |_,_=>.ite t (.val a st)<|.val b st
 |_=>.bad
def XY(T:B6)(t:TypeId)(x:PV)(f:Nat)(st:AL):PO:=
 match T.und t,x with
 |some (.struct fs),.agg cs=>match fs[f]? with
  |some a=>match T.und a.type,T.inf a.type with
   |some d,some i=>ov st<|pick d i.size<|JX a.offset cs
   |_,_=>.bad
  |none=>.bad
 |_,_=>.bad
def WO(T:B6)(t:TypeId)(x:PV)(f:Nat)(st:AL):PO:=
 match T.und t with
 |some (.struct fs)=>match fs[f]? with
  |some a=>match T.inf a.type with
   |some i=>bif zc i.size 0 then .bad else match x with
    | .ptr id off=>bif Is (st.obj id)then .val (.ptr id<|ze off a.offset) st else .bad
    | .eptr id sz j off=>bif Is (st.obj id)then .val (.eptr id sz j<|ze off a.offset) st else .bad
    | .BF s y off=>.val (.BF s y<|ze off a.offset) st
    |_=>.bad
   |none=>.bad
  |none=>.bad
 |_=>.bad
def Tt(T:B6)(t:TypeId)(x b:PV)(st:AL):PO:=
 match T.und t,b with
 |some (.slice e),.dat (.int _) i=>match T.inf e with
  |some a=>match x with
   | .dat (.list s) l=>bif zc a.size s.sz then .It (decide (0<=(i:Int))&&decide ((i:Int)<(l.length:Int))) (.BF s (l.getD (zd i) s.Hb) 0) st else .bad
   | .sl id sz off len _=>bif zc a.size sz&&Is (st.obj id)then .It (decide (0<=(i:Int))&&decide ((i:Int)<(len:Int))) (.eptr id sz (ze (zd i) off) 0) st else .bad
   |_=>.bad
  |none=>.bad
 |some (.array len e),.dat (.int _) i=>match T.inf e with
  |some a=>match x with
   | .ptr id off=>match st.obj id with
    |some (.arr _ _ s _)=>bif zc off 0&&zc a.size s.sz then .It (decide (0<=(i:Int))&&decide ((i:Int)<(len:Int))) (.eptr id s.sz (zd i) 0) st else .bad
    |some _=>.It (decide (0<=(i:Int))&&decide ((i:Int)<(len:Int))) (.ptr id<|ze off<|zm (zd i) a.size) st
    |none=>.bad
   | .eptr id sz j off=>bif Is (st.obj id)then .It (decide (0<=(i:Int))&&decide ((i:Int)<(len:Int))) (.eptr id sz j<|ze off<|zm (zd i) a.size) st else .bad
   | .BF s y off=>.It (decide (0<=(i:Int))&&decide ((i:Int)<(len:Int))) (.BF s y<|ze off<|zm (zd i) a.size) st
   |_=>.bad
  |none=>.bad
 |_,_=>.bad
def fC(T:B6)(t:TypeId)(x a:PV)(st:AL):PO:=Tt T t (lz x) a st
def X4(T:B6)(t:TypeId)(x b:PV)(st:AL):PO:=
 match T.und t,x,b with
 |some .string,.dat .str s,.dat (.int _) i=>.It (decide (0<=(i:Int))&&decide ((i:Int)<((s:Z).length:Int))) (.dat (.int .u8) (((s:Z).getD (zd i) 0).toNat:Int)) st
 |some (.array len e),.agg cs,.dat (.int _) i=>match T.und e,T.inf e with
  |some d,some a=>ovc (decide (0<=(i:Int))&&decide ((i:Int)<(len:Int))) st<|pick d a.size<|JX (zm (zd i) a.size) cs
  |_,_=>.bad
 |_,_,_=>.bad
def QN(x:PV)(i:Nat)(st:AL):PO:=
 match x with
 | .tup vs=>match vs[i]? with
  |some v=>.val v st
  |none=>.bad
 |_=>.bad
def pb(x:Option PV)(Hb:Nat):Option (Bool×Nat):=
 match x with
 |none=>some (true,Hb)
 |some (.dat (.int _) n)=>some (decide (0<=(n:Int)),zd n)
 |_=>none
def has(mx:Option PV)(c:Nat):Bool:=match mx with
 |none=>true
 |some _=>decide (0<c)
def Sc(T:B6)(t:TypeId)(x:PV)(lo c mx:Option PV)(st:AL):PO:=
 match T.und t with
 |some .string=>match x,mx with
  | .dat .str s,none=>match pb lo 0,pb c (s:Z).length with
   |some (a,l),some (b,h)=>.It (a&&b&&decide (l<=h)&&decide (h<=(s:Z).length)) (.dat .str<|((s:Z).drop l).take<|Nat.sub h l) st
   |_,_=>.bad
  |_,_=>.bad
 |some (.slice e)=>match T.inf e with
  |some f=>match x with
   | .dat (.list s) xs=>bif zc f.size s.sz then
     match pb lo 0,pb c xs.length,mx with
     |some (a,l),some (b,h),none=>.It (a&&b&&decide (l<=h)&&decide (h<=xs.length)) (.dat (.list s)<|(xs.drop l).take<|Nat.sub h l) st
     |_,_,_=>.bad
    else .bad
   | .sl id sz off len cap=>bif zc f.size sz&&Is (st.obj id)then
     match c,mx with
     |none,some _=>.bad
     |_,_=>match pb lo 0,pb c len,pb mx (cap.getD len)with
      |some (a,l),some (b,h),some (d,m)=>.It (a&&b&&d&&decide (l<=h)&&decide (h<=m)&&decide (m<=cap.getD len)&&has mx (cap.getD len)) (.sl id sz (ze off l) (Nat.sub h l)<|some<|Nat.sub m l) st
      |_,_,_=>.bad
    else .bad
   | .nil=>match pb lo 0,pb c 0,mx with
    |some (a,l),some (b,h),none=>.It (a&&b&&decide (l<=h)&&decide (h<=0)) .nil st
    |some (a,l),some (b,h),some q=>match c,pb (some q) 0 with
     |some _,some (d,m)=>.It (a&&b&&d&&decide (l<=h)&&decide (h<=m)&&decide (m<=0)) .nil st
     |_,_=>.bad
    |_,_,_=>.bad
   |_=>.bad
  |none=>.bad
 |_=>.bad
def iC(T:B6)(t:TypeId)(x:PV)(lo a mx:Option PV)(st:AL):PO:=Sc T t (lz x) lo a mx st
def pi64(n:Nat):PV:=.dat (.int .i64)<|Int.ofNat n
def Uq(T:B6)(ts:Array TypeId)(args:List PV)(st:AL):PO:=
 match ts[0]?,args with
 |some t,[x]=>match T.und t,x with
  |some .string,.dat .str s=>.val (pi64 (s:Z).length) st
  |some (.slice _),.dat (.list _) l=>.val (pi64 l.length) st
  |some (.slice _),.sl id _ _ len _=>bif Is (st.obj id)then .val (pi64 len) st else .bad
  |some (.slice _),.nil=>.val (pi64 0) st
  |some (.map _ _),.mp id=>match st.obj id with
   |some (.map _ _ l)=>.val (pi64 l.length) st
   |_=>.bad
  |_,_=>.bad
 |_,_=>.bad
def uT(T:B6)(ts:Array TypeId)(args:List PV)(st:AL):PO:=Uq T ts (args.map lz) st
def pmm(f:Int->Int->Int)(k:IntKind):Int->List PV->Option Int
 |x,[]=>some x
 |x,.dat (.int a) y::b=>bif k==a then pmm f k (f x y) b else none
 |_,_=>none
def Oi(f:Int->Int->Int)(args:List PV)(st:AL):PO:=
 match args with
 | .dat (.int k) x::a=>match pmm f k x a with
  |some z=>.val (.dat (.int k) z) st
  |none=>.bad
 |_=>.bad
def imax(x y:Int):Int:=if y>x then y else x
def EZ(x y:Int):Int:=if y<x then y else x
def NS(st:AL)(s:Sh)(x:PV):Option (Bool×List s.T):=
 match x with
 | .nil=>some (true,[])
 | .dat (.list a) l=>(DP (.list a) (.list s) l).map fun r=>(true,r)
 | .sl id sz off len _=>match st.obj id with
  |some (.arr _ _ a l)=>bif zc sz a.sz then(DP (.list a) (.list s) l).map fun r=>(decide (off+len<=r.length),(r.drop off).take len)else none
  |_=>none
 | .dat .str l=>(DP (.list<|.int .u8) (.list s)<|List.map (fun b:UInt8=>(b.toNat:Int)) l).map fun r=>(true,r)
 |_=>none
def PL(st:AL)(s:Sh)(x:PV):Option (Bool×List s.T):=NS st s<|lz x
def LIM:Nat:=281474976710656
def pM:Nat:=562949953421312
def SA:TypeDesc->Bool
 | .slice _=>true
 | .string=>true
 |_=>false
def SM(T:B6)(ts:Array TypeId)(args:List PV)(st:AL):PO:=
 match ts[0]?,ts[1]?,args with
 |some t,some f,[b,x]=>match T.und t,T.und f with
  |some (.slice e),some a=>bif SA a then match T.inf e,XA T 9 e with
   |some i,some s=>
    bif zg 0 i.bytes&&zg 0 i.size&&zc i.zero.length i.size&&zc i.size s.sz then
     match PL st s x with
     |some (c,new)=>match b with
      | .nil=>match x with
       | .nil=>.val .nil st
       | .dat _ _=>.ite (decide (0<new.length)) (.It (c&&decide ((3*new.length+2000)*i.bytes<=pM)) (.sl st.nx s.sz 0 new.length none)<|st.push<|.arr false e s new)<|.val .nil st
       | .sl _ _ _ _ (some _)=>.ite (decide (0<new.length)) (.It (c&&decide ((3*new.length+2000)*i.bytes<=pM)) (.sl st.nx s.sz 0 new.length none)<|st.push<|.arr false e s new)<|.It c .nil st
       |_=>.It (c&&decide (0<new.length)&&decide ((3*new.length+2000)*i.bytes<=pM)) (.sl st.nx s.sz 0 new.length none)<|st.push<|.arr false e s new
      | .sl id sz off len cap=>match st.obj id with
       |some (.arr false g d l)=>match DP (.list d) (.list s) l with
        |some l'=>bif zc e g&&zc sz s.sz then
          match cap with
          |none=>.It (c&&decide (off=0)&&decide (len=l'.length)&&decide ((3*(len+new.length)+2000)*i.bytes<=pM)) (.sl st.nx s.sz 0 (ze len new.length) none)<|(st.PQ id).push<|.arr false e s<|l'++new
          |some k=>.It (c&&decide (len+new.length<=k)&&decide (off+k<=l'.length)) (.sl id sz off (ze len new.length)<|some k) (st.setObj id<|.arr false e s<|l'.take (off+len)++(new++l'.drop (off+len+new.length)))
         else .bad
        |none=>.bad
       |_=>.bad
      |_=>.bad
     |none=>.bad
    else .bad
   |_,_=>.bad
   else .bad
  |_,_=>.bad
 |_,_,_=>.bad
def Wv(T:B6)(ts:Array TypeId)(args:List PV)(st:AL):PO:=
 match ts[0]?,args with
 |some t,[x]=>match T.und t with
  |some (.slice e)=>match x with
   | .nil=>.val (.tup []) st
   | .sl id sz off len _=>match T.inf e,st.obj id with
    |some i,some (.arr false a s l)=>
     bif zc sz s.sz&&zg 0 i.zero.length&&zc i.zero.length s.sz&&KZ V.one i.zero then
      match Dn s (i.zero.map X0)with
      |some z=>.It (decide (off+len<=l.length)) (.tup [])<|st.setObj id<|.arr false a s<|l.take off++(zj len z++l.drop (off+len))
      |none=>.bad
     else .bad
    |_,_=>.bad
   |_=>.bad
  |_=>.bad
 |_,_=>.bad
def WH(args:List PV)(st:AL):PO:=
 match args with
 |[.sl id sz off len none]=>bif Is (st.obj id)then .It (decide (0<len)) (.eptr id sz off 0) st else .bad
 |_=>.bad
def W1(l:List Int):Z:=l.map fun x=>UInt8.ofNat x.toNat
def RO(l:List Int):Bool:=l.all fun x=>decide (0<=x)&&decide (x<256)
def mV(T:B6)(ts:List TypeId)(args:List PV)(st:AL):PO:=
 match ts,args with
 |[b,_],[.eptr id _ i 0,.dat (.int .i64) n]=>match T.und b,st.obj id with
  |some (.pointer e),some (.arr false c s l)=>match T.inf e,DP (.list s) (.list<|.int .u8) l with
   |some d,some a=>bif zc d.size 1&&zc e c then
     .It (decide (i=0)&&decide (0<(n:Int))&&decide (zd n<=(a:List Int).length)&&decide (zd n<=9223372036854775807)&&RO a) (.dat .str<|W1<|(a:List Int).take<|zd n) (st.PQ id)
    else .bad
   |_,_=>.bad
  |_,_=>.bad
 |_,_=>.bad
def IJ(T:B6)(b:Builtin)(ts:Array TypeId)(args:List PV)(st:AL):PO:=
 match b with
 | .len=>uT T ts args st
 | .append=>SM T ts args st
 | .max=>Oi imax args st
 | .min=>Oi EZ args st
 | .clear=>Wv T ts args st
 | .unsafeSliceData=>WH args st
 | .unsafeString=>mV T ts.toList args st
 |_=>.bad
def rune(s:Z)(pos:Nat):Int:=(zk (bytesOf s) pos).1
def J5(s:Z)(pos:Nat):Nat:=(zk (bytesOf s) pos).2
def Xz(T:B6)(t:TypeId)(x:PV)(st:AL):PO:=
 match T.und t,x with
 |some .string,.dat .str s=>.val (.ptr st.nx 0)<|st.push<|.siter s 0
 |_,_=>.bad
def nB(x:PV)(a:Bool)(st:AL):PO:=
 match x,a with
 | .ptr id 0,true=>match st.obj id with
  |some (.siter s pos)=>.ite (decide (pos<s.length)) (.val (.tup [.bl true,.dat (.int .i64)<|Int.ofNat pos,.dat (.int .i32)<|rune s pos])<|st.setObj id<|.siter s<|ze pos<|J5 s pos)<|.val (.tup [.bl false]) st
  |_=>.bad
 |_,_=>.bad
def RN(st:AL)(place:Nat->Option (Nat×Nat))(cells:List PV):List (Nat×PV)->Option (List PV)
 |[]=>some cells
 |(i,v)::a=>match place i with
  |none=>none
  |some (off,size)=>match pcs st v with
   |some vs=>bif zc (EN vs) size&&zl (ze off size) (EN cells)then RN st place (CE off vs cells) a else none
   |none=>none
def Xu(T:B6)(st:AL)(t:TypeId)(a:List (Nat×PV)):Option PV:=
 match T.inf t,T.und t with
 |some i,some (.struct fs)=>
  match fs.toList.mapM (fun f=>(T.inf f.type).map fun j=>(f.offset,j.size))with
  |some pl=>(RN st (fun i=>pl[i]?) (i.zero.map X0) a).map .agg
  |none=>none
 |some i,some (.array _ e)=>match T.inf e with
  |some j=>(RN st (fun i=>some (i*j.size,j.size)) (i.zero.map X0) a).map .agg
  |none=>none
 |_,_=>none
def Ko(z:List PV):Nat->List PV
 |0=>[]
 |n+1=>z++Ko z n
def BS(st:AL):PV->Option (Bool×PV)
 | .sl id sz off len _=>match st.obj id with
  |some (.arr _ _ s l)=>bif zc sz s.sz then some (decide (off+len<=l.length),.dat (.list s)<|(l.drop off).take len)else none
  |_=>none
 | .dat s x=>some (true,.dat s x)
 | .BF s x off=>some (true,.BF s x off)
 | .bl b=>some (true,.bl b)
 | .nil=>some (true,.nil)
 |_=>none
def Dj(st:AL):List PV->Option (Bool×List PV)
 |[]=>some (true,[])
 |v::vs=>match BS st v,Dj st vs with
  |some (c,x),some (d,xs)=>some (c&&d,x::xs)
  |_,_=>none
def Bz(st:AL):PV->AL
 | .sl id _ _ _ _=>match st.obj id with
  |some (.arr _ e s l)=>st.setObj id<|.arr true e s l
  |_=>st
 |_=>st
def Br:List PV->AL->AL
 |[],st=>st
 |v::vs,st=>Br vs<|Bz st v
def Tw(T:B6)(t:TypeId)(len:Nat)(a:List (Nat×PV))(st:AL):PO:=
 match T.und t with
 |some (.slice e)=>match T.inf e,XA T 9 e with
  |some i,some s=>
   bif zl (zm len i.size) 16777216&&zg 0 i.zero.length&&zc i.zero.length i.size&&zc i.size s.sz then
    match RN st (fun k=>some (k*i.size,i.size)) (Ko (i.zero.map X0) len) a with
    |some cs=>match chunk s len cs with
     |some l=>.val (.sl st.nx s.sz 0 len none)<|st.push<|.arr false e s l
     |none=>match Dj st cs with
      |some (c,cs')=>match chunk s len cs' with
       |some l=>.It c (.sl st.nx s.sz 0 len none)<|(Br cs st).push<|.arr false e s l
       |none=>.bad
      |none=>.bad
    |none=>.bad
   else .bad
  |_,_=>.bad
 |_=>.bad
def fN(T:B6)(t:TypeId)(l c:PV)(st:AL):PO:=
 match T.und t,l,c with
 |some (.slice e),.dat (.int _) l,.dat (.int _) c=>match T.inf e,XA T 9 e with
  |some i,some s=>
   bif zg 0 i.zero.length&&zc i.zero.length i.size&&zc i.size s.sz then
    match Dn s (i.zero.map X0)with
    |some z=>.It (decide (0<=(l:Int))&&decide ((l:Int)=(c:Int))&&decide (i.bytes*zd l<=LIM)&&decide ((l:Int)<9223372036854775808)) (.sl st.nx s.sz 0 (zd l) none)<|st.push<|.arr false e s<|zj (zd l) z
    |none=>.bad
   else .bad
  |_,_=>.bad
 |_,_,_=>.bad
def vA(T:B6)(t:TypeId):Option Sh:=match T.und t with
 |some (.int k)=>some<|.int k
 |some .string=>some .str
 |some .bool=>some .bool
 |_=>none
def Mf:PV->Bool
 | .agg _=>true
 |_=>false
def asV(s:Sh)(p:PV):Option s.T:=bif Mf p==s.QU then Dn s p.cells else none
def WL(T:B6)(t:TypeId)(st:AL):PO:=match T.und t with
 |some (.map a e)=>match vA T a,XA T 9 e with
  |some ks,some vs=>.val (.mp st.nx)<|st.push<|.map ks vs []
  |_,_=>.bad
 |_=>.bad
def eW(st:AL)(ks vs:Sh)(m:PV):Option (List<|ks.T×vs.T):=match m with
 | .nilm=>some []
 | .mp id=>match st.obj id with
  |some (.map a b l)=>DP (.list<|.pair a b) (.list<|.pair ks vs) l
  |_=>none
 |_=>none
def vAg:V->Bool
 | .agg _=>true
 |_=>false
def plk(ks vs:Sh)(ok:Bool)(z:vs.T)(x:ks.T)(st:AL):List (ks.T×vs.T)->PO
 |[]=>.val (bif ok then .tup [Ci vs z,.bl false]else Ci vs z) st
 |(a,b)::l=>.ite (Wo ks x a) (.val (bif ok then .tup [Ci vs b,.bl true]else Ci vs b) st)<|plk ks vs ok z x st l
def SY(T:B6)(t:TypeId)(m k:PV)(ok:Bool)(st:AL):PO:=match T.und t with
 |some (.map a e)=>match vA T a,XA T 9 e,T.inf e with
  |some ks,some vs,some i=>match sD ks k,eW st ks vs m,Dn vs (i.zero.map X0)with
   |some x,some l,some z=>
    bif vAg i.zv==vs.QU then bif vs.qR then plk ks vs ok z x st l else
     (let v:=Ci vs ((EJ ks vs x l).getD z)
     .val (bif ok then .tup [v,.dat .bool (EJ ks vs x l).isSome]else v) st)
    else .bad
   |_,_,_=>.bad
  |_,_,_=>.bad
 |_=>.bad
def S8(T:B6)(t:TypeId)(m k v:PV)(st:AL):PO:=match T.und t,m with
 |some (.map b _),.mp id=>match vA T b,st.obj id with
  |some ks,some (.map a vs l)=>match sD ks k,DP (.list<|.pair a vs) (.list<|.pair ks vs) l,asV vs v with
   |some x,some l,some y=>.val (.tup [])<|st.setObj id<|.map ks vs<|Io ks vs x y l
   |_,_,_=>.bad
  |_,_=>.bad
 |_,_=>.bad
def TQ(T:B6)(ts:Array TypeId)(args:List PV)(st:AL):PO:=match ts[0]?,args with
 |some t,[.mp id,k]=>match T.und t with
  |some (.map b _)=>match vA T b,st.obj id with
   |some ks,some (.map a vs l)=>match sD ks k,DP (.list<|.pair a vs) (.list<|.pair ks vs) l with
    |some x,some l=>.val (.tup [])<|st.setObj id<|.map ks vs<|T1 ks vs x l
    |_,_=>.bad
   |_,_=>.bad
  |_=>.bad
 |_,_=>.bad
abbrev LN:=B6->AL->PO
def v1(st:AL)(x:Operand)(k:PV->PO):PO:=match QX st x with|some v=>k v|none=>.bad
def XM(x:Operand):LN:=fun _ st=>ov st<|QX st x
def nX(c a b:Operand):LN:=fun _ st=>v1 st c fun c=>v1 st a fun a=>v1 st b fun b=>oO c a b st
def xX(T:B6)(t:TypeId):Bool:=
 match T.und t with
 |some (.struct fs)=>match fs[0]? with
  |some f=>match T.und f.type with
   |some (.pointer u)=>zc u t
   |_=>false
  |none=>false
 |_=>false
def SI(t:TypeId):LN:=fun T st=>match Aba T t with
 |some (s,n)=>.val (.ptr st.nx 0)<|st.push<|.arr false t s<|zj n s.Hb
 |none=>match gY T t with|some cs=>.val (.ptr st.nx 0) (st.push<|bif xX T t then .tbox t cs else .box cs)|none=>.bad
def xT(_:TypeId)(x:Operand):LN:=fun _ st=>v1 st x fun v=>match pcs st v with|some cs=>bif KZ (J8 st) cs then .val (.ptr st.nx 0) (st.push<|.box cs)else .bad|none=>.bad
def Yf(t:TypeId)(ps:Array (Nat×Operand)):LN:=fun T st=>match cW st ps.toList with|some l=>ov st (Xu T st t l)|none=>.bad
def UQ(t:TypeId)(n:Nat)(ps:Array (Nat×Operand)):LN:=fun T st=>match cW st ps.toList with|some l=>Tw T t n l st|none=>.bad
def iS(t:TypeId)(x:Operand):LN:=fun T st=>v1 st x fun a=>Ni T st t a
def ZG(t:TypeId)(x y:Operand):LN:=fun T st=>v1 st x fun a=>v1 st y fun b=>WZ T st t a b
def Qk(x:Operand):LN:=fun _ st=>v1 st x fun a=>match a with| .ptr id _| .eptr id _ _ _=>bif Is (st.obj id)then .val a st else .bad| .BF .. =>.val a st|_=>.bad
def xP(T:B6)(op:BinOp)(t:TypeId)(x y:Operand)(a b:PV):Option Bool:=
 match op,a,b,T.und t with
 | .eql,.nili,.nili,some (.interface _)=>bif ZY x||ZY y then some true else none
 | .neq,.nili,.nili,some (.interface _)=>bif ZY x||ZY y then some false else none
 |_,_,_,_=>none
def zR(op:BinOp)(t:TypeId)(x y:Operand)(_:TypeId):LN:=fun T st=>v1 st x fun a=>v1 st y fun b=>match xP T op t x y a b with|some r=>.val (.bl r) st|none=>AbJ T op t a b st
def Ac8(op:UnOp)(_:TypeId)(x:Operand):LN:=fun _ st=>v1 st x fun a=>pun op a st
def nU(s d:TypeId)(x:Operand):LN:=fun T st=>v1 st x fun a=>gB T s d a st
def jN(f:Fn)(a b:Array Operand):LN:=fun _ st=>match MY st a.toList,MY st b.toList with|some x,some y=>.val (.fn f x y) st|_,_=>.bad
def iA(t:TypeId)(l c:Operand):LN:=fun T st=>v1 st l fun a=>v1 st c fun b=>fN T t a b st
def o1(st:AL)(x:Option Operand)(k:Option PV->PO):PO:=match x with|none=>k none|some y=>v1 st y fun v=>k<|some v
def ZV(t:TypeId)(x:Operand)(a b c:Option Operand):LN:=fun T st=>v1 st x fun v=>o1 st a fun l=>o1 st b fun h=>o1 st c fun m=>iC T t v l h m st
def Zo(t:TypeId)(x:Operand)(f:Nat):LN:=fun T st=>v1 st x fun a=>WO T t a f st
def Yh(t:TypeId)(x:Operand)(f:Nat):LN:=fun T st=>v1 st x fun a=>XY T t a f st
def YL(t:TypeId)(x i:Operand):LN:=fun T st=>v1 st x fun a=>v1 st i fun b=>fC T t a b st
def Yi(t:TypeId)(x i:Operand):LN:=fun T st=>v1 st x fun a=>v1 st i fun b=>X4 T t a b st
def Rd(x:Operand)(i:Nat):LN:=fun _ st=>v1 st x fun a=>QN a i st
def S9(c:Call):LN:=fun T st=>
 match MY st c.args.toList with
 |none=>.bad
 |some args=>match c.callee with
  | .builtin b=>match b with
   | .delete=>TQ T c.argTypes args st
   |_=>IJ T b c.argTypes args st
  |_=>.bad
def Yr(t:TypeId)(r:Option Operand):LN:=fun T st=>match r with|none=>WL T t st|some _=>.bad
def VC(t:TypeId)(x i:Operand)(ok:Bool):LN:=fun T st=>v1 st x fun a=>v1 st i fun b=>SY T t a b ok st
def Ql(t:TypeId)(m k x:Operand):LN:=fun T st=>v1 st m fun a=>v1 st k fun b=>v1 st x fun c=>S8 T t a b c st
def Ys(t:TypeId)(x:Operand):LN:=fun T st=>v1 st x fun a=>Xz T t a st
def nR(x:Operand)(b:Bool):LN:=fun _ st=>v1 st x fun a=>nB a b st
def JV:LN:=fun _ _=>.bad
def pop(o:Op):LN:=@Op.casesOn (fun _=>LN) o XM XM nX SI xT Yf UQ Ql iS ZG (fun _=>JV) (fun _=>JV) Qk zR Ac8 nU
 (fun _ _=>JV) (fun _ _=>JV) jN Yr (fun _ _=>JV) iA ZV Zo Yh YL Yi VC Ql (fun _ _ _=>JV) (fun _ _ _ _=>JV)
 Ys nR (fun _=>JV) (fun _ _ _ _=>JV) Rd S9 (fun _=>JV) (fun _=>JV) (fun _=>JV) (fun _ _=>JV) (fun _ _ _=>JV) (fun _ _=>JV)
theorem M8{s:Z}{i:Nat}(h:i<s.length):(bytesOf s).get! i=s.getD i 0:=by
 unfold bytesOf;show(s.toArray)[i]! =_;simp[h]
theorem Vy{s:Z}{i:Nat}(h:i<s.length)(a:(s.getD i 0).toNat<128):rune s i=((s.getD i 0).toNat:Int)/\J5 s i=1:=by
 unfold rune J5 zk;have e:=M8 h;simp only[Nat.add_zero,e,a,wk];simp
theorem RC{s:Z}{i:Nat}(h:i<s.length)(c:128<=(s.getD i 0).toNat):128<=rune s i:=by
 unfold rune zk;have e:=M8 h;simp only[Nat.add_zero,e];rw[wc ae];have a:(128:Int)<=((Utf8.runeError:Nat):Int):=af
 split
 ·split
  ·rename_i b;simp only;omega
  ·exact a
 ·split
  ·split
   ·rename_i b;simp only[ge_iff_le,zh,w5]at b ⊢;omega
   ·exact a
  ·split
   ·split
    ·rename_i b;simp only[ge_iff_le,zh,w5]at b ⊢;omega
    ·exact a
   ·exact a
end Go.Pe
namespace Go.Sp
def letter(c:Int):Bool:=(decide (97<=c)&&decide (c<=122))||(decide (65<=c)&&decide (c<=90))
def mark(c:Int):Bool:=letter c||(decide (48<=c)&&decide (c<=57))||c==95
def isName:Z->Bool
 |[]=>false
 |c::s=>decide (s.length<=23)&&letter (c.toNat:Int)&&s.all fun c=>mark (c.toNat:Int)
end Go.Sp
namespace Go.Pe
open Go.Det
theorem N1(a b:Z):Wo .str a b=decide (a=b):=by
 show(a==b)=_;by_cases h:a=b<;>simp[h]
theorem Kb{v:Sh}(x k:Z)(b:v.T):∀m:List (Z×v.T),EJ .str v x (Io .str v k b m)=if x=k then some b else EJ .str v x m
 |[]=>by
  show(bif Wo .str x k then some b else none)=_;rw[N1];by_cases h:x=k<;>simp[h,EJ]
 |(a,c)::m=>by
  show EJ .str v x (bif Wo .str k a then(k,b)::m else(a,c)::Io .str v k b m)=_;rw[N1];by_cases h:k=a
  ·subst h;simp only[decide_true,we];show(bif Wo .str x k then some b else EJ .str v x m)=if x=k then some b else(bif Wo .str x k then some c else EJ .str v x m)
   rw[N1];by_cases d:x=k<;>simp[d]
  ·simp only[h,decide_false,wg];show(bif Wo .str x a then some c else EJ .str v x<|Io .str v k b m)=if x=k then some b else(bif Wo .str x a then some c else EJ .str v x m)
   rw[N1,Kb x k b m];by_cases d:x=a
   ·subst d;simp[Ne.symm h]
   ·simp[d]
def IX(m:List (Z×Bool))(p:Z->Prop):Prop:=∀x,(EJ .str .bool x m).getD false=true↔p x
theorem IX.nil:IX [] (fun _=>False):=fun x=>by simp[EJ]
theorem IX.add{m:List (Z×Bool)}{p:Z->Prop}(h:IX m p)(k:Z):IX (Io .str .bool k true m) (fun x=>x=k\/p x):=fun x=>by
 rw[Kb];by_cases e:x=k
 ·simp[e]
 ·rw[wc e,h x];simp[e]
theorem IX.congr{m:List (Z×Bool)}{p q:Z->Prop}(h:IX m p)(e:∀x,p x↔q x):IX m q:=fun x=>(h x).trans<|e x
end Go.Pe
namespace Go.Det
section
abbrev XN:=FuncId->Option (List V->H->Option (V×H))
def LD(P:Program)(s:XN):Prop:=∀f q,s f=some q->∀(p:Pl) (h:H) (w:World) (args:List V) (args':Array Value) v h',R p h w->Gp p->At p args args'.toList->q args h=some (v,h')->
 Calls P f args' w fun e w'=>∃v' p',e=.returned v'/\Ac p' v v'/\Ext p h w p' h' w'
def orS(a b:XN):XN:=fun f=>match a f with
 |some q=>some q
 |none=>b f
variable {P:Program}
theorem Ty{a b:XN}(e:LD P a)(d:LD P b):LD P (orS a b):=by
 intro f q c;unfold orS at c;cases h:a f with
 |some g=>rw[h]at c;cases c;exact e f _ h
 |none=>rw[h]at c;exact d f q c
def Yc(C:Ctx)(s:XN):Ctx:={ C with spec:=s }
theorem Vr{C:Ctx}(a:C.Ok P){s:XN}(h:LD P s):(Yc C s).Ok P where
 T:=a.T
 fn:=a.fn
 prim:=a.prim
 spec:=h
theorem No{C:Ctx}(a:Gy C)(s:XN):Gy (Yc C s):=a
theorem Yg{C:Ctx}(c:C.Ok P)(a:Gy C)(b:P.follows .mixedOrders=true){n:Nat}{L:CR}(h:A1 C n L=true):LD P (Kd L):=rB (C':=C) c a b h
theorem AO{C:Ctx}{n:Nat}:∀ {a b:CR},A1 C n a=true->A1 C n b=true->A1 C n (a++b)=true
 |[],b,_,h=>h
 |(f,x,v)::a,b,h,k=>by
  simp only[A1,List.cons_append,zh]at h ⊢;exact⟨h.1,AO h.2 k⟩
def Ky(C:Ctx)(n:Nat)(L:CR):XN:=fun f=>match Kd L f with
 |none=>none
 |some q=>some fun args h=>match q args h with
  |some x=>some x
  |none=>match Bl C n (.fn f args) h with
   |some [x]=>some x
   |_=>none
theorem RG{C:Ctx}(l:C.Ok P)(g:Gy C)(m:P.follows .mixedOrders=true){n k:Nat}{L:CR}(r:A1 C k L=true):LD P (Ky C n L):=by
 intro f q d p h w args args' v h' hr j b a;unfold Ky at d;cases i:Kd L f with
 |none=>rw[i]at d;cases d
 |some q0=>
  rw[i]at d;cases d;simp only at a;split at a
  case h_1=>rename_i x o;cases a;exact Yg l g m r f q0 i p h w args args' v h' hr j b o
  case h_2=>
   split at a
   case h_2=>cases a
   rename_i x t;cases a;refine((IU l g m n).fn f args h _ t p w args' hr j b).mono ?_;rintro e w' ⟨v1,y,v',p',c,rfl,s,u⟩;cases List.mem_singleton.1 c;exact⟨v',p',rfl,s,u⟩
theorem MP{p:Pl}{h:H}{w w':World}(hr:R p h w)(c:Go.RowKit.Below w.heap.size w w'):Ext p h w p h w':=by
 obtain⟨e,j,f,g,d⟩:=c;refine⟨⟨[],by simp⟩,⟨hr.len,fun b o c=>?_,hr.inj⟩,g,fun r a _=>d r a,fun r k=>.inl k,e,f,j,fun r a i=>⟨d r a,.inl i⟩⟩;obtain⟨r,m,y,g1,g2,g3⟩:=hr.obj b o c;exact⟨r,m,y,g1,by rw[d r (Array.getElem?_eq_some_iff.1 g2).1];exact g2,g3⟩
end
end Go.Det
