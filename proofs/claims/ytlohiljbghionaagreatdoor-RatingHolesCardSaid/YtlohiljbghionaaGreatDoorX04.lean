import Derived.Test.YtlohiljbghionaaGreatDoorX03
import Derived.Below
/- A part of a proof; no law is stated here. -/
noncomputable section
open Nat renaming beq -> zc, add -> ze, blt -> zg, ble -> zl, mul -> zm
open Int renaming toNat -> zd
open BitVec renaming ofInt -> zf
open Bool renaming and_eq_true -> zh
open Go.Op renaming bytesLess -> zi
open List renaming replicate -> zj
open Go.Utf8 renaming decode -> zk
namespace Go.Det
section
def Pd(P:Program):Nat->Nat->Bool
 |0,_=>true
 |n+1,a=>(match RH P (fun _=>true) a with|some i=>DY i.body|none=>true)&&Pd P n (a+1)
variable {P:Program}
theorem R5{ct:FuncId->Bool}{f:FuncId}{i:Fn}(a:RH P ct f=some i):RH P (fun _=>true) f=some { i with cert:=true }/\i.cert=ct f:=by
 unfold RH at a ⊢;cases c:P.funcs[f]? with
 |none=>rw[c]at a;cases a
 |some fn=>
  rw[c]at a;simp only at a ⊢;cases d:fn.body with
  |none=>rw[d]at a;cases a
  |some b=>
   rw[d]at a;simp only at a ⊢;split at a
   ·cases a
   ·rename_i e;rw[wc e];cases a;exact⟨rfl,rfl⟩
theorem Jx{f:Nat}{i:Fn}{ct:FuncId->Bool}(b:RH P ct f=some i):∀ {n a:Nat},Pd P n a=true->a<=f->f<a+n->DY i.body=true
 |0,a,_,d,c=>by omega
 |n+1,a,h,d,c=>by
  simp only[Pd,zh]at h;by_cases e:a=f
  ·subst e;rw[(R5 b).1]at h;exact h.1
  ·exact Jx b h.2 ae ae
def mkC(P:Program)(N:Nat)(L:List (FuncId×PK)):Ctx:=⟨yV P,0,RH P<|fun f=>zg f N,Ue L,fun _=>none,true⟩
theorem dX{N:Nat}{L:List (FuncId×PK)}(h:∀f i,f<N->RH P (fun f=>zg f N) f=some i->DY i.body=true):G4 (mkC P N L):=by
 intro f i a b;have a:RH P (fun f=>zg f N) f=some i:=a;rw[(R5 a).2]at b;exact h f i (Nat.le_of_ble_eq_true b) a
theorem Ab6{N:Nat}{L:List (FuncId×PK)}(c:∀x∈L,Ky P x):(mkC P N L).Ok P where
 T:=Abk P
 fn:=fun _ _ h=>uR (P:=P) (ct:=fun f=>zg f N) h
 prim:=fun f q a p h w args args' v h' hr _ d b=>ZV c f q a p h w args args' v h' hr d b
 spec:=fun f q a=>by cases a
end
end Go.Det
namespace Go.Pe
open Go.Det
inductive Sh where
 |int (k:IntKind)
 |bool
 |str
 |list (s:Sh)
 |pair (a b:Sh)
 |unit
 |nlist (s:Sh)
 |fnv
 |ptr (s:Sh)
 deriving DecidableEq
@[reducible] def Sh.T:Sh->Type
 | .int _=>Int
 | .bool=>Bool
 | .str=>Z
 | .list s=>List s.T
 | .pair a b=>a.T×b.T
 | .unit=>Unit
 | .nlist s=>List s.T
 | .fnv=>Option Fn
 | .ptr s=>s.T
def Sh.Hv:(s:Sh)->s.T
 | .int _=>(0:Int)
 | .bool=>false
 | .str=>([]:Z)
 | .list _=>[]
 | .pair a b=>(a.Hv,b.Hv)
 | .unit=>()
 | .nlist _=>[]
 | .fnv=>none
 | .ptr s=>s.Hv
def Sh.sz:Sh->Nat
 | .pair a b=>ze a.sz b.sz
 | .unit=>0
 |_=>1
inductive PV where
 |any
 |bl (b:Bool)
 |ub
 |dat (s:Sh) (x:s.T)
 |nil|nilp|nilm|nilf|nili
 |agg (l:List PV)
 |tup (l:List PV)
 |ptr (id off:Nat)
 |eptr (id sz i off:Nat)
 |Bc (s:Sh) (x:s.T) (off:Nat)
 |sl (id sz off len:Nat) (cap:Option Nat)
 |mp (id:Nat)
 |fn (f:Fn) (first captured:List PV)
 |yl (id:Nat)
inductive LpS where
 |ready|busy|ret
 |exit (i:Nat)
inductive Obj where
 |arr (fz:Bool) (e:TypeId) (s:Sh) (l:List s.T)
 |box (cs:List PV)
 |tbox (t:TypeId) (cs:List PV)
 |map (ks vs:Sh) (l:List (ks.T×vs.T))
 |siter (s:Z) (pos:Nat)
 |lp (f:FuncId) (r:Nat) (ps:Array Tmp) (asg body:Code) (s:LpS) (n:Nat) (sl:List (Nat×PV))
abbrev Ob:=List<|Nat×Obj
def AR:Ob->Nat->Option Obj
 |[],_=>none
 |(i,o)::l,j=>bif zc i j then some o else AR l j
def D3:Ob->Nat->Obj->Ob
 |[],_,_=>[]
 |(i,o)::l,j,x=>bif zc i j then(i,x)::l else(i,o)::D3 l j x
def GJ:Ob->Nat->Ob
 |[],_=>[]
 |(i,o)::l,j=>bif zc i j then GJ l j else(i,o)::GJ l j
structure AM where
 n:Nat
 fr:PM PV
 ob:Ob
 nx:Nat
def AM.get(st:AM)(t:Nat):PV:=(st.fr.get t).getD .any
def AM.obj(st:AM)(id:Nat):Option Obj:=AR st.ob id
def AM.set(st:AM)(t:Nat)(v:PV):AM:=⟨st.n,st.fr.set t<|some v,st.ob,st.nx⟩
def AM.setObj(st:AM)(id:Nat)(o:Obj):AM:=⟨st.n,st.fr,D3 st.ob id o,st.nx⟩
def AM.QW(st:AM)(id:Nat):AM:=⟨st.n,st.fr,GJ st.ob id,st.nx⟩
def AM.push(st:AM)(o:Obj):AM:=⟨st.n,st.fr,(st.nx,o)::st.ob,ze st.nx 1⟩
def AM.put(st:AM)(d:Option Nat)(v:PV):Option AM:=
 match d with
 |none=>some st
 |some t=>bif zg t st.n then some (st.set t v)else none
def FZ(vs:List (Nat×PV)):PM PV:=vs.foldl (fun m x=>m.set x.1<|some x.2) .leaf
def flat:(s:Sh)->s.T->List PV
 | .pair a b,(x,y)=>flat a x++flat b y
 | .unit,_=>[]
 | .fnv,x=>[match (x:Option Fn)with|some f=>.fn f [] []|none=>.nilf]
 | .ptr s,x=>[.Bc s x 0]
 |s,x=>[.dat s x]
def D6(s a:Sh)(x:s.T):Option a.T:=if h:s=a then some (h▸x)else none
def asP(a:Sh)(x:a.T):(s:Sh)->Option s.T
 | .ptr s=>D6 a s x
 |_=>none
def wQ(s:Sh)(v:PV):Option s.T:=
 match v with
 | .Bc a x 0=>asP a x s
 | .dat a x=>D6 a s x
 | .bl b=>D6 .bool s b
 | .fn f [] []=>D6 .fnv s<|some f
 | .nilf=>D6 .fnv s none
 | .nil=>match s with
  | .list _=>some []
  | .nlist _=>some []
  |_=>none
 |_=>none
def CE:(s:Sh)->List PV->Option (s.T×List PV)
 | .pair a b,l=>match CE a l with
  |some (x,l1)=>match CE b l1 with
   |some (y,c)=>some ((x,y),c)
   |none=>none
  |none=>none
 | .unit,l=>some ((),l)
 |s,v::l=>match wQ s v with
  |some x=>some (x,l)
  |none=>none
 |_,[]=>none
def Dr(s:Sh)(l:List PV):Option s.T:=
 match CE s l with
 |some (x,[])=>some x
 |_=>none
def PV.cells:PV->List PV
 | .agg cs=>cs
 |v=>[v]
def Za(ty:TypeId->Option Sh):List Field->Option Sh
 |[]=>none
 |[x]=>ty x.type
 |x::xs=>match ty x.type,Za ty xs with
  |some a,some b=>some<|.pair a b
  |_,_=>none
def nlf:Option Sh->Option Sh
 |some (.list<|.int .u64)=>some<|.nlist<|.int .u64
 |s=>s
def lz:PV->PV
 | .dat (.nlist s) x=>.dat (.list s) x
 |v=>v
def Sh.leaves:Sh->List Sh
 | .pair a b=>a.leaves++b.leaves
 | .unit=>[]
 |s=>[s]
def VD:Sh->PV->Bool×PV
 | .nlist s,.dat (.list a) x=>bif s==a then(decide (0<x.length),.dat (.nlist a) x)else(true,.dat (.list a) x)
 | .list s,.dat (.nlist a) x=>bif s==a then(true,.dat (.list a) x)else(true,.dat (.nlist a) x)
 |_,v=>(true,v)
def Mn:List Sh->List PV->Bool×List PV
 |s::l,v::vs=>((VD s v).1&&(Mn l vs).1,(VD s v).2::(Mn l vs).2)
 |_,vs=>(true,vs)
def Xm(T:Ce):Nat->TypeId->Option Sh
 |0,_=>none
 |f+1,t=>match T.und t with
  |some (.int k)=>some<|.int k
  |some .bool=>some .bool
  |some .string=>some .str
  |some (.slice e)=>(Xm T f e).map .list
  |some (.func _ _ _)=>some .fnv
  |some (.struct fs)=>Za (fun x=>nlf<|Xm T f x) fs.toList
  |_=>none
def Sh.wX:Sh->Bool
 | .pair a b=>a.wX||b.wX
 | .fnv=>true
 |_=>false
def Cp:(s:Sh)->s.T->PV
 | .pair a b,x=>.agg<|flat (.pair a b) x
 | .unit,_=>.agg []
 | .fnv,x=>match (x:Option Fn)with|some f=>.fn f [] []|none=>.nilf
 | .ptr s,x=>.Bc s x 0
 |s,x=>.dat s x
def Sh.Rt:Sh->Bool
 | .pair _ _| .unit=>true
 |_=>false
def Yj:(s:Sh)->s.T->s.T->Bool
 | .int _,a,b=>(a:Int)==b
 | .bool,a,b=>(a:Bool)==b
 | .str,a,b=>(a:Z)==b
 |_,_,_=>false
def Ei(s v:Sh)(k:s.T):List (s.T×v.T)->Option v.T
 |[]=>none
 |(a,b)::l=>bif Yj s k a then some b else Ei s v k l
def Hu(s v:Sh)(k:s.T)(x:v.T):List (s.T×v.T)->List (s.T×v.T)
 |[]=>[(k,x)]
 |(a,b)::l=>bif Yj s k a then(k,x)::l else(a,b)::Hu s v k x l
def SX(s v:Sh)(k:s.T):List (s.T×v.T)->List (s.T×v.T)
 |[]=>[]
 |(a,b)::l=>bif Yj s k a then l else(a,b)::SX s v k l
inductive Tr where
 |fail
 |leaf (v:PV) (ob:Ob)
 |ite (c:Bool) (a b:Tr)
 |both (a b:Tr)
 |cut (nd ro:Bool) (d:Nat) (f:FuncId) (base:Nat) (b:Code) (st:AM) (k:DX->AM->Tr)
 |alts (m:Nat) (f:Nat->Tr)
 |loop (nd ro:Bool) (d:Nat) (f:FuncId) (base:Nat) (b:Code) (st:AM) (k:DX->AM->Tr)
abbrev Tr.ck(c:Bool)(x:Tr):Tr:=.ite c x .fail
abbrev Tr.cd(P:Prop)[Decidable P](x:Tr):Tr:=.ite (decide P) x .fail
abbrev aa(k:Nat):Bool:=decide (1<=1)&&decide (0<1)&&decide ((3*1+2000)*k<=562949953421312)
abbrev ac(n m k:Nat):Bool:=decide (1<=1)&&true&&decide (n=m)&&decide ((3*(n+1)+2000)*k<=562949953421312)
abbrev Tr.di(P:Prop)[Decidable P](x y:Tr):Tr:=.ite (decide P) x y
inductive PO where
 |bad
 |val (v:PV) (st:AM)
 |ite (c:Bool) (a b:PO)
def PO.IK(c:Bool)(v:PV)(st:AM):PO:=.ite c (.val v st) .bad
mutual
def N1:Value->Option PV
 | .bool b=>some<|.bl b
 | .int k n=>some<|.dat (.int k) n
 | .string s=>some<|.dat .str s.data.toList
 | .pointer none=>some .nilp
 | .slice none 0 0=>some .nil
 | .map none=>some .nilm
 | .nilFunc=>some .nilf
 | .nilIface=>some .nili
 | .func f ⟨[]⟩ ⟨[]⟩=>some<|.fn f [] []
 | .agg ⟨cs⟩=>(bG cs).map .agg
 | .tuple ⟨cs⟩=>(bG cs).map .tup
 |_=>none
def bG:List Value->Option (List PV)
 |[]=>some []
 |v::vs=>match N1 v,bG vs with
  |some x,some xs=>some (x::xs)
  |_,_=>none
end
def W1:V->PV
 | .bool b=>.bl b
 | .int k n=>.dat (.int k) n
 | .str s=>.dat .str s
 | .nilp=>.nilp
 | .nils=>.nil
 | .nilm=>.nilm
 | .nilf=>.nilf
 | .nili=>.nili
 |_=>.any
def RF(st:AM):Operand->Option PV
 | .tmp t=>some<|st.get t
 | .const v=>N1 v
 | .global _=>none
 | .func f=>some<|.fn (.func f) [] []
def Ng(st:AM):List Operand->Option (List PV)
 |[]=>some []
 |x::xs=>match RF st x,Ng st xs with
  |some v,some vs=>some (v::vs)
  |_,_=>none
def bS(st:AM):List (Nat×Operand)->Option (List<|Nat×PV)
 |[]=>some []
 |(i,x)::xs=>match RF st x,bS st xs with
  |some v,some vs=>some ((i,v)::vs)
  |_,_=>none
def oI(T:Ce)(t:TypeId):Option (List PV):=(T.inf t).bind fun i=>bif LZ V.ok i.zero then some (i.zero.map W1)else none
def pick(d:TypeDesc)(n:Nat)(cs:List PV):Option PV:=
 bif Ek d then(bif zl n (ET cs)&&zg 0 n then some (.agg<|Zr n cs)else none)
 else match cs with
  |v::_=>some v
  |[]=>none
def ov(st:AM):Option PV->PO
 |some v=>.val v st
 |none=>.bad
def ovc(c:Bool)(st:AM):Option PV->PO
 |some v=>.IK c v st
 |none=>.bad
def chunk(s:Sh):Nat->List PV->Option (List s.T)
 |0,_=>some []
 |n+1,cs=>match CE s cs with
  |some (x,cs')=>(chunk s n cs').map (x:: ·)
  |none=>none
def O9(s:Sh)(l:List s.T):Nat->Nat->List PV
 |_,0=>[]
 |j,n+1=>flat s (l.getD j s.Hv)++O9 s l (ze j 1) n
def zsh:List V->Option Sh
 | .bool _::_=>some .bool
 | .int k _::_=>some<|.int k
 |_=>none
def isZ:Sh->V->Bool
 | .bool,.bool b=> !b
 | .int k,.int a n=>decide (k=a)&&decide (n=0)
 |_,_=>false
def Abs(T:Ce)(t:TypeId):Option (Sh×Nat):=
 match T.und t,T.inf t with
 |some (.array _ _),some i=>match zsh i.zero with
  |some s=>bif zl 32 (ET i.zero)&&LZ (isZ s) i.zero then some (s,ET i.zero)else none
  |none=>none
 |_,_=>none
def NJ(T:Ce)(st:AM)(t:TypeId)(a:PV):PO:=
 match T.und t,T.inf t with
 |some d,some i=>match a with
  | .ptr id off=>match st.obj id with
   |some (.box cs)=>ov st<|pick d i.size<|Kj off cs
   |some (.arr _ _ s l)=>bif zc off 0&&zc s.sz 1 then ovc (decide (l.length=i.size)) st (pick d i.size<|O9 s l 0 i.size)else .bad
   |some (.tbox _ cs)=>ov st<|pick d i.size<|Kj off cs
   |_=>.bad
  | .eptr id sz j off=>match st.obj id with
   |some (.arr _ _ s l)=>bif zc sz s.sz then ovc (decide (j<l.length)) st (pick d i.size<|Kj off<|flat s<|l.getD j s.Hv)else .bad
   |_=>.bad
  | .Bc s x off=>ov st<|pick d i.size<|Kj off<|flat s x
  |_=>.bad
 |_,_=>.bad
def II:Option Obj->Bool
 |some _=>true
 |none=>false
def Ks(st:AM):PV->Bool
 | .agg _| .tup _| .any| .ub=>false
 | .ptr id _| .eptr id _ _ _| .sl id _ _ _ _| .mp id| .yl id=>II<|st.obj id
 |_=>true
def pcs(st:AM):PV->Option (List PV)
 | .agg l=>some l
 |p=>bif Ks st p then some [p]else none
def WV(T:Ce)(st:AM)(t:TypeId)(a x:PV):PO:=
 match T.inf t,pcs st x with
 |some i,some xs=>bif zc (ET xs) i.size&&LZ (Ks st) xs then
   match a with
   | .ptr id off=>match st.obj id with
    |some (.box cs)=>bif zl (ze off i.size) (ET cs)then .val (.tup []) (st.setObj id<|.box<|CJ off xs cs)else .bad
    |some (.arr false e s l)=>bif zc off 0&&zc s.sz 1 then
      match chunk s i.size xs with
      |some y=>.IK (decide (l.length=i.size)) (.tup [])<|st.setObj id<|.arr false e s y
      |none=>.bad
     else .bad
    |some (.tbox tb cs)=>bif zl (ze off i.size) (ET cs)then .val (.tup []) (st.setObj id<|.tbox tb<|CJ off xs cs)else .bad
    |_=>.bad
   | .eptr id sz j off=>match st.obj id with
    |some (.arr false e s l)=>bif zc sz s.sz&&zl (ze off i.size) sz then
      match Dr s (CJ off xs<|flat s<|l.getD j s.Hv)with
      |some y=>.IK (decide (j<l.length)) (.tup [])<|st.setObj id<|.arr false e s<|l.set j y
      |none=>.bad
     else .bad
    |_=>.bad
   |_=>.bad
  else .bad
 |_,_=>.bad
def Is(k:IntKind)(a b:Int):Int:=k.wrap (zf k.bits a&&&zf k.bits b).toNat
def cY(k:IntKind)(a b:Int):Int:=k.wrap (zf k.bits a|||zf k.bits b).toNat
def AfQ(k:IntKind)(a b:Int):Int:=k.wrap (zf k.bits a^^^zf k.bits b).toNat
def Ac7(k:IntKind)(a b:Int):Int:=k.wrap (zf k.bits a&&& ~~~zf k.bits b).toNat
def Abh(op:BinOp)(k:IntKind)(a b:Int)(st:AM):PO:=
 match op with
 | .add=>.val (.dat (.int k)<|k.wrap<|a+b) st
 | .sub=>.val (.dat (.int k)<|k.wrap<|a-b) st
 | .mul=>.val (.dat (.int k)<|k.wrap<|a*b) st
 | .quo=>.IK (decide (b≠0)) (.dat (.int k)<|k.wrap<|a.tdiv b) st
 | .rem=>.IK (decide (b≠0)) (.dat (.int k)<|a.tmod b) st
 | .and=>.val (.dat (.int k)<|Is k a b) st
 | .or=>.val (.dat (.int k)<|cY k a b) st
 | .xor=>.val (.dat (.int k)<|AfQ k a b) st
 | .andNot=>.val (.dat (.int k)<|Ac7 k a b) st
 | .eql=>.val (.dat .bool<|a==b) st
 | .neq=>.val (.dat .bool<|a !=b) st
 | .lss=>.val (.dat .bool<|decide (a<b)) st
 | .leq=>.val (.dat .bool<|decide (a<=b)) st
 | .gtr=>.val (.dat .bool<|decide (a>b)) st
 | .geq=>.val (.dat .bool<|decide (a>=b)) st
 |_=>.bad
def psh(op:BinOp)(k:IntKind)(a b:Int)(st:AM):PO:=
 match op with
 | .shl=>.IK (decide (0<=b)) (.dat (.int k)<|k.wrap<|a*2^(min b.toNat k.bits)) st
 | .shr=>.IK (decide (0<=b)) (.dat (.int k)<|a.fdiv<|2^(min b.toNat k.bits)) st
 |_=>.bad
def AaM(op:BinOp)(x y:Z)(st:AM):PO:=
 match op with
 | .add=>.IK (decide (x.length+y.length<=4611686018427387904)) (.dat .str<|x++y) st
 | .eql=>.val (.dat .bool<|x==y) st
 | .neq=>.val (.dat .bool<|!(x==y)) st
 | .lss=>.val (.dat .bool<|zi x y) st
 | .leq=>.val (.dat .bool<|zi x y||x==y) st
 | .gtr=>.val (.dat .bool<|!(zi x y||x==y)) st
 | .geq=>.val (.dat .bool<|!zi x y) st
 |_=>.bad
def wM:BinOp->Bool
 | .shl| .shr=>true
 |_=>false
def J1:PV->Option Bool
 | .bl b=>some b
 | .dat .bool b=>some b
 |_=>none
def Hp:List FK->List PV->List PV->Option Bool
 |[],[],[]=>some true
 | .int k::ks,.dat (.int d) a::xs,.dat (.int e) b::c=>bif k==d&&k==e then(Hp ks xs c).map fun r=>(a:Int)==(b:Int)&&r else none
 | .str::ks,.dat .str a::xs,.dat .str b::c=>(Hp ks xs c).map fun r=>(a:Z)==(b:Z)&&r
 | .bool::ks,a::xs,b::c=>match J1 a,J1 b with
  |some a,some b=>(Hp ks xs c).map fun r=>a==b&&r
  |_,_=>none
 |_,_,_=>none
def SM(st:AM)(ng:Bool)(x:PV):PO:=
 match x with
 | .nil=>.val (.bl<|!ng) st
 | .sl id _ _ _ _=>bif II (st.obj id)then .val (.bl ng) st else .bad
 | .dat (.list _) l=>.ite (decide (0<l.length)) (.val (.bl ng) st)<|.val .ub st
 | .dat (.nlist _) l=>.val (.dat .bool<|bif ng then decide (0<l.length)else !decide (0<l.length)) st
 |_=>.bad
def jK(op:BinOp)(x y:PV)(st:AM):PO:=
 match op,x,y with
 | .eql,x,.nil=>SM st false x
 | .neq,x,.nil=>SM st true x
 |_,_,_=>.bad
def ptrEq(T:Ce)(e:TypeId)(st:AM)(x y:PV):Option Bool:=
 match x,y with
 | .nilp,.nilp=>some true
 | .ptr id _,.nilp=>bif II (st.obj id)then some false else none
 | .nilp,.ptr id _=>bif II (st.obj id)then some false else none
 | .ptr a i,.ptr b j=>bif zc a b&&II (st.obj a)then match T.inf e with
   |some c=>bif zg 0 c.size then some (zc i j)else none
   |none=>none
  else none
 |_,_=>none
def Abp(T:Ce)(op:BinOp)(t:TypeId)(x y:PV)(st:AM):PO:=
 match x,y with
 | .dat (.int k) a,.dat (.int c) b=>bif wM op then psh op k a b st else(bif k==c then Abh op k a b st else .bad)
 | .dat .str a,.dat .str b=>AaM op a b st
 | .agg xs,.agg d=>match T.flat t with
  |some ks=>match op,Hp ks xs d with
   | .eql,some r=>.val (.dat .bool r) st
   | .neq,some r=>.val (.dat .bool<|!r) st
   |_,_=>.bad
  |none=>.bad
 |x,y=>match J1 x,J1 y,T.und t with
  |some a,some b,some .bool=>match op with
   | .eql=>.val (.dat .bool<|a==b) st
   | .neq=>.val (.dat .bool<|!(a==b)) st
   |_=>.bad
  |_,_,some (.slice _)=>jK op x y st
  |_,_,some (.pointer e)=>match op,ptrEq T e st x y with
   | .eql,some r=>.val (.bl r) st
   | .neq,some r=>.val (.bl<|!r) st
   |_,_=>.bad
  |_,_,_=>.bad
def pun(op:UnOp)(x:PV)(st:AM):PO:=
 match op,x with
 | .neg,.dat (.int k) n=>.val (.dat (.int k)<|k.wrap<|0-(n:Int)) st
 | .not,.bl b=>.val (.bl<|!b) st
 | .not,.ub=>.val .ub st
 | .not,.dat .bool b=>.val (.dat .bool<|!b) st
 |_,_=>.bad
def kU(T:Ce)(s d:TypeId)(x:PV)(st:AM):PO:=
 match T.und s,T.und d,x with
 |some _,some<|.int k,.dat (.int _) n=>.val (.dat (.int k)<|k.wrap n) st
 |some .string,some .string,.dat .str s=>.val (.dat .str s) st
 |_,_,_=>.bad
def iE(c a b:PV)(st:AM):PO:=
 match c with
 | .bl t=>.val (bif t then a else b) st
 | .dat .bool t=>match a,b with
  | .dat .bool x,.bl false=>.val (.dat .bool<|t&&x) st
  | .bl true,.dat .bool x=>.val (.dat .bool<|t||x) st
  |_,_=>.ite t (.val a st)<|.val b st
 |_=>.bad
def XJ(T:Ce)(t:TypeId)(x:PV)(f:Nat)(st:AM):PO:=
 match T.und t,x with
 |some (.struct fs),.agg cs=>match fs[f]? with
  |some a=>match T.und a.type,T.inf a.type with
   |some d,some i=>ov st<|pick d i.size<|Kj a.offset cs
   |_,_=>.bad
  |none=>.bad
 |_,_=>.bad
def XQ(T:Ce)(t:TypeId)(x:PV)(f:Nat)(st:AM):PO:=
 match T.und t with
 |some (.struct fs)=>match fs[f]? with
  |some a=>match T.inf a.type with
   |some i=>bif zc i.size 0 then .bad else match x with
    | .ptr id off=>bif II (st.obj id)then .val (.ptr id<|ze off a.offset) st else .bad
    | .eptr id sz j off=>bif II (st.obj id)then .val (.eptr id sz j<|ze off a.offset) st else .bad
    | .Bc s y off=>.val (.Bc s y<|ze off a.offset) st
    |_=>.bad
   |none=>.bad
  |none=>.bad
 |_=>.bad
def SQ(T:Ce)(t:TypeId)(x b:PV)(st:AM):PO:=
 match T.und t,b with
 |some (.slice e),.dat (.int _) i=>match T.inf e with
  |some a=>match x with
   | .dat (.list s) l=>bif zc a.size s.sz then .IK (decide (0<=(i:Int))&&decide ((i:Int)<(l.length:Int))) (.Bc s (l.getD (zd i) s.Hv) 0) st else .bad
   | .sl id sz off len _=>bif zc a.size sz&&II (st.obj id)then .IK (decide (0<=(i:Int))&&decide ((i:Int)<(len:Int))) (.eptr id sz (ze (zd i) off) 0) st else .bad
   |_=>.bad
  |none=>.bad
 |some (.array len e),.dat (.int _) i=>match T.inf e with
  |some a=>match x with
   | .ptr id off=>match st.obj id with
    |some (.arr _ _ s _)=>bif zc off 0&&zc a.size s.sz then .IK (decide (0<=(i:Int))&&decide ((i:Int)<(len:Int))) (.eptr id s.sz (zd i) 0) st else .bad
    |some _=>.IK (decide (0<=(i:Int))&&decide ((i:Int)<(len:Int))) (.ptr id<|ze off<|zm (zd i) a.size) st
    |none=>.bad
   | .eptr id sz j off=>bif II (st.obj id)then .IK (decide (0<=(i:Int))&&decide ((i:Int)<(len:Int))) (.eptr id sz j<|ze off<|zm (zd i) a.size) st else .bad
   | .Bc s y off=>.IK (decide (0<=(i:Int))&&decide ((i:Int)<(len:Int))) (.Bc s y<|ze off<|zm (zd i) a.size) st
   |_=>.bad
  |none=>.bad
 |_,_=>.bad
def kP(T:Ce)(t:TypeId)(x a:PV)(st:AM):PO:=SQ T t (lz x) a st
def Xn(T:Ce)(t:TypeId)(x b:PV)(st:AM):PO:=
 match T.und t,x,b with
 |some .string,.dat .str s,.dat (.int _) i=>.IK (decide (0<=(i:Int))&&decide ((i:Int)<((s:Z).length:Int))) (.dat (.int .u8) (((s:Z).getD (zd i) 0).toNat:Int)) st
 |some (.array len e),.agg cs,.dat (.int _) i=>match T.und e,T.inf e with
  |some d,some a=>ovc (decide (0<=(i:Int))&&decide ((i:Int)<(len:Int))) st<|pick d a.size<|Kj (zm (zd i) a.size) cs
  |_,_=>.bad
 |_,_,_=>.bad
def P7(x:PV)(i:Nat)(st:AM):PO:=
 match x with
 | .tup vs=>match vs[i]? with
  |some v=>.val v st
  |none=>.bad
 |_=>.bad
def pb(x:Option PV)(Hv:Nat):Option (Bool×Nat):=
 match x with
 |none=>some (true,Hv)
 |some (.dat (.int _) n)=>some (decide (0<=(n:Int)),zd n)
 |_=>none
def has(mx:Option PV)(c:Nat):Bool:=match mx with
 |none=>true
 |some _=>decide (0<c)
def Ut(T:Ce)(t:TypeId)(x:PV)(lo c mx:Option PV)(st:AM):PO:=
 match T.und t with
 |some .string=>match x,mx with
  | .dat .str s,none=>match pb lo 0,pb c (s:Z).length with
   |some (a,l),some (b,h)=>.IK (a&&b&&decide (l<=h)&&decide (h<=(s:Z).length)) (.dat .str<|((s:Z).drop l).take<|Nat.sub h l) st
   |_,_=>.bad
  |_,_=>.bad
 |some (.slice e)=>match T.inf e with
  |some f=>match x with
   | .dat (.list s) xs=>bif zc f.size s.sz then
     match pb lo 0,pb c xs.length,mx with
     |some (a,l),some (b,h),none=>.IK (a&&b&&decide (l<=h)&&decide (h<=xs.length)) (.dat (.list s)<|(xs.drop l).take<|Nat.sub h l) st
     |_,_,_=>.bad
    else .bad
   | .sl id sz off len cap=>bif zc f.size sz&&II (st.obj id)then
     match c,mx with
     |none,some _=>.bad
     |_,_=>match pb lo 0,pb c len,pb mx (cap.getD len)with
      |some (a,l),some (b,h),some (d,m)=>.IK (a&&b&&d&&decide (l<=h)&&decide (h<=m)&&decide (m<=cap.getD len)&&has mx (cap.getD len)) (.sl id sz (ze off l) (Nat.sub h l)<|some<|Nat.sub m l) st
      |_,_,_=>.bad
    else .bad
   | .nil=>match pb lo 0,pb c 0,mx with
    |some (a,l),some (b,h),none=>.IK (a&&b&&decide (l<=h)&&decide (h<=0)) .nil st
    |some (a,l),some (b,h),some q=>match c,pb (some q) 0 with
     |some _,some (d,m)=>.IK (a&&b&&d&&decide (l<=h)&&decide (h<=m)&&decide (m<=0)) .nil st
     |_,_=>.bad
    |_,_,_=>.bad
   |_=>.bad
  |none=>.bad
 |_=>.bad
def iO(T:Ce)(t:TypeId)(x:PV)(lo a mx:Option PV)(st:AM):PO:=Ut T t (lz x) lo a mx st
def pi64(n:Nat):PV:=.dat (.int .i64)<|Int.ofNat n
def VP(T:Ce)(ts:Array TypeId)(args:List PV)(st:AM):PO:=
 match ts[0]?,args with
 |some t,[x]=>match T.und t,x with
  |some .string,.dat .str s=>.val (pi64 (s:Z).length) st
  |some (.slice _),.dat (.list _) l=>.val (pi64 l.length) st
  |some (.slice _),.sl id _ _ len _=>bif II (st.obj id)then .val (pi64 len) st else .bad
  |some (.slice _),.nil=>.val (pi64 0) st
  |some (.map _ _),.mp id=>match st.obj id with
   |some (.map _ _ l)=>.val (pi64 l.length) st
   |_=>.bad
  |_,_=>.bad
 |_,_=>.bad
def sV(T:Ce)(ts:Array TypeId)(args:List PV)(st:AM):PO:=VP T ts (args.map lz) st
def pmm(f:Int->Int->Int)(k:IntKind):Int->List PV->Option Int
 |x,[]=>some x
 |x,.dat (.int b) y::a=>bif k==b then pmm f k (f x y) a else none
 |_,_=>none
def OI(f:Int->Int->Int)(args:List PV)(st:AM):PO:=
 match args with
 | .dat (.int k) x::a=>match pmm f k x a with
  |some z=>.val (.dat (.int k) z) st
  |none=>.bad
 |_=>.bad
def imax(x y:Int):Int:=if y>x then y else x
def E2(x y:Int):Int:=if y<x then y else x
def Ol(st:AM)(s:Sh)(x:PV):Option (Bool×List s.T):=
 match x with
 | .nil=>some (true,[])
 | .dat (.list a) l=>(D6 (.list a) (.list s) l).map fun r=>(true,r)
 | .sl id sz off len _=>match st.obj id with
  |some (.arr _ _ a l)=>bif zc sz a.sz then(D6 (.list a) (.list s) l).map fun r=>(decide (off+len<=r.length),(r.drop off).take len)else none
  |_=>none
 | .dat .str l=>(D6 (.list<|.int .u8) (.list s)<|List.map (fun b:UInt8=>(b.toNat:Int)) l).map fun r=>(true,r)
 |_=>none
def P1(st:AM)(s:Sh)(x:PV):Option (Bool×List s.T):=Ol st s<|lz x
def LIM:Nat:=281474976710656
def jY:Nat:=562949953421312
def TS:TypeDesc->Bool
 | .slice _=>true
 | .string=>true
 |_=>false
def Tw(T:Ce)(ts:Array TypeId)(args:List PV)(st:AM):PO:=
 match ts[0]?,ts[1]?,args with
 |some t,some d,[b,x]=>match T.und t,T.und d with
  |some (.slice e),some g=>bif TS g then match T.inf e,Xm T 9 e with
   |some i,some s=>
    bif zg 0 i.bytes&&zg 0 i.size&&zc i.zero.length i.size&&zc i.size s.sz then
     match P1 st s x with
     |some (c,new)=>match b with
      | .nil=>match x with
       | .nil=>.val .nil st
       | .dat _ _=>.ite (decide (0<new.length)) (.IK (c&&decide ((3*new.length+2000)*i.bytes<=jY)) (.sl st.nx s.sz 0 new.length none)<|st.push<|.arr false e s new)<|.val .nil st
       | .sl _ _ _ _ (some _)=>.ite (decide (0<new.length)) (.IK (c&&decide ((3*new.length+2000)*i.bytes<=jY)) (.sl st.nx s.sz 0 new.length none)<|st.push<|.arr false e s new)<|.IK c .nil st
       |_=>.IK (c&&decide (0<new.length)&&decide ((3*new.length+2000)*i.bytes<=jY)) (.sl st.nx s.sz 0 new.length none)<|st.push<|.arr false e s new
      | .sl id sz off len cap=>match st.obj id with
       |some (.arr false f a l)=>match D6 (.list a) (.list s) l with
        |some l'=>bif zc e f&&zc sz s.sz then
          match cap with
          |none=>.IK (c&&decide (off=0)&&decide (len=l'.length)&&decide ((3*(len+new.length)+2000)*i.bytes<=jY)) (.sl st.nx s.sz 0 (ze len new.length) none)<|(st.QW id).push<|.arr false e s<|l'++new
          |some k=>.IK (c&&decide (len+new.length<=k)&&decide (off+k<=l'.length)) (.sl id sz off (ze len new.length)<|some k) (st.setObj id<|.arr false e s<|l'.take (off+len)++(new++l'.drop (off+len+new.length)))
         else .bad
        |none=>.bad
       |_=>.bad
      |_=>.bad
     |none=>.bad
    else .bad
   |_,_=>.bad
   else .bad
  |_,_=>.bad
 |_,_,_=>.bad
def W2(T:Ce)(ts:Array TypeId)(args:List PV)(st:AM):PO:=
 match ts[0]?,args with
 |some t,[x]=>match T.und t with
  |some (.slice e)=>match x with
   | .nil=>.val (.tup []) st
   | .sl id sz off len _=>match T.inf e,st.obj id with
    |some i,some (.arr false a s l)=>
     bif zc sz s.sz&&zg 0 i.zero.length&&zc i.zero.length s.sz&&LZ V.one i.zero then
      match Dr s (i.zero.map W1)with
      |some z=>.IK (decide (off+len<=l.length)) (.tup [])<|st.setObj id<|.arr false a s<|l.take off++(zj len z++l.drop (off+len))
      |none=>.bad
     else .bad
    |_,_=>.bad
   |_=>.bad
  |_=>.bad
 |_,_=>.bad
def Yh(args:List PV)(st:AM):PO:=
 match args with
 |[.sl id sz off len none]=>bif II (st.obj id)then .IK (decide (0<len)) (.eptr id sz off 0) st else .bad
 |_=>.bad
def W6(l:List Int):Z:=l.map fun x=>UInt8.ofNat x.toNat
def RY(l:List Int):Bool:=l.all fun x=>decide (0<=x)&&decide (x<256)
def gG(T:Ce)(ts:List TypeId)(args:List PV)(st:AM):PO:=
 match ts,args with
 |[pt,_],[.eptr id _ i 0,.dat (.int .i64) n]=>match T.und pt,st.obj id with
  |some (.pointer e),some (.arr false b s l)=>match T.inf e,D6 (.list s) (.list<|.int .u8) l with
   |some c,some a=>bif zc c.size 1&&zc e b then
     .IK (decide (i=0)&&decide (0<(n:Int))&&decide (zd n<=(a:List Int).length)&&decide (zd n<=9223372036854775807)&&RY a) (.dat .str<|W6<|(a:List Int).take<|zd n) (st.QW id)
    else .bad
   |_,_=>.bad
  |_,_=>.bad
 |_,_=>.bad
def IY(T:Ce)(b:Builtin)(ts:Array TypeId)(args:List PV)(st:AM):PO:=
 match b with
 | .len=>sV T ts args st
 | .append=>Tw T ts args st
 | .max=>OI imax args st
 | .min=>OI E2 args st
 | .clear=>W2 T ts args st
 | .unsafeSliceData=>Yh args st
 | .unsafeString=>gG T ts.toList args st
 |_=>.bad
def rune(s:Z)(pos:Nat):Int:=(zk (bytesOf s) pos).1
def Kr(s:Z)(pos:Nat):Nat:=(zk (bytesOf s) pos).2
def Xi(T:Ce)(t:TypeId)(x:PV)(st:AM):PO:=
 match T.und t,x with
 |some .string,.dat .str s=>.val (.ptr st.nx 0)<|st.push<|.siter s 0
 |_,_=>.bad
def oK(x:PV)(a:Bool)(st:AM):PO:=
 match x,a with
 | .ptr id 0,true=>match st.obj id with
  |some (.siter s pos)=>.ite (decide (pos<s.length)) (.val (.tup [.bl true,.dat (.int .i64)<|Int.ofNat pos,.dat (.int .i32)<|rune s pos])<|st.setObj id<|.siter s<|ze pos<|Kr s pos)<|.val (.tup [.bl false]) st
  |_=>.bad
 |_,_=>.bad
def Si(st:AM)(place:Nat->Option (Nat×Nat))(cells:List PV):List (Nat×PV)->Option (List PV)
 |[]=>some cells
 |(i,v)::a=>match place i with
  |none=>none
  |some (off,size)=>match pcs st v with
   |some vs=>bif zc (ET vs) size&&zl (ze off size) (ET cells)then Si st place (CJ off vs cells) a else none
   |none=>none
def Xk(T:Ce)(st:AM)(t:TypeId)(a:List (Nat×PV)):Option PV:=
 match T.inf t,T.und t with
 |some i,some (.struct fs)=>
  match fs.toList.mapM (fun f=>(T.inf f.type).map fun j=>(f.offset,j.size))with
  |some pl=>(Si st (fun i=>pl[i]?) (i.zero.map W1) a).map .agg
  |none=>none
 |some i,some (.array _ e)=>match T.inf e with
  |some j=>(Si st (fun i=>some (i*j.size,j.size)) (i.zero.map W1) a).map .agg
  |none=>none
 |_,_=>none
def KQ(z:List PV):Nat->List PV
 |0=>[]
 |n+1=>z++KQ z n
def B3(st:AM):PV->Option (Bool×PV)
 | .sl id sz off len _=>match st.obj id with
  |some (.arr _ _ s l)=>bif zc sz s.sz then some (decide (off+len<=l.length),.dat (.list s)<|(l.drop off).take len)else none
  |_=>none
 | .dat s x=>some (true,.dat s x)
 | .Bc s x off=>some (true,.Bc s x off)
 | .bl b=>some (true,.bl b)
 | .nil=>some (true,.nil)
 |_=>none
def Dl(st:AM):List PV->Option (Bool×List PV)
 |[]=>some (true,[])
 |v::vs=>match B3 st v,Dl st vs with
  |some (c,x),some (d,xs)=>some (c&&d,x::xs)
  |_,_=>none
def BK(st:AM):PV->AM
 | .sl id _ _ _ _=>match st.obj id with
  |some (.arr _ e s l)=>st.setObj id<|.arr true e s l
  |_=>st
 |_=>st
def By:List PV->AM->AM
 |[],st=>st
 |v::vs,st=>By vs<|BK st v
def Ta(T:Ce)(t:TypeId)(len:Nat)(a:List (Nat×PV))(st:AM):PO:=
 match T.und t with
 |some (.slice e)=>match T.inf e,Xm T 9 e with
  |some i,some s=>
   bif zl (zm len i.size) 16777216&&zg 0 i.zero.length&&zc i.zero.length i.size&&zc i.size s.sz then
    match Si st (fun k=>some (k*i.size,i.size)) (KQ (i.zero.map W1) len) a with
    |some cs=>match chunk s len cs with
     |some l=>.val (.sl st.nx s.sz 0 len none)<|st.push<|.arr false e s l
     |none=>match Dl st cs with
      |some (c,cs')=>match chunk s len cs' with
       |some l=>.IK c (.sl st.nx s.sz 0 len none)<|(By cs st).push<|.arr false e s l
       |none=>.bad
      |none=>.bad
    |none=>.bad
   else .bad
  |_,_=>.bad
 |_=>.bad
def qA(T:Ce)(t:TypeId)(l c:PV)(st:AM):PO:=
 match T.und t,l,c with
 |some (.slice e),.dat (.int _) l,.dat (.int _) c=>match T.inf e,Xm T 9 e with
  |some i,some s=>
   bif zg 0 i.zero.length&&zc i.zero.length i.size&&zc i.size s.sz then
    match Dr s (i.zero.map W1)with
    |some z=>.IK (decide (0<=(l:Int))&&decide ((l:Int)=(c:Int))&&decide (i.bytes*zd l<=LIM)&&decide ((l:Int)<9223372036854775808)) (.sl st.nx s.sz 0 (zd l) none)<|st.push<|.arr false e s<|zj (zd l) z
    |none=>.bad
   else .bad
  |_,_=>.bad
 |_,_,_=>.bad
def vS(T:Ce)(t:TypeId):Option Sh:=match T.und t with
 |some (.int k)=>some<|.int k
 |some .string=>some .str
 |some .bool=>some .bool
 |_=>none
def Ma:PV->Bool
 | .agg _=>true
 |_=>false
def asV(s:Sh)(p:PV):Option s.T:=bif Ma p==s.Rt then Dr s p.cells else none
def XS(T:Ce)(t:TypeId)(st:AM):PO:=match T.und t with
 |some (.map a e)=>match vS T a,Xm T 9 e with
  |some ks,some vs=>.val (.mp st.nx)<|st.push<|.map ks vs []
  |_,_=>.bad
 |_=>.bad
def mK(st:AM)(ks vs:Sh)(m:PV):Option (List<|ks.T×vs.T):=match m with
 | .nilm=>some []
 | .mp id=>match st.obj id with
  |some (.map a b l)=>D6 (.list<|.pair a b) (.list<|.pair ks vs) l
  |_=>none
 |_=>none
def vAg:V->Bool
 | .agg _=>true
 |_=>false
def plk(ks vs:Sh)(ok:Bool)(z:vs.T)(x:ks.T)(st:AM):List (ks.T×vs.T)->PO
 |[]=>.val (bif ok then .tup [Cp vs z,.bl false]else Cp vs z) st
 |(a,b)::l=>.ite (Yj ks x a) (.val (bif ok then .tup [Cp vs b,.bl true]else Cp vs b) st)<|plk ks vs ok z x st l
def Uo(T:Ce)(t:TypeId)(m k:PV)(ok:Bool)(st:AM):PO:=match T.und t with
 |some (.map a e)=>match vS T a,Xm T 9 e,T.inf e with
  |some ks,some vs,some i=>match wQ ks k,mK st ks vs m,Dr vs (i.zero.map W1)with
   |some x,some l,some z=>
    bif vAg i.zv==vs.Rt then bif vs.wX then plk ks vs ok z x st l else
     (let v:=Cp vs ((Ei ks vs x l).getD z)
     .val (bif ok then .tup [v,.dat .bool (Ei ks vs x l).isSome]else v) st)
    else .bad
   |_,_,_=>.bad
  |_,_,_=>.bad
 |_=>.bad
def Ty(T:Ce)(t:TypeId)(m k v:PV)(st:AM):PO:=match T.und t,m with
 |some (.map b _),.mp id=>match vS T b,st.obj id with
  |some ks,some (.map a vs l)=>match wQ ks k,D6 (.list<|.pair a vs) (.list<|.pair ks vs) l,asV vs v with
   |some x,some l,some y=>.val (.tup [])<|st.setObj id<|.map ks vs<|Hu ks vs x y l
   |_,_,_=>.bad
  |_,_=>.bad
 |_,_=>.bad
def Uc(T:Ce)(ts:Array TypeId)(args:List PV)(st:AM):PO:=match ts[0]?,args with
 |some t,[.mp id,k]=>match T.und t with
  |some (.map b _)=>match vS T b,st.obj id with
   |some ks,some (.map a vs l)=>match wQ ks k,D6 (.list<|.pair a vs) (.list<|.pair ks vs) l with
    |some x,some l=>.val (.tup [])<|st.setObj id<|.map ks vs<|SX ks vs x l
    |_,_=>.bad
   |_,_=>.bad
  |_=>.bad
 |_,_=>.bad
abbrev LI:=Ce->AM->PO
def v1(st:AM)(x:Operand)(k:PV->PO):PO:=match RF st x with|some v=>k v|none=>.bad
def Yf(x:Operand):LI:=fun _ st=>ov st<|RF st x
def lM(c a b:Operand):LI:=fun _ st=>v1 st c fun c=>v1 st a fun a=>v1 st b fun b=>iE c a b st
def zR(T:Ce)(t:TypeId):Bool:=
 match T.und t with
 |some (.struct fs)=>match fs[0]? with
  |some f=>match T.und f.type with
   |some (.pointer u)=>zc u t
   |_=>false
  |none=>false
 |_=>false
def SZ(t:TypeId):LI:=fun T st=>match Abs T t with
 |some (s,n)=>.val (.ptr st.nx 0)<|st.push<|.arr false t s<|zj n s.Hv
 |none=>match oI T t with|some cs=>.val (.ptr st.nx 0) (st.push<|bif zR T t then .tbox t cs else .box cs)|none=>.bad
def zZ(_:TypeId)(x:Operand):LI:=fun _ st=>v1 st x fun v=>match pcs st v with|some cs=>bif LZ (Ks st) cs then .val (.ptr st.nx 0) (st.push<|.box cs)else .bad|none=>.bad
def Zs(t:TypeId)(ps:Array (Nat×Operand)):LI:=fun T st=>match bS st ps.toList with|some l=>ov st (Xk T st t l)|none=>.bad
def VV(t:TypeId)(n:Nat)(ps:Array (Nat×Operand)):LI:=fun T st=>match bS st ps.toList with|some l=>Ta T t n l st|none=>.bad
def mQ(t:TypeId)(x:Operand):LI:=fun T st=>v1 st x fun a=>NJ T st t a
def aH(t:TypeId)(x y:Operand):LI:=fun T st=>v1 st x fun a=>v1 st y fun b=>WV T st t a b
def QL(x:Operand):LI:=fun _ st=>v1 st x fun a=>match a with| .ptr id _| .eptr id _ _ _=>bif II (st.obj id)then .val a st else .bad| .Bc .. =>.val a st|_=>.bad
def zO(T:Ce)(op:BinOp)(t:TypeId)(x y:Operand)(a b:PV):Option Bool:=
 match op,a,b,T.und t with
 | .eql,.nili,.nili,some (.interface _)=>bif Z4 x||Z4 y then some true else none
 | .neq,.nili,.nili,some (.interface _)=>bif Z4 x||Z4 y then some false else none
 |_,_,_,_=>none
def Aao(op:BinOp)(t:TypeId)(x y:Operand)(_:TypeId):LI:=fun T st=>v1 st x fun a=>v1 st y fun b=>match zO T op t x y a b with|some r=>.val (.bl r) st|none=>Abp T op t a b st
def AcO(op:UnOp)(_:TypeId)(x:Operand):LI:=fun _ st=>v1 st x fun a=>pun op a st
def nE(s d:TypeId)(x:Operand):LI:=fun T st=>v1 st x fun a=>kU T s d a st
def nJ(f:Fn)(a b:Array Operand):LI:=fun _ st=>match Ng st a.toList,Ng st b.toList with|some x,some y=>.val (.fn f x y) st|_,_=>.bad
def pP(t:TypeId)(l c:Operand):LI:=fun T st=>v1 st l fun a=>v1 st c fun b=>qA T t a b st
def o1(st:AM)(x:Option Operand)(k:Option PV->PO):PO:=match x with|none=>k none|some y=>v1 st y fun v=>k<|some v
def Ze(t:TypeId)(x:Operand)(a b c:Option Operand):LI:=fun T st=>v1 st x fun v=>o1 st a fun l=>o1 st b fun h=>o1 st c fun m=>iO T t v l h m st
def Y1(t:TypeId)(x:Operand)(f:Nat):LI:=fun T st=>v1 st x fun a=>XQ T t a f st
def ZT(t:TypeId)(x:Operand)(f:Nat):LI:=fun T st=>v1 st x fun a=>XJ T t a f st
def Y2(t:TypeId)(x i:Operand):LI:=fun T st=>v1 st x fun a=>v1 st i fun b=>kP T t a b st
def Z9(t:TypeId)(x i:Operand):LI:=fun T st=>v1 st x fun a=>v1 st i fun b=>Xn T t a b st
def RT(x:Operand)(i:Nat):LI:=fun _ st=>v1 st x fun a=>P7 a i st
def TJ(c:Call):LI:=fun T st=>
 match Ng st c.args.toList with
 |none=>.bad
 |some args=>match c.callee with
  | .builtin b=>match b with
   | .delete=>Uc T c.argTypes args st
   |_=>IY T b c.argTypes args st
  |_=>.bad
def aJ(t:TypeId)(r:Option Operand):LI:=fun T st=>match r with|none=>XS T t st|some _=>.bad
def UR(t:TypeId)(x i:Operand)(ok:Bool):LI:=fun T st=>v1 st x fun a=>v1 st i fun b=>Uo T t a b ok st
def Pt(t:TypeId)(m k x:Operand):LI:=fun T st=>v1 st m fun a=>v1 st k fun b=>v1 st x fun c=>Ty T t a b c st
def Z6(t:TypeId)(x:Operand):LI:=fun T st=>v1 st x fun a=>Xi T t a st
def pO(x:Operand)(b:Bool):LI:=fun _ st=>v1 st x fun a=>oK a b st
def J9:LI:=fun _ _=>.bad
def pop(o:Op):LI:=@Op.casesOn (fun _=>LI) o Yf Yf lM SZ zZ Zs VV Pt mQ aH (fun _=>J9) (fun _=>J9) QL Aao AcO nE
 (fun _ _=>J9) (fun _ _=>J9) nJ aJ (fun _ _=>J9) pP Ze Y1 ZT Y2 Z9 UR Pt (fun _ _ _=>J9) (fun _ _ _ _=>J9)
 Z6 pO (fun _=>J9) (fun _ _ _ _=>J9) RT TJ (fun _=>J9) (fun _=>J9) (fun _=>J9) (fun _ _=>J9) (fun _ _ _=>J9) (fun _ _=>J9)
theorem NA{s:Z}{i:Nat}(h:i<s.length):(bytesOf s).get! i=s.getD i 0:=by
 unfold bytesOf;show(s.toArray)[i]! =_;simp[h]
theorem U4{s:Z}{i:Nat}(h:i<s.length)(a:(s.getD i 0).toNat<128):rune s i=((s.getD i 0).toNat:Int)/\Kr s i=1:=by
 unfold rune Kr zk;have e:=NA h;simp only[Nat.add_zero,e,a,wk];simp
theorem Su{s:Z}{i:Nat}(h:i<s.length)(c:128<=(s.getD i 0).toNat):128<=rune s i:=by
 unfold rune zk;have e:=NA h;simp only[Nat.add_zero,e];rw[wc ae];have b:(128:Int)<=((Utf8.runeError:Nat):Int):=af
 split
 ·split
  ·rename_i a;simp only;omega
  ·exact b
 ·split
  ·split
   ·rename_i a;simp only[ge_iff_le,zh,w5]at a ⊢;omega
   ·exact b
  ·split
   ·split
    ·rename_i a;simp only[ge_iff_le,zh,w5]at a ⊢;omega
    ·exact b
   ·exact b
end Go.Pe
namespace Go.Sp
def letter(c:Int):Bool:=(decide (97<=c)&&decide (c<=122))||(decide (65<=c)&&decide (c<=90))
def mark(c:Int):Bool:=letter c||(decide (48<=c)&&decide (c<=57))||c==95
def isName:Z->Bool
 |[]=>false
 |c::s=>decide (s.length<=23)&&letter (c.toNat:Int)&&s.all fun c=>mark (c.toNat:Int)
end Go.Sp
namespace Go.Pe
open Go.Det
theorem OD(a b:Z):Yj .str a b=decide (a=b):=by
 show(a==b)=_;by_cases h:a=b<;>simp[h]
theorem G6{v:Sh}(x k:Z)(b:v.T):∀m:List (Z×v.T),Ei .str v x (Hu .str v k b m)=if x=k then some b else Ei .str v x m
 |[]=>by
  show(bif Yj .str x k then some b else none)=_;rw[OD];by_cases h:x=k<;>simp[h,Ei]
 |(a,c)::m=>by
  show Ei .str v x (bif Yj .str k a then(k,b)::m else(a,c)::Hu .str v k b m)=_;rw[OD];by_cases h:k=a
  ·subst h;simp only[decide_true,we];show(bif Yj .str x k then some b else Ei .str v x m)=if x=k then some b else(bif Yj .str x k then some c else Ei .str v x m)
   rw[OD];by_cases d:x=k<;>simp[d]
  ·simp only[h,decide_false,wg];show(bif Yj .str x a then some c else Ei .str v x<|Hu .str v k b m)=if x=k then some b else(bif Yj .str x a then some c else Ei .str v x m)
   rw[OD,G6 x k b m];by_cases d:x=a
   ·subst d;simp[Ne.symm h]
   ·simp[d]
def IL(m:List (Z×Bool))(p:Z->Prop):Prop:=∀x,(Ei .str .bool x m).getD false=true↔p x
theorem IL.nil:IL [] (fun _=>False):=fun x=>by simp[Ei]
theorem IL.add{m:List (Z×Bool)}{p:Z->Prop}(h:IL m p)(k:Z):IL (Hu .str .bool k true m) (fun x=>x=k\/p x):=fun x=>by
 rw[G6];by_cases e:x=k
 ·simp[e]
 ·rw[wc e,h x];simp[e]
theorem IL.congr{m:List (Z×Bool)}{p q:Z->Prop}(h:IL m p)(e:∀x,p x↔q x):IL m q:=fun x=>(h x).trans<|e x
end Go.Pe
namespace Go.Det
section
abbrev Yn:=FuncId->Option (List V->H->Option (V×H))
def Lg(P:Program)(s:Yn):Prop:=∀f q,s f=some q->∀(p:Pl) (h:H) (w:World) (args:List V) (args':Array Value) v h',R p h w->Gp p->Ax p args args'.toList->q args h=some (v,h')->
 Calls P f args' w fun e w'=>∃v' p',e=.returned v'/\Ac p' v v'/\Ext p h w p' h' w'
def orS(a b:Yn):Yn:=fun f=>match a f with
 |some q=>some q
 |none=>b f
variable {P:Program}
theorem Up{a b:Yn}(d:Lg P a)(e:Lg P b):Lg P (orS a b):=by
 intro f q c;unfold orS at c;cases h:a f with
 |some g=>rw[h]at c;cases c;exact d f _ h
 |none=>rw[h]at c;exact e f q c
def aF(C:Ctx)(s:Yn):Ctx:={ C with spec:=s }
theorem Vj{C:Ctx}(a:C.Ok P){s:Yn}(h:Lg P s):(aF C s).Ok P where
 T:=a.T
 fn:=a.fn
 prim:=a.prim
 spec:=h
theorem NC{C:Ctx}(a:G4 C)(s:Yn):G4 (aF C s):=a
theorem YI{C:Ctx}(b:C.Ok P)(a:G4 C)(c:P.follows .mixedOrders=true){n:Nat}{L:C1}(h:A3 C n L=true):Lg P (KV L):=vH (C':=C) b a c h
theorem AO{C:Ctx}{n:Nat}:∀ {a b:C1},A3 C n a=true->A3 C n b=true->A3 C n (a++b)=true
 |[],b,_,h=>h
 |(f,x,v)::a,b,h,k=>by
  simp only[A3,List.cons_append,zh]at h ⊢;exact⟨h.1,AO h.2 k⟩
def KN(C:Ctx)(n:Nat)(L:C1):Yn:=fun f=>match KV L f with
 |none=>none
 |some q=>some fun args h=>match q args h with
  |some x=>some x
  |none=>match Bp C n (.fn f args) h with
   |some [x]=>some x
   |_=>none
theorem SD{C:Ctx}(l:C.Ok P)(c:G4 C)(m:P.follows .mixedOrders=true){n k:Nat}{L:C1}(u:A3 C k L=true):Lg P (KN C n L):=by
 intro f q d p h w args args' v h' hr j b a;unfold KN at d;cases i:KV L f with
 |none=>rw[i]at d;cases d
 |some q0=>
  rw[i]at d;cases d;simp only at a;split at a
  case h_1=>rename_i x s;cases a;exact YI l c m u f q0 i p h w args args' v h' hr j b s
  case h_2=>
   split at a
   case h_2=>cases a
   rename_i x r;cases a;refine((Jp l c m n).fn f args h _ r p w args' hr j b).mono ?_;rintro e w' ⟨v1,y,v',p',g,rfl,o,t⟩;cases List.mem_singleton.1 g;exact⟨v',p',rfl,o,t⟩
theorem MZ{p:Pl}{h:H}{w w':World}(hr:R p h w)(d:Go.RowKit.Below w.heap.size w w'):Ext p h w p h w':=by
 obtain⟨i,g,k,j,c⟩:=d;refine⟨⟨[],by simp⟩,⟨hr.len,fun b o d=>?_,hr.inj⟩,j,fun r a _=>c r a,fun r e=>.inl e,i,k,g,fun r a f=>⟨c r a,.inl f⟩⟩;obtain⟨r,m,y,g1,g2,g3⟩:=hr.obj b o d;exact⟨r,m,y,g1,by rw[c r (Array.getElem?_eq_some_iff.1 g2).1];exact g2,g3⟩
end
end Go.Det
