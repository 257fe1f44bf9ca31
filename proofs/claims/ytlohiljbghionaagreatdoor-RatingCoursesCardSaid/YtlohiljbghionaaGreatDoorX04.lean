import Derived.Test.YtlohiljbghionaaGreatDoorX03
import Derived.Below
/- A part of a proof (no law is stated here). Made by program out of texts by AI agents. -/
noncomputable section
open Nat renaming beq -> zc, add -> ze, blt -> zg, ble -> zl, mul -> zm
open Int renaming toNat -> zd
open BitVec renaming ofInt -> zf
open Bool renaming and_eq_true -> zh
open Go.Op renaming bytesLess -> zi
open List renaming replicate -> zj
open Go.Utf8 renaming decode -> zk
namespace Go.Det
section
def OO(P:Program):Nat->Nat->Bool
 |0,_=>true
 |n+1,a=>(match O7 P (fun _=>true) a with|some i=>Dk i.body|none=>true)&&OO P n (a+1)
variable {P:Program}
theorem Po{ct:FuncId->Bool}{f:FuncId}{i:Fn}(a:O7 P ct f=some i):O7 P (fun _=>true) f=some { i with cert:=true }/\i.cert=ct f:=by
 unfold O7 at a ⊢;cases c:P.funcs[f]? with
 |none=>rw[c]at a;cases a
 |some fn=>
  rw[c]at a;simp only at a ⊢;cases d:fn.body with
  |none=>rw[d]at a;cases a
  |some b=>
   rw[d]at a;simp only at a ⊢;split at a
   ·cases a
   ·rename_i e;rw[wc e];cases a;exact⟨rfl,rfl⟩
theorem HL{f:Nat}{i:Fn}{ct:FuncId->Bool}(b:O7 P ct f=some i):∀ {n a:Nat},OO P n a=true->a<=f->f<a+n->Dk i.body=true
 |0,a,_,c,d=>by omega
 |n+1,a,h,c,d=>by
  simp only[OO,zh]at h;by_cases e:a=f
  ·subst e;rw[(Po b).1]at h;exact h.1
  ·exact HL b h.2 (by omega) (by omega)
def xA(P:Program)(N:Nat)(L:List (FuncId×PK)):Ctx:=⟨mA P,0,O7 P<|fun f=>zg f N,Rg L,fun _=>none,true⟩
theorem WT{N:Nat}{L:List (FuncId×PK)}(h:∀f i,f<N->O7 P (fun f=>zg f N) f=some i->Dk i.body=true):FI (xA P N L):=by
 intro f i a b;have a:O7 P (fun f=>zg f N) f=some i:=a;rw[(Po a).2]at b;exact h f i (Nat.le_of_ble_eq_true b) a
theorem qN{N:Nat}{L:List (FuncId×PK)}(c:∀x∈L,Jk P x):(xA P N L).Ok P where
 T:=qP P
 fn:=fun _ _ h=>lD (P:=P) (ct:=fun f=>zg f N) h
 prim:=fun f q a p h w args args' v h' e _ b d=>Vk c f q a p h w args args' v h' e b d
 spec:=fun f q a=>by cases a
end
end Go.Det
namespace Go.Pe
open Go.Det
inductive Sh where
 |int (k:IntKind)
 |bool
 |str
 |list (s:Sh)
 |pair (a b:Sh)
 |unit
 |nlist (s:Sh)
 |fnv
 |ptr (s:Sh)
 deriving DecidableEq
@[reducible] def Sh.T:Sh->Type
 | .int _=>Int
 | .bool=>Bool
 | .str=>Z
 | .list s=>List s.T
 | .pair a b=>a.T×b.T
 | .unit=>Unit
 | .nlist s=>List s.T
 | .fnv=>Option Fn
 | .ptr s=>s.T
def Sh.GB:(s:Sh)->s.T
 | .int _=>(0:Int)
 | .bool=>false
 | .str=>([]:Z)
 | .list _=>[]
 | .pair a b=>(a.GB,b.GB)
 | .unit=>()
 | .nlist _=>[]
 | .fnv=>none
 | .ptr s=>s.GB
def Sh.sz:Sh->Nat
 | .pair a b=>ze a.sz b.sz
 | .unit=>0
 |_=>1
inductive PV where
 |any
 |bl (b:Bool)
 |ub
 |dat (s:Sh) (x:s.T)
 |nil|nilp|nilm|nilf|nili
 |agg (l:List PV)
 |tup (l:List PV)
 |ptr (id off:Nat)
 |eptr (id sz i off:Nat)
 |D7 (s:Sh) (x:s.T) (off:Nat)
 |sl (id sz off len:Nat) (cap:Option Nat)
 |mp (id:Nat)
 |fn (f:Fn) (first captured:List PV)
 |yl (id:Nat)
inductive wB where
 |ready|busy|ret
 |exit (i:Nat)
inductive Obj where
 |arr (fz:Bool) (e:TypeId) (s:Sh) (l:List s.T)
 |box (cs:List PV)
 |tbox (t:TypeId) (cs:List PV)
 |map (ks vs:Sh) (l:List (ks.T×vs.T))
 |siter (s:Z) (pos:Nat)
 |lp (f:FuncId) (r:Nat) (ps:Array Tmp) (asg body:Code) (s:wB) (n:Nat) (sl:List (Nat×PV))
abbrev Ob:=List<|Nat×Obj
def AH:Ob->Nat->Option Obj
 |[],_=>none
 |(i,o)::l,j=>bif zc i j then some o else AH l j
def Dl:Ob->Nat->Obj->Ob
 |[],_,_=>[]
 |(i,o)::l,j,x=>bif zc i j then(i,x)::l else(i,o)::Dl l j x
def Fv:Ob->Nat->Ob
 |[],_=>[]
 |(i,o)::l,j=>bif zc i j then Fv l j else(i,o)::Fv l j
structure AG where
 n:Nat
 fr:PM PV
 ob:Ob
 nx:Nat
def AG.get(st:AG)(t:Nat):PV:=(st.fr.get t).getD .any
def AG.obj(st:AG)(id:Nat):Option Obj:=AH st.ob id
def AG.set(st:AG)(t:Nat)(v:PV):AG:=⟨st.n,st.fr.set t<|some v,st.ob,st.nx⟩
def AG.setObj(st:AG)(id:Nat)(o:Obj):AG:=⟨st.n,st.fr,Dl st.ob id o,st.nx⟩
def AG.N6(st:AG)(id:Nat):AG:=⟨st.n,st.fr,Fv st.ob id,st.nx⟩
def AG.push(st:AG)(o:Obj):AG:=⟨st.n,st.fr,(st.nx,o)::st.ob,ze st.nx 1⟩
def AG.put(st:AG)(d:Option Nat)(v:PV):Option AG:=
 match d with
 |none=>some st
 |some t=>bif zg t st.n then some (st.set t v)else none
def ES(vs:List (Nat×PV)):PM PV:=vs.foldl (fun m x=>m.set x.1<|some x.2) .leaf
def flat:(s:Sh)->s.T->List PV
 | .pair a b,(x,y)=>flat a x++flat b y
 | .unit,_=>[]
 | .fnv,x=>[match (x:Option Fn)with|some f=>.fn f [] []|none=>.nilf]
 | .ptr s,x=>[.D7 s x 0]
 |s,x=>[.dat s x]
def Dr(s a:Sh)(x:s.T):Option a.T:=if h:s=a then some (h▸x)else none
def yC(a:Sh)(x:a.T):(s:Sh)->Option s.T
 | .ptr s=>Dr a s x
 |_=>none
def lN(s:Sh)(v:PV):Option s.T:=
 match v with
 | .D7 a x 0=>yC a x s
 | .dat a x=>Dr a s x
 | .bl b=>Dr .bool s b
 | .fn f [] []=>Dr .fnv s<|some f
 | .nilf=>Dr .fnv s none
 | .nil=>match s with
  | .list _=>some []
  | .nlist _=>some []
  |_=>none
 |_=>none
def B7:(s:Sh)->List PV->Option (s.T×List PV)
 | .pair a b,l=>match B7 a l with
  |some (x,d)=>match B7 b d with
   |some (y,c)=>some ((x,y),c)
   |none=>none
  |none=>none
 | .unit,l=>some ((),l)
 |s,v::l=>match lN s v with
  |some x=>some (x,l)
  |none=>none
 |_,[]=>none
def CP(s:Sh)(l:List PV):Option s.T:=
 match B7 s l with
 |some (x,[])=>some x
 |_=>none
def PV.cells:PV->List PV
 | .agg cs=>cs
 |v=>[v]
def VN(ty:TypeId->Option Sh):List Field->Option Sh
 |[]=>none
 |[x]=>ty x.type
 |x::xs=>match ty x.type,VN ty xs with
  |some a,some b=>some<|.pair a b
  |_,_=>none
def zH:Option Sh->Option Sh
 |some (.list<|.int .u64)=>some<|.nlist<|.int .u64
 |s=>s
def lz:PV->PV
 | .dat (.nlist s) x=>.dat (.list s) x
 |v=>v
def Sh.leaves:Sh->List Sh
 | .pair a b=>a.leaves++b.leaves
 | .unit=>[]
 |s=>[s]
def Sv:Sh->PV->Bool×PV
 | .nlist s,.dat (.list a) x=>bif s==a then(decide (0<x.length),.dat (.nlist a) x)else(true,.dat (.list a) x)
 | .list s,.dat (.nlist a) x=>bif s==a then(true,.dat (.list a) x)else(true,.dat (.nlist a) x)
 |_,v=>(true,v)
def Kx:List Sh->List PV->Bool×List PV
 |s::l,v::vs=>((Sv s v).1&&(Kx l vs).1,(Sv s v).2::(Kx l vs).2)
 |_,vs=>(true,vs)
def UZ(T:BR):Nat->TypeId->Option Sh
 |0,_=>none
 |f+1,t=>match T.und t with
  |some (.int k)=>some<|.int k
  |some .bool=>some .bool
  |some .string=>some .str
  |some (.slice e)=>(UZ T f e).map .list
  |some (.func _ _ _)=>some .fnv
  |some (.struct fs)=>VN (fun x=>zH<|UZ T f x) fs.toList
  |_=>none
def Sh.kG:Sh->Bool
 | .pair a b=>a.kG||b.kG
 | .fnv=>true
 |_=>false
def B1:(s:Sh)->s.T->PV
 | .pair a b,x=>.agg<|flat (.pair a b) x
 | .unit,_=>.agg []
 | .fnv,x=>match (x:Option Fn)with|some f=>.fn f [] []|none=>.nilf
 | .ptr s,x=>.D7 s x 0
 |s,x=>.dat s x
def Sh.O5:Sh->Bool
 | .pair _ _| .unit=>true
 |_=>false
def T7:(s:Sh)->s.T->s.T->Bool
 | .int _,a,b=>(a:Int)==b
 | .bool,a,b=>(a:Bool)==b
 | .str,a,b=>(a:Z)==b
 |_,_,_=>false
def DR(s v:Sh)(k:s.T):List (s.T×v.T)->Option v.T
 |[]=>none
 |(a,b)::l=>bif T7 s k a then some b else DR s v k l
def Hq(s v:Sh)(k:s.T)(x:v.T):List (s.T×v.T)->List (s.T×v.T)
 |[]=>[(k,x)]
 |(a,b)::l=>bif T7 s k a then(k,x)::l else(a,b)::Hq s v k x l
def Rf(s v:Sh)(k:s.T):List (s.T×v.T)->List (s.T×v.T)
 |[]=>[]
 |(a,b)::l=>bif T7 s k a then l else(a,b)::Rf s v k l
inductive Tr where
 |fail
 |leaf (v:PV) (ob:Ob)
 |ite (c:Bool) (a b:Tr)
 |both (a b:Tr)
 |cut (nd ro:Bool) (d:Nat) (f:FuncId) (base:Nat) (b:Code) (st:AG) (k:DX->AG->Tr)
 |alts (m:Nat) (f:Nat->Tr)
 |loop (nd ro:Bool) (d:Nat) (f:FuncId) (base:Nat) (b:Code) (st:AG) (k:DX->AG->Tr)
abbrev Tr.ck(c:Bool)(x:Tr):Tr:=.ite c x .fail
abbrev Tr.cd(P:Prop)[Decidable P](x:Tr):Tr:=.ite (decide P) x .fail
abbrev Tr.di(P:Prop)[Decidable P](x y:Tr):Tr:=.ite (decide P) x y
inductive PO where
 |bad
 |val (v:PV) (st:AG)
 |ite (c:Bool) (a b:PO)
def PO.Hv(c:Bool)(v:PV)(st:AG):PO:=.ite c (.val v st) .bad
mutual
def L0:Value->Option PV
 | .bool b=>some<|.bl b
 | .int k n=>some<|.dat (.int k) n
 | .string s=>some<|.dat .str s.data.toList
 | .pointer none=>some .nilp
 | .slice none 0 0=>some .nil
 | .map none=>some .nilm
 | .nilFunc=>some .nilf
 | .nilIface=>some .nili
 | .func f ⟨[]⟩ ⟨[]⟩=>some<|.fn f [] []
 | .agg ⟨cs⟩=>(XZ cs).map .agg
 | .tuple ⟨cs⟩=>(XZ cs).map .tup
 |_=>none
def XZ:List Value->Option (List PV)
 |[]=>some []
 |v::vs=>match L0 v,XZ vs with
  |some x,some xs=>some (x::xs)
  |_,_=>none
end
def Ue:V->PV
 | .bool b=>.bl b
 | .int k n=>.dat (.int k) n
 | .str s=>.dat .str s
 | .nilp=>.nilp
 | .nils=>.nil
 | .nilm=>.nilm
 | .nilf=>.nilf
 | .nili=>.nili
 |_=>.any
def Pf(st:AG):Operand->Option PV
 | .tmp t=>some<|st.get t
 | .const v=>L0 v
 | .global _=>none
 | .func f=>some<|.fn (.func f) [] []
def K8(st:AG):List Operand->Option (List PV)
 |[]=>some []
 |x::xs=>match Pf st x,K8 st xs with
  |some v,some vs=>some (v::vs)
  |_,_=>none
def W6(st:AG):List (Nat×Operand)->Option (List<|Nat×PV)
 |[]=>some []
 |(i,x)::xs=>match Pf st x,W6 st xs with
  |some v,some vs=>some ((i,v)::vs)
  |_,_=>none
def Y7(T:BR)(t:TypeId):Option (List PV):=(T.inf t).bind fun i=>bif J2 V.ok i.zero then some (i.zero.map Ue)else none
def pick(d:TypeDesc)(n:Nat)(cs:List PV):Option PV:=
 bif DB d then(bif zl n (EC cs)&&zg 0 n then some (.agg<|Vu n cs)else none)
 else match cs with
  |v::_=>some v
  |[]=>none
def ov(st:AG):Option PV->PO
 |some v=>.val v st
 |none=>.bad
def rP(c:Bool)(st:AG):Option PV->PO
 |some v=>.Hv c v st
 |none=>.bad
def chunk(s:Sh):Nat->List PV->Option (List s.T)
 |0,_=>some []
 |n+1,cs=>match B7 s cs with
  |some (x,cs')=>(chunk s n cs').map (x:: ·)
  |none=>none
def OE(s:Sh)(l:List s.T):Nat->Nat->List PV
 |_,0=>[]
 |j,n+1=>flat s (l.getD j s.GB)++OE s l (ze j 1) n
def yA:List V->Option Sh
 | .bool _::_=>some .bool
 | .int k _::_=>some<|.int k
 |_=>none
def rO:Sh->V->Bool
 | .bool,.bool b=> !b
 | .int k,.int a n=>decide (k=a)&&decide (n=0)
 |_,_=>false
def rF(T:BR)(t:TypeId):Option (Sh×Nat):=
 match T.und t,T.inf t with
 |some (.array _ _),some i=>match yA i.zero with
  |some s=>bif zl 32 (EC i.zero)&&J2 (rO s) i.zero then some (s,EC i.zero)else none
  |none=>none
 |_,_=>none
def Lz(T:BR)(st:AG)(t:TypeId)(a:PV):PO:=
 match T.und t,T.inf t with
 |some d,some i=>match a with
  | .ptr id off=>match st.obj id with
   |some (.box cs)=>ov st<|pick d i.size<|I8 off cs
   |some (.arr _ _ s l)=>bif zc off 0&&zc s.sz 1 then rP (decide (l.length=i.size)) st (pick d i.size<|OE s l 0 i.size)else .bad
   |some (.tbox _ cs)=>ov st<|pick d i.size<|I8 off cs
   |_=>.bad
  | .eptr id sz j off=>match st.obj id with
   |some (.arr _ _ s l)=>bif zc sz s.sz then rP (decide (j<l.length)) st (pick d i.size<|I8 off<|flat s<|l.getD j s.GB)else .bad
   |_=>.bad
  | .D7 s x off=>ov st<|pick d i.size<|I8 off<|flat s x
  |_=>.bad
 |_,_=>.bad
def Hu:Option Obj->Bool
 |some _=>true
 |none=>false
def Jh(st:AG):PV->Bool
 | .agg _| .tup _| .any| .ub=>false
 | .ptr id _| .eptr id _ _ _| .sl id _ _ _ _| .mp id| .yl id=>Hu<|st.obj id
 |_=>true
def rQ(st:AG):PV->Option (List PV)
 | .agg l=>some l
 |p=>bif Jh st p then some [p]else none
def UE(T:BR)(st:AG)(t:TypeId)(a x:PV):PO:=
 match T.inf t,rQ st x with
 |some i,some xs=>bif zc (EC xs) i.size&&J2 (Jh st) xs then
   match a with
   | .ptr id off=>match st.obj id with
    |some (.box cs)=>bif zl (ze off i.size) (EC cs)then .val (.tup []) (st.setObj id<|.box<|Ch off xs cs)else .bad
    |some (.arr false e s l)=>bif zc off 0&&zc s.sz 1 then
      match chunk s i.size xs with
      |some y=>.Hv (decide (l.length=i.size)) (.tup [])<|st.setObj id<|.arr false e s y
      |none=>.bad
     else .bad
    |some (.tbox tb cs)=>bif zl (ze off i.size) (EC cs)then .val (.tup []) (st.setObj id<|.tbox tb<|Ch off xs cs)else .bad
    |_=>.bad
   | .eptr id sz j off=>match st.obj id with
    |some (.arr false e s l)=>bif zc sz s.sz&&zl (ze off i.size) sz then
      match CP s (Ch off xs<|flat s<|l.getD j s.GB)with
      |some y=>.Hv (decide (j<l.length)) (.tup [])<|st.setObj id<|.arr false e s<|l.set j y
      |none=>.bad
     else .bad
    |_=>.bad
   |_=>.bad
  else .bad
 |_,_=>.bad
def Hc(k:IntKind)(a b:Int):Int:=k.wrap (zf k.bits a&&&zf k.bits b).toNat
def Yj(k:IntKind)(a b:Int):Int:=k.wrap (zf k.bits a|||zf k.bits b).toNat
def wI(k:IntKind)(a b:Int):Int:=k.wrap (zf k.bits a^^^zf k.bits b).toNat
def rU(k:IntKind)(a b:Int):Int:=k.wrap (zf k.bits a&&& ~~~zf k.bits b).toNat
def rD(op:BinOp)(k:IntKind)(a b:Int)(st:AG):PO:=
 match op with
 | .add=>.val (.dat (.int k)<|k.wrap<|a+b) st
 | .sub=>.val (.dat (.int k)<|k.wrap<|a-b) st
 | .mul=>.val (.dat (.int k)<|k.wrap<|a*b) st
 | .quo=>.Hv (decide (b≠0)) (.dat (.int k)<|k.wrap<|a.tdiv b) st
 | .rem=>.Hv (decide (b≠0)) (.dat (.int k)<|a.tmod b) st
 | .and=>.val (.dat (.int k)<|Hc k a b) st
 | .or=>.val (.dat (.int k)<|Yj k a b) st
 | .xor=>.val (.dat (.int k)<|wI k a b) st
 | .andNot=>.val (.dat (.int k)<|rU k a b) st
 | .eql=>.val (.dat .bool<|a==b) st
 | .neq=>.val (.dat .bool<|a !=b) st
 | .lss=>.val (.dat .bool<|decide (a<b)) st
 | .leq=>.val (.dat .bool<|decide (a<=b)) st
 | .gtr=>.val (.dat .bool<|decide (a>b)) st
 | .geq=>.val (.dat .bool<|decide (a>=b)) st
 |_=>.bad
def wT(op:BinOp)(k:IntKind)(a b:Int)(st:AG):PO:=
 match op with
 | .shl=>.Hv (decide (0<=b)) (.dat (.int k)<|k.wrap<|a*2^(min b.toNat k.bits)) st
 | .shr=>.Hv (decide (0<=b)) (.dat (.int k)<|a.fdiv<|2^(min b.toNat k.bits)) st
 |_=>.bad
def oX(op:BinOp)(x y:Z)(st:AG):PO:=
 match op with
 | .add=>.Hv (decide (x.length+y.length<=4611686018427387904)) (.dat .str<|x++y) st
 | .eql=>.val (.dat .bool<|x==y) st
 | .neq=>.val (.dat .bool<|!(x==y)) st
 | .lss=>.val (.dat .bool<|zi x y) st
 | .leq=>.val (.dat .bool<|zi x y||x==y) st
 | .gtr=>.val (.dat .bool<|!(zi x y||x==y)) st
 | .geq=>.val (.dat .bool<|!zi x y) st
 |_=>.bad
def jZ:BinOp->Bool
 | .shl| .shr=>true
 |_=>false
def IM:PV->Option Bool
 | .bl b=>some b
 | .dat .bool b=>some b
 |_=>none
def Ge:List FK->List PV->List PV->Option Bool
 |[],[],[]=>some true
 | .int k::ks,.dat (.int e) a::xs,.dat (.int d) b::c=>bif k==e&&k==d then(Ge ks xs c).map fun r=>(a:Int)==(b:Int)&&r else none
 | .str::ks,.dat .str a::xs,.dat .str b::c=>(Ge ks xs c).map fun r=>(a:Z)==(b:Z)&&r
 | .bool::ks,a::xs,b::c=>match IM a,IM b with
  |some a,some b=>(Ge ks xs c).map fun r=>a==b&&r
  |_,_=>none
 |_,_,_=>none
def Q3(st:AG)(ng:Bool)(x:PV):PO:=
 match x with
 | .nil=>.val (.bl<|!ng) st
 | .sl id _ _ _ _=>bif Hu (st.obj id)then .val (.bl ng) st else .bad
 | .dat (.list _) l=>.ite (decide (0<l.length)) (.val (.bl ng) st)<|.val .ub st
 | .dat (.nlist _) l=>.val (.dat .bool<|bif ng then decide (0<l.length)else !decide (0<l.length)) st
 |_=>.bad
def aR(op:BinOp)(x y:PV)(st:AG):PO:=
 match op,x,y with
 | .eql,x,.nil=>Q3 st false x
 | .neq,x,.nil=>Q3 st true x
 |_,_,_=>.bad
def ptrEq(T:BR)(e:TypeId)(st:AG)(x y:PV):Option Bool:=
 match x,y with
 | .nilp,.nilp=>some true
 | .ptr id _,.nilp=>bif Hu (st.obj id)then some false else none
 | .nilp,.ptr id _=>bif Hu (st.obj id)then some false else none
 | .ptr a i,.ptr b j=>bif zc a b&&Hu (st.obj a)then match T.inf e with
   |some c=>bif zg 0 c.size then some (zc i j)else none
   |none=>none
  else none
 |_,_=>none
def nI(T:BR)(op:BinOp)(t:TypeId)(x y:PV)(st:AG):PO:=
 match x,y with
 | .dat (.int k) a,.dat (.int c) b=>bif jZ op then wT op k a b st else(bif k==c then rD op k a b st else .bad)
 | .dat .str a,.dat .str b=>oX op a b st
 | .agg xs,.agg d=>match T.flat t with
  |some ks=>match op,Ge ks xs d with
   | .eql,some r=>.val (.dat .bool r) st
   | .neq,some r=>.val (.dat .bool<|!r) st
   |_,_=>.bad
  |none=>.bad
 |x,y=>match IM x,IM y,T.und t with
  |some a,some b,some .bool=>match op with
   | .eql=>.val (.dat .bool<|a==b) st
   | .neq=>.val (.dat .bool<|!(a==b)) st
   |_=>.bad
  |_,_,some (.slice _)=>aR op x y st
  |_,_,some (.pointer e)=>match op,ptrEq T e st x y with
   | .eql,some r=>.val (.bl r) st
   | .neq,some r=>.val (.bl<|!r) st
   |_,_=>.bad
  |_,_,_=>.bad
def wY(op:UnOp)(x:PV)(st:AG):PO:=
 match op,x with
 | .neg,.dat (.int k) n=>.val (.dat (.int k)<|k.wrap<|0-(n:Int)) st
 | .not,.bl b=>.val (.bl<|!b) st
 | .not,.ub=>.val .ub st
 | .not,.dat .bool b=>.val (.dat .bool<|!b) st
 |_,_=>.bad
def eE(T:BR)(s d:TypeId)(x:PV)(st:AG):PO:=
 match T.und s,T.und d,x with
 |some _,some<|.int k,.dat (.int _) n=>.val (.dat (.int k)<|k.wrap n) st
 |some .string,some .string,.dat .str s=>.val (.dat .str s) st
 |_,_,_=>.bad
def Z1(c a b:PV)(st:AG):PO:=
 match c with
 | .bl t=>.val (bif t then a else b) st
 | .dat .bool t=>match a,b with
  | .dat .bool x,.bl false=>.val (.dat .bool<|t&&x) st
  | .bl true,.dat .bool x=>.val (.dat .bool<|t||x) st
  |_,_=>.ite t (.val a st)<|.val b st
 |_=>.bad
def T5(T:BR)(t:TypeId)(x:PV)(f:Nat)(st:AG):PO:=
 match T.und t,x with
 |some (.struct fs),.agg cs=>match fs[f]? with
  |some a=>match T.und a.type,T.inf a.type with
   |some d,some i=>ov st<|pick d i.size<|I8 a.offset cs
   |_,_=>.bad
  |none=>.bad
 |_,_=>.bad
def T0(T:BR)(t:TypeId)(x:PV)(f:Nat)(st:AG):PO:=
 match T.und t with
 |some (.struct fs)=>match fs[f]? with
  |some a=>match T.inf a.type with
   |some i=>bif zc i.size 0 then .bad else match x with
    | .ptr id off=>bif Hu (st.obj id)then .val (.ptr id<|ze off a.offset) st else .bad
    | .eptr id sz j off=>bif Hu (st.obj id)then .val (.eptr id sz j<|ze off a.offset) st else .bad
    | .D7 s y off=>.val (.D7 s y<|ze off a.offset) st
    |_=>.bad
   |none=>.bad
  |none=>.bad
 |_=>.bad
def QV(T:BR)(t:TypeId)(x b:PV)(st:AG):PO:=
 match T.und t,b with
 |some (.slice e),.dat (.int _) i=>match T.inf e with
  |some a=>match x with
   | .dat (.list s) l=>bif zc a.size s.sz then .Hv (decide (0<=(i:Int))&&decide ((i:Int)<(l.length:Int))) (.D7 s (l.getD (zd i) s.GB) 0) st else .bad
   | .sl id sz off len _=>bif zc a.size sz&&Hu (st.obj id)then .Hv (decide (0<=(i:Int))&&decide ((i:Int)<(len:Int))) (.eptr id sz (ze (zd i) off) 0) st else .bad
   |_=>.bad
  |none=>.bad
 |some (.array len e),.dat (.int _) i=>match T.inf e with
  |some a=>match x with
   | .ptr id off=>match st.obj id with
    |some (.arr _ _ s _)=>bif zc off 0&&zc a.size s.sz then .Hv (decide (0<=(i:Int))&&decide ((i:Int)<(len:Int))) (.eptr id s.sz (zd i) 0) st else .bad
    |some _=>.Hv (decide (0<=(i:Int))&&decide ((i:Int)<(len:Int))) (.ptr id<|ze off<|zm (zd i) a.size) st
    |none=>.bad
   | .eptr id sz j off=>bif Hu (st.obj id)then .Hv (decide (0<=(i:Int))&&decide ((i:Int)<(len:Int))) (.eptr id sz j<|ze off<|zm (zd i) a.size) st else .bad
   | .D7 s y off=>.Hv (decide (0<=(i:Int))&&decide ((i:Int)<(len:Int))) (.D7 s y<|ze off<|zm (zd i) a.size) st
   |_=>.bad
  |none=>.bad
 |_,_=>.bad
def Y5(T:BR)(t:TypeId)(x a:PV)(st:AG):PO:=QV T t (lz x) a st
def Up(T:BR)(t:TypeId)(x b:PV)(st:AG):PO:=
 match T.und t,x,b with
 |some .string,.dat .str s,.dat (.int _) i=>.Hv (decide (0<=(i:Int))&&decide ((i:Int)<((s:Z).length:Int))) (.dat (.int .u8) (((s:Z).getD (zd i) 0).toNat:Int)) st
 |some (.array len e),.agg cs,.dat (.int _) i=>match T.und e,T.inf e with
  |some d,some a=>rP (decide (0<=(i:Int))&&decide ((i:Int)<(len:Int))) st<|pick d a.size<|I8 (zm (zd i) a.size) cs
  |_,_=>.bad
 |_,_,_=>.bad
def NY(x:PV)(i:Nat)(st:AG):PO:=
 match x with
 | .tup vs=>match vs[i]? with
  |some v=>.val v st
  |none=>.bad
 |_=>.bad
def pb(x:Option PV)(GB:Nat):Option (Bool×Nat):=
 match x with
 |none=>some (true,GB)
 |some (.dat (.int _) n)=>some (decide (0<=(n:Int)),zd n)
 |_=>none
def has(mx:Option PV)(c:Nat):Bool:=match mx with
 |none=>true
 |some _=>decide (0<c)
def QF(T:BR)(t:TypeId)(x:PV)(lo c mx:Option PV)(st:AG):PO:=
 match T.und t with
 |some .string=>match x,mx with
  | .dat .str s,none=>match pb lo 0,pb c (s:Z).length with
   |some (b,l),some (a,h)=>.Hv (b&&a&&decide (l<=h)&&decide (h<=(s:Z).length)) (.dat .str<|((s:Z).drop l).take<|Nat.sub h l) st
   |_,_=>.bad
  |_,_=>.bad
 |some (.slice e)=>match T.inf e with
  |some f=>match x with
   | .dat (.list s) xs=>bif zc f.size s.sz then
     match pb lo 0,pb c xs.length,mx with
     |some (b,l),some (a,h),none=>.Hv (b&&a&&decide (l<=h)&&decide (h<=xs.length)) (.dat (.list s)<|(xs.drop l).take<|Nat.sub h l) st
     |_,_,_=>.bad
    else .bad
   | .sl id sz off len cap=>bif zc f.size sz&&Hu (st.obj id)then
     match c,mx with
     |none,some _=>.bad
     |_,_=>match pb lo 0,pb c len,pb mx (cap.getD len)with
      |some (b,l),some (a,h),some (d,m)=>.Hv (b&&a&&d&&decide (l<=h)&&decide (h<=m)&&decide (m<=cap.getD len)&&has mx (cap.getD len)) (.sl id sz (ze off l) (Nat.sub h l)<|some<|Nat.sub m l) st
      |_,_,_=>.bad
    else .bad
   | .nil=>match pb lo 0,pb c 0,mx with
    |some (b,l),some (a,h),none=>.Hv (b&&a&&decide (l<=h)&&decide (h<=0)) .nil st
    |some (b,l),some (a,h),some q=>match c,pb (some q) 0 with
     |some _,some (d,m)=>.Hv (b&&a&&d&&decide (l<=h)&&decide (h<=m)&&decide (m<=0)) .nil st
     |_,_=>.bad
    |_,_,_=>.bad
   |_=>.bad
  |none=>.bad
 |_=>.bad
def cS(T:BR)(t:TypeId)(x:PV)(lo a mx:Option PV)(st:AG):PO:=QF T t (lz x) lo a mx st
def pi64(n:Nat):PV:=.dat (.int .i64)<|Int.ofNat n
def SI(T:BR)(ts:Array TypeId)(args:List PV)(st:AG):PO:=
 match ts[0]?,args with
 |some t,[x]=>match T.und t,x with
  |some .string,.dat .str s=>.val (pi64 (s:Z).length) st
  |some (.slice _),.dat (.list _) l=>.val (pi64 l.length) st
  |some (.slice _),.sl id _ _ len _=>bif Hu (st.obj id)then .val (pi64 len) st else .bad
  |some (.slice _),.nil=>.val (pi64 0) st
  |some (.map _ _),.mp id=>match st.obj id with
   |some (.map _ _ l)=>.val (pi64 l.length) st
   |_=>.bad
  |_,_=>.bad
 |_,_=>.bad
def jQ(T:BR)(ts:Array TypeId)(args:List PV)(st:AG):PO:=SI T ts (args.map lz) st
def uW(f:Int->Int->Int)(k:IntKind):Int->List PV->Option Int
 |x,[]=>some x
 |x,.dat (.int b) y::a=>bif k==b then uW f k (f x y) a else none
 |_,_=>none
def MD(f:Int->Int->Int)(args:List PV)(st:AG):PO:=
 match args with
 | .dat (.int k) x::a=>match uW f k x a with
  |some z=>.val (.dat (.int k) z) st
  |none=>.bad
 |_=>.bad
def imax(x y:Int):Int:=if y>x then y else x
def Ec(x y:Int):Int:=if y<x then y else x
def Mt(st:AG)(s:Sh)(x:PV):Option (Bool×List s.T):=
 match x with
 | .nil=>some (true,[])
 | .dat (.list a) l=>(Dr (.list a) (.list s) l).map fun r=>(true,r)
 | .sl id sz off len _=>match st.obj id with
  |some (.arr _ _ a l)=>bif zc sz a.sz then(Dr (.list a) (.list s) l).map fun r=>(decide (off+len<=r.length),(r.drop off).take len)else none
  |_=>none
 | .dat .str l=>(Dr (.list<|.int .u8) (.list s)<|List.map (fun b:UInt8=>(b.toNat:Int)) l).map fun r=>(true,r)
 |_=>none
def N1(st:AG)(s:Sh)(x:PV):Option (Bool×List s.T):=Mt st s<|lz x
def zF:Nat:=281474976710656
def cY:Nat:=562949953421312
def Rt:TypeDesc->Bool
 | .slice _=>true
 | .string=>true
 |_=>false
def Qp(T:BR)(ts:Array TypeId)(args:List PV)(st:AG):PO:=
 match ts[0]?,ts[1]?,args with
 |some t,some a,[b,x]=>match T.und t,T.und a with
  |some (.slice e),some f=>bif Rt f then match T.inf e,UZ T 9 e with
   |some i,some s=>
    bif zg 0 i.bytes&&zg 0 i.size&&zc i.zero.length i.size&&zc i.size s.sz then
     match N1 st s x with
     |some (c,new)=>match b with
      | .nil=>match x with
       | .nil=>.val .nil st
       | .dat _ _=>.ite (decide (0<new.length)) (.Hv (c&&decide ((3*new.length+2000)*i.bytes<=cY)) (.sl st.nx s.sz 0 new.length none)<|st.push<|.arr false e s new)<|.val .nil st
       | .sl _ _ _ _ (some _)=>.ite (decide (0<new.length)) (.Hv (c&&decide ((3*new.length+2000)*i.bytes<=cY)) (.sl st.nx s.sz 0 new.length none)<|st.push<|.arr false e s new)<|.Hv c .nil st
       |_=>.Hv (c&&decide (0<new.length)&&decide ((3*new.length+2000)*i.bytes<=cY)) (.sl st.nx s.sz 0 new.length none)<|st.push<|.arr false e s new
      | .sl id sz off len cap=>match st.obj id with
       |some (.arr false g d l)=>match Dr (.list d) (.list s) l with
        |some l'=>bif zc e g&&zc sz s.sz then
          match cap with
          |none=>.Hv (c&&decide (off=0)&&decide (len=l'.length)&&decide ((3*(len+new.length)+2000)*i.bytes<=cY)) (.sl st.nx s.sz 0 (ze len new.length) none)<|(st.N6 id).push<|.arr false e s<|l'++new
          |some k=>.Hv (c&&decide (len+new.length<=k)&&decide (off+k<=l'.length)) (.sl id sz off (ze len new.length)<|some k) (st.setObj id<|.arr false e s<|l'.take (off+len)++(new++l'.drop (off+len+new.length)))
         else .bad
        |none=>.bad
       |_=>.bad
      |_=>.bad
     |none=>.bad
    else .bad
   |_,_=>.bad
   else .bad
  |_,_=>.bad
 |_,_,_=>.bad
def Vc(T:BR)(ts:Array TypeId)(args:List PV)(st:AG):PO:=
 match ts[0]?,args with
 |some t,[x]=>match T.und t with
  |some (.slice e)=>match x with
   | .nil=>.val (.tup []) st
   | .sl id sz off len _=>match T.inf e,st.obj id with
    |some i,some (.arr false a s l)=>
     bif zc sz s.sz&&zg 0 i.zero.length&&zc i.zero.length s.sz&&J2 V.one i.zero then
      match CP s (i.zero.map Ue)with
      |some z=>.Hv (decide (off+len<=l.length)) (.tup [])<|st.setObj id<|.arr false a s<|l.take off++(zj len z++l.drop (off+len))
      |none=>.bad
     else .bad
    |_,_=>.bad
   |_=>.bad
  |_=>.bad
 |_,_=>.bad
def TY(args:List PV)(st:AG):PO:=
 match args with
 |[.sl id sz off len none]=>bif Hu (st.obj id)then .Hv (decide (0<len)) (.eptr id sz off 0) st else .bad
 |_=>.bad
def UL(l:List Int):Z:=l.map fun x=>UInt8.ofNat x.toNat
def P3(l:List Int):Bool:=l.all fun x=>decide (0<=x)&&decide (x<256)
def bQ(T:BR)(ts:List TypeId)(args:List PV)(st:AG):PO:=
 match ts,args with
 |[b,_],[.eptr id _ i 0,.dat (.int .i64) n]=>match T.und b,st.obj id with
  |some (.pointer e),some (.arr false d s l)=>match T.inf e,Dr (.list s) (.list<|.int .u8) l with
   |some c,some a=>bif zc c.size 1&&zc e d then
     .Hv (decide (i=0)&&decide (0<(n:Int))&&decide (zd n<=(a:List Int).length)&&decide (zd n<=9223372036854775807)&&P3 a) (.dat .str<|UL<|(a:List Int).take<|zd n) (st.N6 id)
    else .bad
   |_,_=>.bad
  |_,_=>.bad
 |_,_=>.bad
def HC(T:BR)(b:Builtin)(ts:Array TypeId)(args:List PV)(st:AG):PO:=
 match b with
 | .len=>jQ T ts args st
 | .append=>Qp T ts args st
 | .max=>MD imax args st
 | .min=>MD Ec args st
 | .clear=>Vc T ts args st
 | .unsafeSliceData=>TY args st
 | .unsafeString=>bQ T ts.toList args st
 |_=>.bad
def rune(s:Z)(pos:Nat):Int:=(zk (bytesOf s) pos).1
def Ja(s:Z)(pos:Nat):Nat:=(zk (bytesOf s) pos).2
def UA(T:BR)(t:TypeId)(x:PV)(st:AG):PO:=
 match T.und t,x with
 |some .string,.dat .str s=>.val (.ptr st.nx 0)<|st.push<|.siter s 0
 |_,_=>.bad
def aU(x:PV)(a:Bool)(st:AG):PO:=
 match x,a with
 | .ptr id 0,true=>match st.obj id with
  |some (.siter s pos)=>.ite (decide (pos<s.length)) (.val (.tup [.bl true,.dat (.int .i64)<|Int.ofNat pos,.dat (.int .i32)<|rune s pos])<|st.setObj id<|.siter s<|ze pos<|Ja s pos)<|.val (.tup [.bl false]) st
  |_=>.bad
 |_,_=>.bad
def PD(st:AG)(place:Nat->Option (Nat×Nat))(cells:List PV):List (Nat×PV)->Option (List PV)
 |[]=>some cells
 |(i,v)::a=>match place i with
  |none=>none
  |some (off,size)=>match rQ st v with
   |some vs=>bif zc (EC vs) size&&zl (ze off size) (EC cells)then PD st place (Ch off vs cells) a else none
   |none=>none
def Uw(T:BR)(st:AG)(t:TypeId)(a:List (Nat×PV)):Option PV:=
 match T.inf t,T.und t with
 |some i,some (.struct fs)=>
  match fs.toList.mapM (fun f=>(T.inf f.type).map fun j=>(f.offset,j.size))with
  |some pl=>(PD st (fun i=>pl[i]?) (i.zero.map Ue) a).map .agg
  |none=>none
 |some i,some (.array _ e)=>match T.inf e with
  |some j=>(PD st (fun i=>some (i*j.size,j.size)) (i.zero.map Ue) a).map .agg
  |none=>none
 |_,_=>none
def JC(z:List PV):Nat->List PV
 |0=>[]
 |n+1=>z++JC z n
def BM(st:AG):PV->Option (Bool×PV)
 | .sl id sz off len _=>match st.obj id with
  |some (.arr _ _ s l)=>bif zc sz s.sz then some (decide (off+len<=l.length),.dat (.list s)<|(l.drop off).take len)else none
  |_=>none
 | .dat s x=>some (true,.dat s x)
 | .D7 s x off=>some (true,.D7 s x off)
 | .bl b=>some (true,.bl b)
 | .nil=>some (true,.nil)
 |_=>none
def Dv(st:AG):List PV->Option (Bool×List PV)
 |[]=>some (true,[])
 |v::vs=>match BM st v,Dv st vs with
  |some (c,x),some (d,xs)=>some (c&&d,x::xs)
  |_,_=>none
def Bt(st:AG):PV->AG
 | .sl id _ _ _ _=>match st.obj id with
  |some (.arr _ e s l)=>st.setObj id<|.arr true e s l
  |_=>st
 |_=>st
def Bg:List PV->AG->AG
 |[],st=>st
 |v::vs,st=>Bg vs<|Bt st v
def Q1(T:BR)(t:TypeId)(len:Nat)(a:List (Nat×PV))(st:AG):PO:=
 match T.und t with
 |some (.slice e)=>match T.inf e,UZ T 9 e with
  |some i,some s=>
   bif zl (zm len i.size) 16777216&&zg 0 i.zero.length&&zc i.zero.length i.size&&zc i.size s.sz then
    match PD st (fun k=>some (k*i.size,i.size)) (JC (i.zero.map Ue) len) a with
    |some cs=>match chunk s len cs with
     |some l=>.val (.sl st.nx s.sz 0 len none)<|st.push<|.arr false e s l
     |none=>match Dv st cs with
      |some (c,cs')=>match chunk s len cs' with
       |some l=>.Hv c (.sl st.nx s.sz 0 len none)<|(Bg cs st).push<|.arr false e s l
       |none=>.bad
      |none=>.bad
    |none=>.bad
   else .bad
  |_,_=>.bad
 |_=>.bad
def bP(T:BR)(t:TypeId)(l c:PV)(st:AG):PO:=
 match T.und t,l,c with
 |some (.slice e),.dat (.int _) l,.dat (.int _) c=>match T.inf e,UZ T 9 e with
  |some i,some s=>
   bif zg 0 i.zero.length&&zc i.zero.length i.size&&zc i.size s.sz then
    match CP s (i.zero.map Ue)with
    |some z=>.Hv (decide (0<=(l:Int))&&decide ((l:Int)=(c:Int))&&decide (i.bytes*zd l<=zF)&&decide ((l:Int)<9223372036854775808)) (.sl st.nx s.sz 0 (zd l) none)<|st.push<|.arr false e s<|zj (zd l) z
    |none=>.bad
   else .bad
  |_,_=>.bad
 |_,_,_=>.bad
def eO(T:BR)(t:TypeId):Option Sh:=match T.und t with
 |some (.int k)=>some<|.int k
 |some .string=>some .str
 |some .bool=>some .bool
 |_=>none
def Kk:PV->Bool
 | .agg _=>true
 |_=>false
def wK(s:Sh)(p:PV):Option s.T:=bif Kk p==s.O5 then CP s p.cells else none
def Uq(T:BR)(t:TypeId)(st:AG):PO:=match T.und t with
 |some (.map a e)=>match eO T a,UZ T 9 e with
  |some ks,some vs=>.val (.mp st.nx)<|st.push<|.map ks vs []
  |_,_=>.bad
 |_=>.bad
def Zj(st:AG)(ks vs:Sh)(m:PV):Option (List<|ks.T×vs.T):=match m with
 | .nilm=>some []
 | .mp id=>match st.obj id with
  |some (.map b a l)=>Dr (.list<|.pair b a) (.list<|.pair ks vs) l
  |_=>none
 |_=>none
def tI:V->Bool
 | .agg _=>true
 |_=>false
def sD(ks vs:Sh)(ok:Bool)(z:vs.T)(x:ks.T)(st:AG):List (ks.T×vs.T)->PO
 |[]=>.val (bif ok then .tup [B1 vs z,.bl false]else B1 vs z) st
 |(a,b)::l=>.ite (T7 ks x a) (.val (bif ok then .tup [B1 vs b,.bl true]else B1 vs b) st)<|sD ks vs ok z x st l
def Qv(T:BR)(t:TypeId)(m k:PV)(ok:Bool)(st:AG):PO:=match T.und t with
 |some (.map a e)=>match eO T a,UZ T 9 e,T.inf e with
  |some ks,some vs,some i=>match lN ks k,Zj st ks vs m,CP vs (i.zero.map Ue)with
   |some x,some l,some z=>
    bif tI i.zv==vs.O5 then bif vs.kG then sD ks vs ok z x st l else
     (let v:=B1 vs ((DR ks vs x l).getD z)
     .val (bif ok then .tup [v,.dat .bool (DR ks vs x l).isSome]else v) st)
    else .bad
   |_,_,_=>.bad
  |_,_,_=>.bad
 |_=>.bad
def Qx(T:BR)(t:TypeId)(m k v:PV)(st:AG):PO:=match T.und t,m with
 |some (.map b _),.mp id=>match eO T b,st.obj id with
  |some ks,some (.map a vs l)=>match lN ks k,Dr (.list<|.pair a vs) (.list<|.pair ks vs) l,wK vs v with
   |some x,some l,some y=>.val (.tup [])<|st.setObj id<|.map ks vs<|Hq ks vs x y l
   |_,_,_=>.bad
  |_,_=>.bad
 |_,_=>.bad
def Rp(T:BR)(ts:Array TypeId)(args:List PV)(st:AG):PO:=match ts[0]?,args with
 |some t,[.mp id,k]=>match T.und t with
  |some (.map b _)=>match eO T b,st.obj id with
   |some ks,some (.map a vs l)=>match lN ks k,Dr (.list<|.pair a vs) (.list<|.pair ks vs) l with
    |some x,some l=>.val (.tup [])<|st.setObj id<|.map ks vs<|Rf ks vs x l
    |_,_=>.bad
   |_,_=>.bad
  |_=>.bad
 |_,_=>.bad
abbrev J0:=BR->AG->PO
def v1(st:AG)(x:Operand)(k:PV->PO):PO:=match Pf st x with|some v=>k v|none=>.bad
def Ut(x:Operand):J0:=fun _ st=>ov st<|Pf st x
def eA(c a b:Operand):J0:=fun _ st=>v1 st c fun c=>v1 st a fun a=>v1 st b fun b=>Z1 c a b st
def nA(T:BR)(t:TypeId):Bool:=
 match T.und t with
 |some (.struct fs)=>match fs[0]? with
  |some f=>match T.und f.type with
   |some (.pointer u)=>zc u t
   |_=>false
  |none=>false
 |_=>false
def Qk(t:TypeId):J0:=fun T st=>match rF T t with
 |some (s,n)=>.val (.ptr st.nx 0)<|st.push<|.arr false t s<|zj n s.GB
 |none=>match Y7 T t with|some cs=>.val (.ptr st.nx 0) (st.push<|bif nA T t then .tbox t cs else .box cs)|none=>.bad
def mW(_:TypeId)(x:Operand):J0:=fun _ st=>v1 st x fun v=>match rQ st v with|some cs=>bif J2 (Jh st) cs then .val (.ptr st.nx 0) (st.push<|.box cs)else .bad|none=>.bad
def WS(t:TypeId)(ps:Array (Nat×Operand)):J0:=fun T st=>match W6 st ps.toList with|some l=>ov st (Uw T st t l)|none=>.bad
def SZ(t:TypeId)(n:Nat)(ps:Array (Nat×Operand)):J0:=fun T st=>match W6 st ps.toList with|some l=>Q1 T t n l st|none=>.bad
def Zt(t:TypeId)(x:Operand):J0:=fun T st=>v1 st x fun a=>Lz T st t a
def V4(t:TypeId)(x y:Operand):J0:=fun T st=>v1 st x fun a=>v1 st y fun b=>UE T st t a b
def Of(x:Operand):J0:=fun _ st=>v1 st x fun a=>match a with| .ptr id _| .eptr id _ _ _=>bif Hu (st.obj id)then .val a st else .bad| .D7 .. =>.val a st|_=>.bad
def mN(T:BR)(op:BinOp)(t:TypeId)(x y:Operand)(a b:PV):Option Bool:=
 match op,a,b,T.und t with
 | .eql,.nili,.nili,some (.interface _)=>bif Vo x||Vo y then some true else none
 | .neq,.nili,.nili,some (.interface _)=>bif Vo x||Vo y then some false else none
 |_,_,_,_=>none
def lT(op:BinOp)(t:TypeId)(x y:Operand)(_:TypeId):J0:=fun T st=>v1 st x fun a=>v1 st y fun b=>match mN T op t x y a b with|some r=>.val (.bl r) st|none=>nI T op t a b st
def tF(op:UnOp)(_:TypeId)(x:Operand):J0:=fun _ st=>v1 st x fun a=>wY op a st
def bG(s d:TypeId)(x:Operand):J0:=fun T st=>v1 st x fun a=>eE T s d a st
def YS(f:Fn)(a b:Array Operand):J0:=fun _ st=>match K8 st a.toList,K8 st b.toList with|some x,some y=>.val (.fn f x y) st|_,_=>.bad
def cH(t:TypeId)(l c:Operand):J0:=fun T st=>v1 st l fun a=>v1 st c fun b=>bP T t a b st
def o1(st:AG)(x:Option Operand)(k:Option PV->PO):PO:=match x with|none=>k none|some y=>v1 st y fun v=>k<|some v
def VI(t:TypeId)(x:Operand)(a b c:Option Operand):J0:=fun T st=>v1 st x fun v=>o1 st a fun l=>o1 st b fun h=>o1 st c fun m=>cS T t v l h m st
def VX(t:TypeId)(x:Operand)(f:Nat):J0:=fun T st=>v1 st x fun a=>T0 T t a f st
def WA(t:TypeId)(x:Operand)(f:Nat):J0:=fun T st=>v1 st x fun a=>T5 T t a f st
def VV(t:TypeId)(x i:Operand):J0:=fun T st=>v1 st x fun a=>v1 st i fun b=>Y5 T t a b st
def Wk(t:TypeId)(x i:Operand):J0:=fun T st=>v1 st x fun a=>v1 st i fun b=>Up T t a b st
def PX(x:Operand)(i:Nat):J0:=fun _ st=>v1 st x fun a=>NY a i st
def Qq(c:Call):J0:=fun T st=>
 match K8 st c.args.toList with
 |none=>.bad
 |some args=>match c.callee with
  | .builtin b=>match b with
   | .delete=>Rp T c.argTypes args st
   |_=>HC T b c.argTypes args st
  |_=>.bad
def Wj(t:TypeId)(r:Option Operand):J0:=fun T st=>match r with|none=>Uq T t st|some _=>.bad
def S7(t:TypeId)(x i:Operand)(ok:Bool):J0:=fun T st=>v1 st x fun a=>v1 st i fun b=>Qv T t a b ok st
def M9(t:TypeId)(m k x:Operand):J0:=fun T st=>v1 st m fun a=>v1 st k fun b=>v1 st x fun c=>Qx T t a b c st
def Ws(t:TypeId)(x:Operand):J0:=fun T st=>v1 st x fun a=>UA T t a st
def aL(x:Operand)(b:Bool):J0:=fun _ st=>v1 st x fun a=>aU a b st
def I0:J0:=fun _ _=>.bad
def pop(o:Op):J0:=@Op.casesOn (fun _=>J0) o Ut Ut eA Qk mW WS SZ M9 Zt V4 (fun _=>I0) (fun _=>I0) Of lT tF bG
 (fun _ _=>I0) (fun _ _=>I0) YS Wj (fun _ _=>I0) cH VI VX WA VV Wk S7 M9 (fun _ _ _=>I0) (fun _ _ _ _=>I0)
 Ws aL (fun _=>I0) (fun _ _ _ _=>I0) PX Qq (fun _=>I0) (fun _=>I0) (fun _=>I0) (fun _ _=>I0) (fun _ _ _=>I0) (fun _ _=>I0)
theorem LF{s:Z}{i:Nat}(h:i<s.length):(bytesOf s).get! i=s.getD i 0:=by
 unfold bytesOf;show(s.toArray)[i]! =_;simp[h]
theorem Tk{s:Z}{i:Nat}(h:i<s.length)(a:(s.getD i 0).toNat<128):rune s i=((s.getD i 0).toNat:Int)/\Ja s i=1:=by
 unfold rune Ja zk;have e:=LF h;simp only[Nat.add_zero,e,a,wk];simp
theorem Pw{s:Z}{i:Nat}(h:i<s.length)(c:128<=(s.getD i 0).toNat):128<=rune s i:=by
 unfold rune zk;have e:=LF h;simp only[Nat.add_zero,e];rw[wc<|by omega];have b:(128:Int)<=((Utf8.runeError:Nat):Int):=by decide
 split
 ·split
  ·rename_i a;simp only;omega
  ·exact b
 ·split
  ·split
   ·rename_i a;simp only[ge_iff_le,zh,w5]at a ⊢;omega
   ·exact b
  ·split
   ·split
    ·rename_i a;simp only[ge_iff_le,zh,w5]at a ⊢;omega
    ·exact b
   ·exact b
end Go.Pe
namespace Go.Sp
def letter(c:Int):Bool:=(decide (97<=c)&&decide (c<=122))||(decide (65<=c)&&decide (c<=90))
def mark(c:Int):Bool:=letter c||(decide (48<=c)&&decide (c<=57))||c==95
def isName:Z->Bool
 |[]=>false
 |c::s=>decide (s.length<=23)&&letter (c.toNat:Int)&&s.all fun c=>mark (c.toNat:Int)
end Go.Sp
namespace Go.Pe
open Go.Det
theorem MJ(a b:Z):T7 .str a b=decide (a=b):=by
 show(a==b)=_;by_cases h:a=b<;>simp[h]
theorem Jd{v:Sh}(x k:Z)(b:v.T):∀m:List (Z×v.T),DR .str v x (Hq .str v k b m)=if x=k then some b else DR .str v x m
 |[]=>by
  show(bif T7 .str x k then some b else none)=_;rw[MJ];by_cases h:x=k<;>simp[h,DR]
 |(a,c)::m=>by
  show DR .str v x (bif T7 .str k a then(k,b)::m else(a,c)::Hq .str v k b m)=_;rw[MJ];by_cases h:k=a
  ·subst h;simp only[decide_true,we];show(bif T7 .str x k then some b else DR .str v x m)=if x=k then some b else(bif T7 .str x k then some c else DR .str v x m)
   rw[MJ];by_cases d:x=k<;>simp[d]
  ·simp only[h,decide_false,wg];show(bif T7 .str x a then some c else DR .str v x<|Hq .str v k b m)=if x=k then some b else(bif T7 .str x a then some c else DR .str v x m)
   rw[MJ,Jd x k b m];by_cases d:x=a
   ·subst d;simp[Ne.symm h]
   ·simp[d]
def HB(m:List (Z×Bool))(p:Z->Prop):Prop:=∀x,(DR .str .bool x m).getD false=true↔p x
theorem HB.nil:HB [] (fun _=>False):=fun x=>by simp[DR]
theorem HB.add{m:List (Z×Bool)}{p:Z->Prop}(h:HB m p)(k:Z):HB (Hq .str .bool k true m) (fun x=>x=k\/p x):=fun x=>by
 rw[Jd];by_cases e:x=k
 ·simp[e]
 ·rw[wc e,h x];simp[e]
theorem HB.congr{m:List (Z×Bool)}{p q:Z->Prop}(h:HB m p)(e:∀x,p x↔q x):HB m q:=fun x=>(h x).trans<|e x
end Go.Pe
namespace Go.Det
section
abbrev Ur:=FuncId->Option (List V->H->Option (V×H))
def JQ(P:Program)(s:Ur):Prop:=∀f q,s f=some q->∀(p:Pl) (h:H) (w:World) (args:List V) (args':Array Value) v h',R p h w->Gp p->Aq p args args'.toList->q args h=some (v,h')->
 Calls P f args' w fun e w'=>∃v' p',e=.returned v'/\Ab p' v v'/\Ext p h w p' h' w'
def rR(a b:Ur):Ur:=fun f=>match a f with
 |some q=>some q
 |none=>b f
variable {P:Program}
theorem QB{a b:Ur}(d:JQ P a)(e:JQ P b):JQ P (rR a b):=by
 intro f q c;unfold rR at c;cases h:a f with
 |some g=>rw[h]at c;cases c;exact d f _ h
 |none=>rw[h]at c;exact e f q c
def Vi(C:Ctx)(s:Ur):Ctx:={ C with spec:=s }
theorem R8{C:Ctx}(a:C.Ok P){s:Ur}(h:JQ P s):(Vi C s).Ok P where
 T:=a.T
 fn:=a.fn
 prim:=a.prim
 spec:=h
theorem LJ{C:Ctx}(a:FI C)(s:Ur):FI (Vi C s):=a
theorem VF{C:Ctx}(b:C.Ok P)(a:FI C)(c:P.follows .mixedOrders=true){n:Nat}{L:Cy}(h:AS C n L=true):JQ P (Ji L):=lJ (C':=C) b a c h
theorem AF{C:Ctx}{n:Nat}:∀ {a b:Cy},AS C n a=true->AS C n b=true->AS C n (a++b)=true
 |[],b,_,h=>h
 |(f,x,v)::a,b,h,k=>by
  simp only[AS,List.cons_append,zh]at h ⊢;exact⟨h.1,AF h.2 k⟩
def Jx(C:Ctx)(n:Nat)(L:Cy):Ur:=fun f=>match Ji L f with
 |none=>none
 |some q=>some fun args h=>match q args h with
  |some x=>some x
  |none=>match Be C n (.fn f args) h with
   |some [x]=>some x
   |_=>none
theorem PF{C:Ctx}(o:C.Ok P)(g:FI C)(l:P.follows .mixedOrders=true){n k:Nat}{L:Cy}(s:AS C k L=true):JQ P (Jx C n L):=by
 intro f q d p h w args args' v h' m j b a;unfold Jx at d;cases i:Ji L f with
 |none=>rw[i]at d;cases d
 |some q0=>
  rw[i]at d;cases d;simp only at a;split at a
  case h_1=>rename_i x r;cases a;exact VF o g l s f q0 i p h w args args' v h' m j b r
  case h_2=>
   split at a
   case h_2=>cases a
   rename_i x y;cases a;refine((HY o g l n).fn f args h _ y p w args' m j b).mono ?_;rintro e w' ⟨v1,z,v',p',c,rfl,u,t⟩;cases List.mem_singleton.1 c;exact⟨v',p',rfl,u,t⟩
theorem La{p:Pl}{h:H}{w w':World}(c:R p h w)(e:Go.RowKit.Below w.heap.size w w'):Ext p h w p h w':=by
 obtain⟨g,k,j,i,d⟩:=e;refine⟨⟨[],by simp⟩,⟨c.len,fun b o e=>?_,c.inj⟩,i,fun r a _=>d r a,fun r l=>.inl l,g,j,k,fun r a f=>⟨d r a,.inl f⟩⟩;obtain⟨r,m,y,g1,g2,g3⟩:=c.obj b o e;exact⟨r,m,y,g1,by rw[d r (Array.getElem?_eq_some_iff.1 g2).1];exact g2,g3⟩
end
end Go.Det
