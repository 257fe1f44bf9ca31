import Derived.Test.YtknhdhchejmpgaaGreatDoorX03
import Derived.Below
/- A part of a proof (no law is stated here). Made by program out of texts by AI agents. -/
noncomputable section
open Nat renaming beq -> zc, add -> ze, blt -> zg, ble -> zj, mul -> zk
open Int renaming toNat -> zd
open BitVec renaming ofInt -> zf
open Go.Op renaming bytesLess -> zh
open List renaming replicate -> zi
namespace Go.Det
section
def NY(P:Program):Nat->Nat->Bool
 |0,_=>true
 |n+1,a=>(match Qd P (fun _=>true) a with|some i=>DI i.body|none=>true)&&NY P n (a+1)
variable {P:Program}
theorem Qo{ct:FuncId->Bool}{f:FuncId}{i:Fn}(hi:Qd P ct f=some i):Qd P (fun _=>true) f=some { i with cert:=true }/\i.cert=ct f:=by
 unfold Qd at hi ⊢;cases hf:P.funcs[f]? with
 |none=>rw[hf]at hi;cases hi
 |some fn=>
  rw[hf]at hi;simp only at hi ⊢;cases hb:fn.body with
  |none=>rw[hb]at hi;cases hi
  |some b=>
   rw[hb]at hi;simp only at hi ⊢;split at hi
   ·cases hi
   ·rename_i hn;rw[wc hn];cases hi;exact⟨rfl,rfl⟩
theorem Ig{f:Nat}{i:Fn}{ct:FuncId->Bool}(hi:Qd P ct f=some i):∀ {n a:Nat},NY P n a=true->a<=f->f<a+n->DI i.body=true
 |0,a,_,h1,h2=>by omega
 |n+1,a,h,h1,h2=>by
  simp only[NY,Bool.and_eq_true]at h;by_cases e:a=f
  ·subst e;rw[(Qo hi).1]at h;exact h.1
  ·exact Ig hi h.2 (by omega) (by omega)
def mkC(P:Program)(N:Nat)(L:List (FuncId×PK)):Ctx:=⟨rK P,0,Qd P (fun f=>zg f N),RD L,fun _=>none,true⟩
theorem Zl{N:Nat}{L:List (FuncId×PK)}(h:∀f i,f<N->Qd P (fun f=>zg f N) f=some i->DI i.body=true):F8 (mkC P N L):=by
 intro f i hi hc;have hi:Qd P (fun f=>zg f N) f=some i:=hi;rw[(Qo hi).2]at hc;exact h f i (Nat.le_of_ble_eq_true hc) hi
theorem uK{N:Nat}{L:List (FuncId×PK)}(hL:∀x∈L,HY P x):(mkC P N L).Ok P where
 T:=uD P
 fn:=fun _ _ h=>kY (P:=P) (ct:=fun f=>zg f N) h
 prim:=fun f q hq p h w args args' v h' hr _ ha hd=>Xt hL f q hq p h w args args' v h' hr ha hd
 spec:=fun f q hq=>by cases hq
end
end Go.Det
namespace Go.Pe
open Go.Det
inductive Sh where
 |int (k:IntKind)
 |bool
 |str
 |list (s:Sh)
 |pair (a b:Sh)
 |unit
 |nlist (s:Sh)
 |fnv
 deriving DecidableEq
@[reducible] def Sh.T:Sh->Type
 | .int _=>Int
 | .bool=>Bool
 | .str=>List UInt8
 | .list s=>List s.T
 | .pair a b=>a.T×b.T
 | .unit=>Unit
 | .nlist s=>List s.T
 | .fnv=>Option Fn
def Sh.Hd:(s:Sh)->s.T
 | .int _=>(0:Int)
 | .bool=>false
 | .str=>([]:List UInt8)
 | .list _=>[]
 | .pair a b=>(a.Hd,b.Hd)
 | .unit=>()
 | .nlist _=>[]
 | .fnv=>none
def Sh.sz:Sh->Nat
 | .pair a b=>ze a.sz b.sz
 | .unit=>0
 |_=>1
inductive PV where
 |any
 |bl (b:Bool)
 |ub
 |dat (s:Sh) (x:s.T)
 |nil|nilp|nilm|nilf|nili
 |agg (l:List PV)
 |tup (l:List PV)
 |ptr (id off:Nat)
 |eptr (id sz i off:Nat)
 |FE (s:Sh) (x:s.T) (off:Nat)
 |sl (id sz off len:Nat) (cap:Option Nat)
 |mp (id:Nat)
 |fn (f:Fn) (first captured:List PV)
 |yl (id:Nat)
inductive LpS where
 |ready|busy|ret
 |exit (i:Nat)
inductive Obj where
 |arr (fz:Bool) (e:TypeId) (s:Sh) (l:List s.T)
 |box (cs:List PV)
 |tbox (t:TypeId) (cs:List PV)
 |map (ks vs:Sh) (l:List (ks.T×vs.T))
 |siter (s:List UInt8) (pos:Nat)
 |lp (f:FuncId) (r:Nat) (ps:Array Tmp) (asg body:Code) (s:LpS) (n:Nat) (sl:List (Nat×PV))
abbrev Ob:=List (Nat×Obj)
def AL:Ob->Nat->Option Obj
 |[],_=>none
 |(i,o)::l,j=>bif zc i j then some o else AL l j
def Dx:Ob->Nat->Obj->Ob
 |[],_,_=>[]
 |(i,o)::l,j,x=>bif zc i j then(i,x)::l else(i,o)::Dx l j x
def Gj:Ob->Nat->Ob
 |[],_=>[]
 |(i,o)::l,j=>bif zc i j then Gj l j else(i,o)::Gj l j
structure AI where
 n:Nat
 fr:PM PV
 ob:Ob
 nx:Nat
def AI.get(st:AI)(t:Nat):PV:=(st.fr.get t).getD .any
def AI.obj(st:AI)(id:Nat):Option Obj:=AL st.ob id
def AI.set(st:AI)(t:Nat)(v:PV):AI:=⟨st.n,st.fr.set t (some v),st.ob,st.nx⟩
def AI.setObj(st:AI)(id:Nat)(o:Obj):AI:=⟨st.n,st.fr,Dx st.ob id o,st.nx⟩
def AI.Pz(st:AI)(id:Nat):AI:=⟨st.n,st.fr,Gj st.ob id,st.nx⟩
def AI.push(st:AI)(o:Obj):AI:=⟨st.n,st.fr,(st.nx,o)::st.ob,ze st.nx 1⟩
def AI.put(st:AI)(d:Option Nat)(v:PV):Option AI:=
 match d with
 |none=>some st
 |some t=>bif zg t st.n then some (st.set t v)else none
def E7(vs:List (Nat×PV)):PM PV:=vs.foldl (fun m x=>m.set x.1 (some x.2)) .leaf
def flat:(s:Sh)->s.T->List PV
 | .pair a b,(x,y)=>flat a x++flat b y
 | .unit,_=>[]
 | .fnv,x=>[match (x:Option Fn)with|some f=>.fn f [] []|none=>.nilf]
 |s,x=>[.dat s x]
def DZ(s s':Sh)(x:s.T):Option s'.T:=if h:s=s' then some (h▸x)else none
def qZ(s:Sh)(v:PV):Option s.T:=
 match v with
 | .dat s' x=>DZ s' s x
 | .bl b=>DZ .bool s b
 | .fn f [] []=>DZ .fnv s (some f)
 | .nilf=>DZ .fnv s none
 | .nil=>match s with
  | .list _=>some []
  | .nlist _=>some []
  |_=>none
 |_=>none
def Cy:(s:Sh)->List PV->Option (s.T×List PV)
 | .pair a b,l=>match Cy a l with
  |some (x,l1)=>match Cy b l1 with
   |some (y,l2)=>some ((x,y),l2)
   |none=>none
  |none=>none
 | .unit,l=>some ((),l)
 |s,v::l=>match qZ s v with
  |some x=>some (x,l)
  |none=>none
 |_,[]=>none
def C3(s:Sh)(l:List PV):Option s.T:=
 match Cy s l with
 |some (x,[])=>some x
 |_=>none
def PV.cells:PV->List PV
 | .agg cs=>cs
 |v=>[v]
def XE(ty:TypeId->Option Sh):List Field->Option Sh
 |[]=>none
 |[x]=>ty x.type
 |x::xs=>match ty x.type,XE ty xs with
  |some a,some b=>some (.pair a b)
  |_,_=>none
def nlf:Option Sh->Option Sh
 |some (.list (.int .u64))=>some (.nlist (.int .u64))
 |s=>s
def lz:PV->PV
 | .dat (.nlist s) x=>.dat (.list s) x
 |v=>v
def Sh.leaves:Sh->List Sh
 | .pair a b=>a.leaves++b.leaves
 | .unit=>[]
 |s=>[s]
def T5:Sh->PV->Bool×PV
 | .nlist s,.dat (.list s') x=>bif s==s' then(decide (0<x.length),.dat (.nlist s') x)else(true,.dat (.list s') x)
 | .list s,.dat (.nlist s') x=>bif s==s' then(true,.dat (.list s') x)else(true,.dat (.nlist s') x)
 |_,v=>(true,v)
def KW:List Sh->List PV->Bool×List PV
 |s::l,v::vs=>((T5 s v).1&&(KW l vs).1,(T5 s v).2::(KW l vs).2)
 |_,vs=>(true,vs)
def Vm(T:BW):Nat->TypeId->Option Sh
 |0,_=>none
 |f+1,t=>match T.und t with
  |some (.int k)=>some (.int k)
  |some .bool=>some .bool
  |some .string=>some .str
  |some (.slice e)=>(Vm T f e).map .list
  |some (.func _ _ _)=>some .fnv
  |some (.struct fs)=>XE (fun x=>nlf (Vm T f x)) fs.toList
  |_=>none
def Sh.lG:Sh->Bool
 | .pair a b=>a.lG||b.lG
 | .fnv=>true
 |_=>false
def B8:(s:Sh)->s.T->PV
 | .pair a b,x=>.agg (flat (.pair a b) x)
 | .unit,_=>.agg []
 | .fnv,x=>match (x:Option Fn)with|some f=>.fn f [] []|none=>.nilf
 |s,x=>.dat s x
def Sh.P5:Sh->Bool
 | .pair _ _| .unit=>true
 |_=>false
def WB:(s:Sh)->s.T->s.T->Bool
 | .int _,a,b=>(a:Int)==b
 | .bool,a,b=>(a:Bool)==b
 | .str,a,b=>(a:List UInt8)==b
 |_,_,_=>false
def DP(s v:Sh)(k:s.T):List (s.T×v.T)->Option v.T
 |[]=>none
 |(a,b)::l=>bif WB s k a then some b else DP s v k l
def Kl(s v:Sh)(k:s.T)(x:v.T):List (s.T×v.T)->List (s.T×v.T)
 |[]=>[(k,x)]
 |(a,b)::l=>bif WB s k a then(k,x)::l else(a,b)::Kl s v k x l
def Rp(s v:Sh)(k:s.T):List (s.T×v.T)->List (s.T×v.T)
 |[]=>[]
 |(a,b)::l=>bif WB s k a then l else(a,b)::Rp s v k l
inductive Tr where
 |fail
 |leaf (v:PV) (ob:Ob)
 |ite (c:Bool) (a b:Tr)
 |both (a b:Tr)
 |cut (nd ro:Bool) (d:Nat) (f:FuncId) (base:Nat) (b:Code) (st:AI) (k:DX->AI->Tr)
 |alts (m:Nat) (f:Nat->Tr)
 |loop (nd ro:Bool) (d:Nat) (f:FuncId) (base:Nat) (b:Code) (st:AI) (k:DX->AI->Tr)
inductive PO where
 |bad
 |val (v:PV) (st:AI)
 |ite (c:Bool) (a b:PO)
def PO.FT(c:Bool)(v:PV)(st:AI):PO:=.ite c (.val v st) .bad
mutual
def MW:Value->Option PV
 | .bool b=>some (.bl b)
 | .int k n=>some (.dat (.int k) n)
 | .string s=>some (.dat .str s.data.toList)
 | .pointer none=>some .nilp
 | .slice none 0 0=>some .nil
 | .map none=>some .nilm
 | .nilFunc=>some .nilf
 | .nilIface=>some .nili
 | .func f ⟨[]⟩ ⟨[]⟩=>some (.fn f [] [])
 | .agg ⟨cs⟩=>(Z4 cs).map .agg
 | .tuple ⟨cs⟩=>(Z4 cs).map .tup
 |_=>none
def Z4:List Value->Option (List PV)
 |[]=>some []
 |v::vs=>match MW v,Z4 vs with
  |some x,some xs=>some (x::xs)
  |_,_=>none
end
def V7:V->PV
 | .bool b=>.bl b
 | .int k n=>.dat (.int k) n
 | .str s=>.dat .str s
 | .nilp=>.nilp
 | .nils=>.nil
 | .nilm=>.nilm
 | .nilf=>.nilf
 | .nili=>.nili
 |_=>.any
def Qe(st:AI):Operand->Option PV
 | .tmp t=>some (st.get t)
 | .const v=>MW v
 | .global _=>none
 | .func f=>some (.fn (.func f) [] [])
def LC(st:AI):List Operand->Option (List PV)
 |[]=>some []
 |x::xs=>match Qe st x,LC st xs with
  |some v,some vs=>some (v::vs)
  |_,_=>none
def ZT(st:AI):List (Nat×Operand)->Option (List (Nat×PV))
 |[]=>some []
 |(i,x)::xs=>match Qe st x,ZT st xs with
  |some v,some vs=>some ((i,v)::vs)
  |_,_=>none
def iB(T:BW)(t:TypeId):Option (List PV):=(T.inf t).bind fun i=>bif Lj V.ok i.zero then some (i.zero.map V7)else none
def pick(d:TypeDesc)(n:Nat)(cs:List PV):Option PV:=
 bif DW d then(bif zj n (Dj cs)&&zg 0 n then some (.agg (Rb n cs))else none)
 else match cs with
  |v::_=>some v
  |[]=>none
def ov(st:AI):Option PV->PO
 |some v=>.val v st
 |none=>.bad
def xF(c:Bool)(st:AI):Option PV->PO
 |some v=>.FT c v st
 |none=>.bad
def chunk(s:Sh):Nat->List PV->Option (List s.T)
 |0,_=>some []
 |n+1,cs=>match Cy s cs with
  |some (x,cs')=>(chunk s n cs').map (x:: ·)
  |none=>none
def ON(s:Sh)(l:List s.T):Nat->Nat->List PV
 |_,0=>[]
 |j,n+1=>flat s (l.getD j s.Hd)++ON s l (ze j 1) n
def zsh:List V->Option Sh
 | .bool _::_=>some .bool
 | .int k _::_=>some (.int k)
 |_=>none
def xA:Sh->V->Bool
 | .bool,.bool b=> !b
 | .int k,.int k' n=>decide (k=k')&&decide (n=0)
 |_,_=>false
def wG(T:BW)(t:TypeId):Option (Sh×Nat):=
 match T.und t,T.inf t with
 |some (.array _ _),some i=>match zsh i.zero with
  |some s=>bif zj 32 (Dj i.zero)&&Lj (xA s) i.zero then some (s,Dj i.zero)else none
  |none=>none
 |_,_=>none
def My(T:BW)(st:AI)(t:TypeId)(a:PV):PO:=
 match T.und t,T.inf t with
 |some d,some i=>match a with
  | .ptr id off=>match st.obj id with
   |some (.box cs)=>ov st (pick d i.size (HK off cs))
   |some (.arr _ _ s l)=>bif zc off 0&&zc s.sz 1 then xF (decide (l.length=i.size)) st (pick d i.size (ON s l 0 i.size))else .bad
   |some (.tbox _ cs)=>ov st (pick d i.size (HK off cs))
   |_=>.bad
  | .eptr id sz j off=>match st.obj id with
   |some (.arr _ _ s l)=>bif zc sz s.sz then xF (decide (j<l.length)) st (pick d i.size (HK off (flat s (l.getD j s.Hd))))else .bad
   |_=>.bad
  | .FE s x off=>ov st (pick d i.size (HK off (flat s x)))
  |_=>.bad
 |_,_=>.bad
def HU:Option Obj->Bool
 |some _=>true
 |none=>false
def JE(st:AI):PV->Bool
 | .agg _| .tup _| .any| .ub=>false
 | .ptr id _| .eptr id _ _ _| .sl id _ _ _ _| .mp id| .yl id=>HU (st.obj id)
 |_=>true
def xG(st:AI):PV->Option (List PV)
 | .agg l=>some l
 |p=>bif JE st p then some [p]else none
def Vo(T:BW)(st:AI)(t:TypeId)(a x:PV):PO:=
 match T.inf t,xG st x with
 |some i,some xs=>bif zc (Dj xs) i.size&&Lj (JE st) xs then
   match a with
   | .ptr id off=>match st.obj id with
    |some (.box cs)=>bif zj (ze off i.size) (Dj cs)then .val (.tup []) (st.setObj id (.box (Ct off xs cs)))else .bad
    |some (.arr false e s l)=>bif zc off 0&&zc s.sz 1 then
      match chunk s i.size xs with
      |some y=>.FT (decide (l.length=i.size)) (.tup []) (st.setObj id (.arr false e s y))
      |none=>.bad
     else .bad
    |some (.tbox tb cs)=>bif zj (ze off i.size) (Dj cs)then .val (.tup []) (st.setObj id (.tbox tb (Ct off xs cs)))else .bad
    |_=>.bad
   | .eptr id sz j off=>match st.obj id with
    |some (.arr false e s l)=>bif zc sz s.sz&&zj (ze off i.size) sz then
      match C3 s (Ct off xs (flat s (l.getD j s.Hd)))with
      |some y=>.FT (decide (j<l.length)) (.tup []) (st.setObj id (.arr false e s (l.set j y)))
      |none=>.bad
     else .bad
    |_=>.bad
   |_=>.bad
  else .bad
 |_,_=>.bad
def HD(k:IntKind)(a b:Int):Int:=k.wrap (zf k.bits a&&&zf k.bits b).toNat
def aA(k:IntKind)(a b:Int):Int:=k.wrap (zf k.bits a|||zf k.bits b).toNat
def Aas(k:IntKind)(a b:Int):Int:=k.wrap (zf k.bits a^^^zf k.bits b).toNat
def zB(k:IntKind)(a b:Int):Int:=k.wrap (zf k.bits a&&& ~~~zf k.bits b).toNat
def tO(op:BinOp)(k:IntKind)(a b:Int)(st:AI):PO:=
 match op with
 | .add=>.val (.dat (.int k) (k.wrap (a+b))) st
 | .sub=>.val (.dat (.int k) (k.wrap (a-b))) st
 | .mul=>.val (.dat (.int k) (k.wrap (a*b))) st
 | .quo=>.FT (decide (b≠0)) (.dat (.int k) (k.wrap (a.tdiv b))) st
 | .rem=>.FT (decide (b≠0)) (.dat (.int k) (a.tmod b)) st
 | .and=>.val (.dat (.int k) (HD k a b)) st
 | .or=>.val (.dat (.int k) (aA k a b)) st
 | .xor=>.val (.dat (.int k) (Aas k a b)) st
 | .andNot=>.val (.dat (.int k) (zB k a b)) st
 | .eql=>.val (.dat .bool (a==b)) st
 | .neq=>.val (.dat .bool (a !=b)) st
 | .lss=>.val (.dat .bool (decide (a<b))) st
 | .leq=>.val (.dat .bool (decide (a<=b))) st
 | .gtr=>.val (.dat .bool (decide (a>b))) st
 | .geq=>.val (.dat .bool (decide (a>=b))) st
 |_=>.bad
def psh(op:BinOp)(k:IntKind)(a b:Int)(st:AI):PO:=
 match op with
 | .shl=>.FT (decide (0<=b)) (.dat (.int k) (k.wrap (a*2^(min b.toNat k.bits)))) st
 | .shr=>.FT (decide (0<=b)) (.dat (.int k) (a.fdiv (2^(min b.toNat k.bits)))) st
 |_=>.bad
def sT(op:BinOp)(x y:List UInt8)(st:AI):PO:=
 match op with
 | .add=>.FT (decide (x.length+y.length<=4611686018427387904)) (.dat .str (x++y)) st
 | .eql=>.val (.dat .bool (x==y)) st
 | .neq=>.val (.dat .bool (!(x==y))) st
 | .lss=>.val (.dat .bool (zh x y)) st
 | .leq=>.val (.dat .bool (zh x y||x==y)) st
 | .gtr=>.val (.dat .bool (!(zh x y||x==y))) st
 | .geq=>.val (.dat .bool (!zh x y)) st
 |_=>.bad
def mV:BinOp->Bool
 | .shl| .shr=>true
 |_=>false
def IX:PV->Option Bool
 | .bl b=>some b
 | .dat .bool b=>some b
 |_=>none
def GP:List FK->List PV->List PV->Option Bool
 |[],[],[]=>some true
 | .int k::ks,.dat (.int k1) a::xs,.dat (.int k2) b::ys=>bif k==k1&&k==k2 then(GP ks xs ys).map fun r=>(a:Int)==(b:Int)&&r else none
 | .str::ks,.dat .str a::xs,.dat .str b::ys=>(GP ks xs ys).map fun r=>(a:List UInt8)==(b:List UInt8)&&r
 | .bool::ks,a::xs,b::ys=>match IX a,IX b with
  |some a,some b=>(GP ks xs ys).map fun r=>a==b&&r
  |_,_=>none
 |_,_,_=>none
def SG(st:AI)(ng:Bool)(x:PV):PO:=
 match x with
 | .nil=>.val (.bl (!ng)) st
 | .sl id _ _ _ _=>bif HU (st.obj id)then .val (.bl ng) st else .bad
 | .dat (.list _) l=>.ite (decide (0<l.length)) (.val (.bl ng) st) (.val .ub st)
 | .dat (.nlist _) l=>.val (.dat .bool (bif ng then decide (0<l.length)else !decide (0<l.length))) st
 |_=>.bad
def iO(op:BinOp)(x y:PV)(st:AI):PO:=
 match op,x,y with
 | .eql,x,.nil=>SG st false x
 | .neq,x,.nil=>SG st true x
 |_,_,_=>.bad
def ptrEq(T:BW)(e:TypeId)(st:AI)(x y:PV):Option Bool:=
 match x,y with
 | .nilp,.nilp=>some true
 | .ptr id _,.nilp=>bif HU (st.obj id)then some false else none
 | .nilp,.ptr id _=>bif HU (st.obj id)then some false else none
 | .ptr a i,.ptr b j=>bif zc a b&&HU (st.obj a)then match T.inf e with
   |some ti=>bif zg 0 ti.size then some (zc i j)else none
   |none=>none
  else none
 |_,_=>none
def sV(T:BW)(op:BinOp)(t:TypeId)(x y:PV)(st:AI):PO:=
 match x,y with
 | .dat (.int k) a,.dat (.int k') b=>bif mV op then psh op k a b st else(bif k==k' then tO op k a b st else .bad)
 | .dat .str a,.dat .str b=>sT op a b st
 | .agg xs,.agg ys=>match T.flat t with
  |some ks=>match op,GP ks xs ys with
   | .eql,some r=>.val (.dat .bool r) st
   | .neq,some r=>.val (.dat .bool (!r)) st
   |_,_=>.bad
  |none=>.bad
 |x,y=>match IX x,IX y,T.und t with
  |some a,some b,some .bool=>match op with
   | .eql=>.val (.dat .bool (a==b)) st
   | .neq=>.val (.dat .bool (!(a==b))) st
   |_=>.bad
  |_,_,some (.slice _)=>iO op x y st
  |_,_,some (.pointer e)=>match op,ptrEq T e st x y with
   | .eql,some r=>.val (.bl r) st
   | .neq,some r=>.val (.bl (!r)) st
   |_,_=>.bad
  |_,_,_=>.bad
def pun(op:UnOp)(x:PV)(st:AI):PO:=
 match op,x with
 | .neg,.dat (.int k) n=>.val (.dat (.int k) (k.wrap (0-(n:Int)))) st
 | .not,.bl b=>.val (.bl (!b)) st
 | .not,.ub=>.val .ub st
 | .not,.dat .bool b=>.val (.dat .bool (!b)) st
 |_,_=>.bad
def jL(T:BW)(s d:TypeId)(x:PV)(st:AI):PO:=
 match T.und s,T.und d,x with
 |some _,some (.int k),.dat (.int _) n=>.val (.dat (.int k) (k.wrap n)) st
 |some .string,some .string,.dat .str s=>.val (.dat .str s) st
 |_,_,_=>.bad
def iW(c a b:PV)(st:AI):PO:=
 match c with
 | .bl t=>.val (bif t then a else b) st
 | .dat .bool t=>match a,b with
  | .dat .bool x,.bl false=>.val (.dat .bool (t&&x)) st
  | .bl true,.dat .bool x=>.val (.dat .bool (t||x)) st
  |_,_=>.ite t (.val a st) (.val b st)
 |_=>.bad
def V2(T:BW)(t:TypeId)(x:PV)(f:Nat)(st:AI):PO:=
 match T.und t,x with
 |some (.struct fs),.agg cs=>match fs[f]? with
  |some fd=>match T.und fd.type,T.inf fd.type with
   |some d,some i=>ov st (pick d i.size (HK fd.offset cs))
   |_,_=>.bad
  |none=>.bad
 |_,_=>.bad
def VN(T:BW)(t:TypeId)(x:PV)(f:Nat)(st:AI):PO:=
 match T.und t with
 |some (.struct fs)=>match fs[f]? with
  |some fd=>match T.inf fd.type with
   |some i=>bif zc i.size 0 then .bad else match x with
    | .ptr id off=>bif HU (st.obj id)then .val (.ptr id (ze off fd.offset)) st else .bad
    | .eptr id sz j off=>bif HU (st.obj id)then .val (.eptr id sz j (ze off fd.offset)) st else .bad
    | .FE s y off=>.val (.FE s y (ze off fd.offset)) st
    |_=>.bad
   |none=>.bad
  |none=>.bad
 |_=>.bad
def R5(T:BW)(t:TypeId)(x ix:PV)(st:AI):PO:=
 match T.und t,ix with
 |some (.slice e),.dat (.int _) i=>match T.inf e with
  |some ti=>match x with
   | .dat (.list s) l=>bif zc ti.size s.sz then .FT (decide (0<=(i:Int))&&decide ((i:Int)<(l.length:Int))) (.FE s (l.getD (zd i) s.Hd) 0) st else .bad
   | .sl id sz off len _=>bif zc ti.size sz&&HU (st.obj id)then .FT (decide (0<=(i:Int))&&decide ((i:Int)<(len:Int))) (.eptr id sz (ze (zd i) off) 0) st else .bad
   |_=>.bad
  |none=>.bad
 |some (.array len e),.dat (.int _) i=>match T.inf e with
  |some ti=>match x with
   | .ptr id off=>match st.obj id with
    |some (.arr _ _ s _)=>bif zc off 0&&zc ti.size s.sz then .FT (decide (0<=(i:Int))&&decide ((i:Int)<(len:Int))) (.eptr id s.sz (zd i) 0) st else .bad
    |some _=>.FT (decide (0<=(i:Int))&&decide ((i:Int)<(len:Int))) (.ptr id (ze off (zk (zd i) ti.size))) st
    |none=>.bad
   | .eptr id sz j off=>bif HU (st.obj id)then .FT (decide (0<=(i:Int))&&decide ((i:Int)<(len:Int))) (.eptr id sz j (ze off (zk (zd i) ti.size))) st else .bad
   | .FE s y off=>.FT (decide (0<=(i:Int))&&decide ((i:Int)<(len:Int))) (.FE s y (ze off (zk (zd i) ti.size))) st
   |_=>.bad
  |none=>.bad
 |_,_=>.bad
def iU(T:BW)(t:TypeId)(x ix:PV)(st:AI):PO:=R5 T t (lz x) ix st
def Wm(T:BW)(t:TypeId)(x ix:PV)(st:AI):PO:=
 match T.und t,x,ix with
 |some .string,.dat .str s,.dat (.int _) i=>.FT (decide (0<=(i:Int))&&decide ((i:Int)<((s:List UInt8).length:Int))) (.dat (.int .u8) (((s:List UInt8).getD (zd i) 0).toNat:Int)) st
 |some (.array len e),.agg cs,.dat (.int _) i=>match T.und e,T.inf e with
  |some d,some ti=>xF (decide (0<=(i:Int))&&decide ((i:Int)<(len:Int))) st (pick d ti.size (HK (zk (zd i) ti.size) cs))
  |_,_=>.bad
 |_,_,_=>.bad
def NK(x:PV)(i:Nat)(st:AI):PO:=
 match x with
 | .tup vs=>match vs[i]? with
  |some v=>.val v st
  |none=>.bad
 |_=>.bad
def pb(x:Option PV)(Hd:Nat):Option (Bool×Nat):=
 match x with
 |none=>some (true,Hd)
 |some (.dat (.int _) n)=>some (decide (0<=(n:Int)),zd n)
 |_=>none
def has(mx:Option PV)(c:Nat):Bool:=match mx with
 |none=>true
 |some _=>decide (0<c)
def Sq(T:BW)(t:TypeId)(x:PV)(lo hi mx:Option PV)(st:AI):PO:=
 match T.und t with
 |some .string=>match x,mx with
  | .dat .str s,none=>match pb lo 0,pb hi (s:List UInt8).length with
   |some (c1,l),some (c2,h)=>.FT (c1&&c2&&decide (l<=h)&&decide (h<=(s:List UInt8).length)) (.dat .str (((s:List UInt8).drop l).take (Nat.sub h l))) st
   |_,_=>.bad
  |_,_=>.bad
 |some (.slice e)=>match T.inf e with
  |some ti=>match x with
   | .dat (.list s) xs=>bif zc ti.size s.sz then
     match pb lo 0,pb hi xs.length,mx with
     |some (c1,l),some (c2,h),none=>.FT (c1&&c2&&decide (l<=h)&&decide (h<=xs.length)) (.dat (.list s) ((xs.drop l).take (Nat.sub h l))) st
     |_,_,_=>.bad
    else .bad
   | .sl id sz off len cap=>bif zc ti.size sz&&HU (st.obj id)then
     match hi,mx with
     |none,some _=>.bad
     |_,_=>match pb lo 0,pb hi len,pb mx (cap.getD len)with
      |some (c1,l),some (c2,h),some (c3,m)=>.FT (c1&&c2&&c3&&decide (l<=h)&&decide (h<=m)&&decide (m<=cap.getD len)&&has mx (cap.getD len)) (.sl id sz (ze off l) (Nat.sub h l) (some (Nat.sub m l))) st
      |_,_,_=>.bad
    else .bad
   | .nil=>match pb lo 0,pb hi 0,mx with
    |some (c1,l),some (c2,h),none=>.FT (c1&&c2&&decide (l<=h)&&decide (h<=0)) .nil st
    |some (c1,l),some (c2,h),some q=>match hi,pb (some q) 0 with
     |some _,some (c3,m)=>.FT (c1&&c2&&c3&&decide (l<=h)&&decide (h<=m)&&decide (m<=0)) .nil st
     |_,_=>.bad
    |_,_,_=>.bad
   |_=>.bad
  |none=>.bad
 |_=>.bad
def gG(T:BW)(t:TypeId)(x:PV)(lo hi mx:Option PV)(st:AI):PO:=Sq T t (lz x) lo hi mx st
def pi64(n:Nat):PV:=.dat (.int .i64) (Int.ofNat n)
def Ub(T:BW)(ts:Array TypeId)(args:List PV)(st:AI):PO:=
 match ts[0]?,args with
 |some t,[x]=>match T.und t,x with
  |some .string,.dat .str s=>.val (pi64 (s:List UInt8).length) st
  |some (.slice _),.dat (.list _) l=>.val (pi64 l.length) st
  |some (.slice _),.sl id _ _ len _=>bif HU (st.obj id)then .val (pi64 len) st else .bad
  |some (.slice _),.nil=>.val (pi64 0) st
  |some (.map _ _),.mp id=>match st.obj id with
   |some (.map _ _ l)=>.val (pi64 l.length) st
   |_=>.bad
  |_,_=>.bad
 |_,_=>.bad
def mO(T:BW)(ts:Array TypeId)(args:List PV)(st:AI):PO:=Ub T ts (args.map lz) st
def zT(f:Int->Int->Int)(k:IntKind):Int->List PV->Option Int
 |x,[]=>some x
 |x,.dat (.int k') y::ys=>bif k==k' then zT f k (f x y) ys else none
 |_,_=>none
def Nq(f:Int->Int->Int)(args:List PV)(st:AI):PO:=
 match args with
 | .dat (.int k) x::ys=>match zT f k x ys with
  |some z=>.val (.dat (.int k) z) st
  |none=>.bad
 |_=>.bad
def imax(x y:Int):Int:=if y>x then y else x
def Ew(x y:Int):Int:=if y<x then y else x
def Nz(st:AI)(s:Sh)(x:PV):Option (Bool×List s.T):=
 match x with
 | .nil=>some (true,[])
 | .dat (.list s') l=>(DZ (.list s') (.list s) l).map fun r=>(true,r)
 | .sl id sz off len _=>match st.obj id with
  |some (.arr _ _ s' l)=>bif zc sz s'.sz then(DZ (.list s') (.list s) l).map fun r=>(decide (off+len<=r.length),(r.drop off).take len)else none
  |_=>none
 | .dat .str l=>(DZ (.list (.int .u8)) (.list s) (List.map (fun b:UInt8=>(b.toNat:Int)) l)).map fun r=>(true,r)
 |_=>none
def Pc(st:AI)(s:Sh)(x:PV):Option (Bool×List s.T):=Nz st s (lz x)
def xB:Nat:=281474976710656
def Rm:TypeDesc->Bool
 | .slice _=>true
 | .string=>true
 |_=>false
def Sm(T:BW)(ts:Array TypeId)(args:List PV)(st:AI):PO:=
 match ts[0]?,ts[1]?,args with
 |some t,some tx,[b,x]=>match T.und t,T.und tx with
  |some (.slice e),some dx=>bif Rm dx then match T.inf e,Vm T 9 e with
   |some i,some s=>
    bif zg 0 i.bytes&&zg 0 i.size&&zc i.zero.length i.size&&zc i.size s.sz then
     match Pc st s x with
     |some (c,new)=>match b with
      | .nil=>match x with
       | .nil=>.val .nil st
       | .dat _ _=>.ite (decide (0<new.length)) (.FT (c&&decide ((2*new.length+1000)*i.bytes<=xB)) (.sl st.nx s.sz 0 new.length none) (st.push (.arr false e s new))) (.val .nil st)
       | .sl _ _ _ _ (some _)=>.ite (decide (0<new.length)) (.FT (c&&decide ((2*new.length+1000)*i.bytes<=xB)) (.sl st.nx s.sz 0 new.length none) (st.push (.arr false e s new))) (.FT c .nil st)
       |_=>.FT (c&&decide (0<new.length)&&decide ((2*new.length+1000)*i.bytes<=xB)) (.sl st.nx s.sz 0 new.length none) (st.push (.arr false e s new))
      | .sl id sz off len cap=>match st.obj id with
       |some (.arr false e' s' l)=>match DZ (.list s') (.list s) l with
        |some l'=>bif zc e e'&&zc sz s.sz then
          match cap with
          |none=>.FT (c&&decide (off=0)&&decide (len=l'.length)&&decide ((2*(len+new.length)+1000)*i.bytes<=xB)) (.sl st.nx s.sz 0 (ze len new.length) none) ((st.Pz id).push (.arr false e s (l'++new)))
          |some k=>.FT (c&&decide (len+new.length<=k)&&decide (off+k<=l'.length)) (.sl id sz off (ze len new.length) (some k)) (st.setObj id (.arr false e s (l'.take (off+len)++(new++l'.drop (off+len+new.length)))))
         else .bad
        |none=>.bad
       |_=>.bad
      |_=>.bad
     |none=>.bad
    else .bad
   |_,_=>.bad
   else .bad
  |_,_=>.bad
 |_,_,_=>.bad
def V0(T:BW)(ts:Array TypeId)(args:List PV)(st:AI):PO:=
 match ts[0]?,args with
 |some t,[x]=>match T.und t with
  |some (.slice e)=>match x with
   | .nil=>.val (.tup []) st
   | .sl id sz off len _=>match T.inf e,st.obj id with
    |some i,some (.arr false e' s l)=>
     bif zc sz s.sz&&zg 0 i.zero.length&&zc i.zero.length s.sz&&Lj V.one i.zero then
      match C3 s (i.zero.map V7)with
      |some z=>.FT (decide (off+len<=l.length)) (.tup []) (st.setObj id (.arr false e' s (l.take off++(zi len z++l.drop (off+len)))))
      |none=>.bad
     else .bad
    |_,_=>.bad
   |_=>.bad
  |_=>.bad
 |_,_=>.bad
def Wr(args:List PV)(st:AI):PO:=
 match args with
 |[.sl id sz off len none]=>bif HU (st.obj id)then .FT (decide (0<len)) (.eptr id sz off 0) st else .bad
 |_=>.bad
def VQ(l:List Int):List UInt8:=l.map fun x=>UInt8.ofNat x.toNat
def Q0(l:List Int):Bool:=l.all fun x=>decide (0<=x)&&decide (x<256)
def dF(T:BW)(ts:List TypeId)(args:List PV)(st:AI):PO:=
 match ts,args with
 |[pt,_],[.eptr id _ i 0,.dat (.int .i64) n]=>match T.und pt,st.obj id with
  |some (.pointer e),some (.arr false e' s l)=>match T.inf e,DZ (.list s) (.list (.int .u8)) l with
   |some ti,some bs=>bif zc ti.size 1&&zc e e' then
     .FT (decide (i=0)&&decide (0<(n:Int))&&decide (zd n<=(bs:List Int).length)&&decide (zd n<=9223372036854775807)&&Q0 bs) (.dat .str (VQ ((bs:List Int).take (zd n)))) (st.Pz id)
    else .bad
   |_,_=>.bad
  |_,_=>.bad
 |_,_=>.bad
def ID(T:BW)(b:Builtin)(ts:Array TypeId)(args:List PV)(st:AI):PO:=
 match b with
 | .len=>mO T ts args st
 | .append=>Sm T ts args st
 | .max=>Nq imax args st
 | .min=>Nq Ew args st
 | .clear=>V0 T ts args st
 | .unsafeSliceData=>Wr args st
 | .unsafeString=>dF T ts.toList args st
 |_=>.bad
def rune(s:List UInt8)(pos:Nat):Int:=(Utf8.decode (bytesOf s) pos).1
def rQ(s:List UInt8)(pos:Nat):Nat:=(Utf8.decode (bytesOf s) pos).2
def V4(T:BW)(t:TypeId)(x:PV)(st:AI):PO:=
 match T.und t,x with
 |some .string,.dat .str s=>.val (.ptr st.nx 0) (st.push (.siter s 0))
 |_,_=>.bad
def jQ(x:PV)(isStr:Bool)(st:AI):PO:=
 match x,isStr with
 | .ptr id 0,true=>match st.obj id with
  |some (.siter s pos)=>.ite (decide (pos<s.length)) (.val (.tup [.bl true,.dat (.int .i64) (Int.ofNat pos),.dat (.int .i32) (rune s pos)]) (st.setObj id (.siter s (ze pos (rQ s pos))))) (.val (.tup [.bl false]) st)
  |_=>.bad
 |_,_=>.bad
def Ra(st:AI)(place:Nat->Option (Nat×Nat))(cells:List PV):List (Nat×PV)->Option (List PV)
 |[]=>some cells
 |(i,v)::rest=>match place i with
  |none=>none
  |some (off,size)=>match xG st v with
   |some vs=>bif zc (Dj vs) size&&zj (ze off size) (Dj cells)then Ra st place (Ct off vs cells) rest else none
   |none=>none
def VX(T:BW)(st:AI)(t:TypeId)(parts:List (Nat×PV)):Option PV:=
 match T.inf t,T.und t with
 |some i,some (.struct fs)=>
  match fs.toList.mapM (fun f=>(T.inf f.type).map fun j=>(f.offset,j.size))with
  |some pl=>(Ra st (fun i=>pl[i]?) (i.zero.map V7) parts).map .agg
  |none=>none
 |some i,some (.array _ e)=>match T.inf e with
  |some j=>(Ra st (fun i=>some (i*j.size,j.size)) (i.zero.map V7) parts).map .agg
  |none=>none
 |_,_=>none
def JR(z:List PV):Nat->List PV
 |0=>[]
 |n+1=>z++JR z n
def CI(st:AI):PV->Option (Bool×PV)
 | .sl id sz off len _=>match st.obj id with
  |some (.arr _ _ s l)=>bif zc sz s.sz then some (decide (off+len<=l.length),.dat (.list s) ((l.drop off).take len))else none
  |_=>none
 | .dat s x=>some (true,.dat s x)
 | .bl b=>some (true,.bl b)
 | .nil=>some (true,.nil)
 |_=>none
def Es(st:AI):List PV->Option (Bool×List PV)
 |[]=>some (true,[])
 |v::vs=>match CI st v,Es st vs with
  |some (c,x),some (d,xs)=>some (c&&d,x::xs)
  |_,_=>none
def Bw(st:AI):PV->AI
 | .sl id _ _ _ _=>match st.obj id with
  |some (.arr _ e s l)=>st.setObj id (.arr true e s l)
  |_=>st
 |_=>st
def Bn:List PV->AI->AI
 |[],st=>st
 |v::vs,st=>Bn vs (Bw st v)
def Sy(T:BW)(t:TypeId)(len:Nat)(parts:List (Nat×PV))(st:AI):PO:=
 match T.und t with
 |some (.slice e)=>match T.inf e,Vm T 9 e with
  |some i,some s=>
   bif zj (zk len i.size) 16777216&&zg 0 i.zero.length&&zc i.zero.length i.size&&zc i.size s.sz then
    match Ra st (fun k=>some (k*i.size,i.size)) (JR (i.zero.map V7) len) parts with
    |some cs=>match chunk s len cs with
     |some l=>.val (.sl st.nx s.sz 0 len none) (st.push (.arr false e s l))
     |none=>match Es st cs with
      |some (c,cs')=>match chunk s len cs' with
       |some l=>.FT c (.sl st.nx s.sz 0 len none) ((Bn cs st).push (.arr false e s l))
       |none=>.bad
      |none=>.bad
    |none=>.bad
   else .bad
  |_,_=>.bad
 |_=>.bad
def cZ(T:BW)(t:TypeId)(l c:PV)(st:AI):PO:=
 match T.und t,l,c with
 |some (.slice e),.dat (.int _) l,.dat (.int _) c=>match T.inf e,Vm T 9 e with
  |some i,some s=>
   bif zg 0 i.zero.length&&zc i.zero.length i.size&&zc i.size s.sz then
    match C3 s (i.zero.map V7)with
    |some z=>.FT (decide (0<=(l:Int))&&decide ((l:Int)=(c:Int))&&decide (i.bytes*zd l<=xB)&&decide ((l:Int)<9223372036854775808)) (.sl st.nx s.sz 0 (zd l) none) (st.push (.arr false e s (zi (zd l) z)))
    |none=>.bad
   else .bad
  |_,_=>.bad
 |_,_,_=>.bad
def nG(T:BW)(t:TypeId):Option Sh:=match T.und t with
 |some (.int k)=>some (.int k)
 |some .string=>some .str
 |some .bool=>some .bool
 |_=>none
def J8:PV->Bool
 | .agg _=>true
 |_=>false
def asV(s:Sh)(p:PV):Option s.T:=bif J8 p==s.P5 then C3 s p.cells else none
def Wu(T:BW)(t:TypeId)(st:AI):PO:=match T.und t with
 |some (.map kt e)=>match nG T kt,Vm T 9 e with
  |some ks,some vs=>.val (.mp st.nx) (st.push (.map ks vs []))
  |_,_=>.bad
 |_=>.bad
def dH(st:AI)(ks vs:Sh)(m:PV):Option (List (ks.T×vs.T)):=match m with
 | .nilm=>some []
 | .mp id=>match st.obj id with
  |some (.map ks' vs' l)=>DZ (.list (.pair ks' vs')) (.list (.pair ks vs)) l
  |_=>none
 |_=>none
def zO:V->Bool
 | .agg _=>true
 |_=>false
def xW(ks vs:Sh)(ok:Bool)(z:vs.T)(x:ks.T)(st:AI):List (ks.T×vs.T)->PO
 |[]=>.val (bif ok then .tup [B8 vs z,.bl false]else B8 vs z) st
 |(a,b)::l=>.ite (WB ks x a) (.val (bif ok then .tup [B8 vs b,.bl true]else B8 vs b) st) (xW ks vs ok z x st l)
def R8(T:BW)(t:TypeId)(m k:PV)(ok:Bool)(st:AI):PO:=match T.und t with
 |some (.map kt e)=>match nG T kt,Vm T 9 e,T.inf e with
  |some ks,some vs,some i=>match qZ ks k,dH st ks vs m,C3 vs (i.zero.map V7)with
   |some x,some l,some z=>
    bif zO i.zv==vs.P5 then bif vs.lG then xW ks vs ok z x st l else
     (let v:=B8 vs ((DP ks vs x l).getD z)
     .val (bif ok then .tup [v,.dat .bool (DP ks vs x l).isSome]else v) st)
    else .bad
   |_,_,_=>.bad
  |_,_,_=>.bad
 |_=>.bad
def RQ(T:BW)(t:TypeId)(m k v:PV)(st:AI):PO:=match T.und t,m with
 |some (.map kt _),.mp id=>match nG T kt,st.obj id with
  |some ks,some (.map ks' vs l)=>match qZ ks k,DZ (.list (.pair ks' vs)) (.list (.pair ks vs)) l,asV vs v with
   |some x,some l,some y=>.val (.tup []) (st.setObj id (.map ks vs (Kl ks vs x y l)))
   |_,_,_=>.bad
  |_,_=>.bad
 |_,_=>.bad
def RK(T:BW)(ts:Array TypeId)(args:List PV)(st:AI):PO:=match ts[0]?,args with
 |some t,[.mp id,k]=>match T.und t with
  |some (.map kt _)=>match nG T kt,st.obj id with
   |some ks,some (.map ks' vs l)=>match qZ ks k,DZ (.list (.pair ks' vs)) (.list (.pair ks vs)) l with
    |some x,some l=>.val (.tup []) (st.setObj id (.map ks vs (Rp ks vs x l)))
    |_,_=>.bad
   |_,_=>.bad
  |_=>.bad
 |_,_=>.bad
abbrev KS:=BW->AI->PO
def v1(st:AI)(x:Operand)(k:PV->PO):PO:=match Qe st x with|some v=>k v|none=>.bad
def Wy(x:Operand):KS:=fun _ st=>ov st (Qe st x)
def eA(c a b:Operand):KS:=fun _ st=>v1 st c fun c=>v1 st a fun a=>v1 st b fun b=>iW c a b st
def sN(T:BW)(t:TypeId):Bool:=
 match T.und t with
 |some (.struct fs)=>match fs[0]? with
  |some f=>match T.und f.type with
   |some (.pointer u)=>zc u t
   |_=>false
  |none=>false
 |_=>false
def SD(t:TypeId):KS:=fun T st=>match wG T t with
 |some (s,n)=>.val (.ptr st.nx 0) (st.push (.arr false t s (zi n s.Hd)))
 |none=>match iB T t with|some cs=>.val (.ptr st.nx 0) (st.push (bif sN T t then .tbox t cs else .box cs))|none=>.bad
def rO(_:TypeId)(x:Operand):KS:=fun _ st=>v1 st x fun v=>match xG st v with|some cs=>bif Lj (JE st) cs then .val (.ptr st.nx 0) (st.push (.box cs))else .bad|none=>.bad
def YA(t:TypeId)(ps:Array (Nat×Operand)):KS:=fun T st=>match ZT st ps.toList with|some l=>ov st (VX T st t l)|none=>.bad
def U9(t:TypeId)(n:Nat)(ps:Array (Nat×Operand)):KS:=fun T st=>match ZT st ps.toList with|some l=>Sy T t n l st|none=>.bad
def gL(t:TypeId)(x:Operand):KS:=fun T st=>v1 st x fun a=>My T st t a
def Xx(t:TypeId)(x y:Operand):KS:=fun T st=>v1 st x fun a=>v1 st y fun b=>Vo T st t a b
def P1(x:Operand):KS:=fun _ st=>v1 st x fun a=>match a with| .ptr id _| .eptr id _ _ _=>bif HU (st.obj id)then .val a st else .bad| .FE .. =>.val a st|_=>.bad
def rF(T:BW)(op:BinOp)(t:TypeId)(x y:Operand)(a b:PV):Option Bool:=
 match op,a,b,T.und t with
 | .eql,.nili,.nili,some (.interface _)=>bif YP x||YP y then some true else none
 | .neq,.nili,.nili,some (.interface _)=>bif YP x||YP y then some false else none
 |_,_,_,_=>none
def rR(op:BinOp)(t:TypeId)(x y:Operand)(_:TypeId):KS:=fun T st=>v1 st x fun a=>v1 st y fun b=>match rF T op t x y a b with|some r=>.val (.bl r) st|none=>sV T op t a b st
def yX(op:UnOp)(_:TypeId)(x:Operand):KS:=fun _ st=>v1 st x fun a=>pun op a st
def cK(s d:TypeId)(x:Operand):KS:=fun T st=>v1 st x fun a=>jL T s d a st
def iS(f:Fn)(a b:Array Operand):KS:=fun _ st=>match LC st a.toList,LC st b.toList with|some x,some y=>.val (.fn f x y) st|_,_=>.bad
def dT(t:TypeId)(l c:Operand):KS:=fun T st=>v1 st l fun a=>v1 st c fun b=>cZ T t a b st
def o1(st:AI)(x:Option Operand)(k:Option PV->PO):PO:=match x with|none=>k none|some y=>v1 st y fun v=>k (some v)
def YM(t:TypeId)(x:Operand)(a b c:Option Operand):KS:=fun T st=>v1 st x fun v=>o1 st a fun l=>o1 st b fun h=>o1 st c fun m=>gG T t v l h m st
def Yq(t:TypeId)(x:Operand)(f:Nat):KS:=fun T st=>v1 st x fun a=>VN T t a f st
def YE(t:TypeId)(x:Operand)(f:Nat):KS:=fun T st=>v1 st x fun a=>V2 T t a f st
def Xl(t:TypeId)(x i:Operand):KS:=fun T st=>v1 st x fun a=>v1 st i fun b=>iU T t a b st
def Yh(t:TypeId)(x i:Operand):KS:=fun T st=>v1 st x fun a=>v1 st i fun b=>Wm T t a b st
def QB(x:Operand)(i:Nat):KS:=fun _ st=>v1 st x fun a=>NK a i st
def R6(c:Call):KS:=fun T st=>
 match LC st c.args.toList with
 |none=>.bad
 |some args=>match c.callee with
  | .builtin b=>match b with
   | .delete=>RK T c.argTypes args st
   |_=>ID T b c.argTypes args st
  |_=>.bad
def Yc(t:TypeId)(r:Option Operand):KS:=fun T st=>match r with|none=>Wu T t st|some _=>.bad
def TN(t:TypeId)(x i:Operand)(ok:Bool):KS:=fun T st=>v1 st x fun a=>v1 st i fun b=>R8 T t a b ok st
def O8(t:TypeId)(m k x:Operand):KS:=fun T st=>v1 st m fun a=>v1 st k fun b=>v1 st x fun c=>RQ T t a b c st
def Xh(t:TypeId)(x:Operand):KS:=fun T st=>v1 st x fun a=>V4 T t a st
def hZ(x:Operand)(isStr:Bool):KS:=fun _ st=>v1 st x fun a=>jQ a isStr st
def Ju:KS:=fun _ _=>.bad
def pop(o:Op):KS:=@Op.casesOn (fun _=>KS) o Wy Wy eA SD rO YA U9 O8 gL Xx (fun _=>Ju) (fun _=>Ju) P1 rR yX cK
 (fun _ _=>Ju) (fun _ _=>Ju) iS Yc (fun _ _=>Ju) dT YM Yq YE Xl Yh TN O8 (fun _ _ _=>Ju) (fun _ _ _ _=>Ju)
 Xh hZ (fun _=>Ju) (fun _ _ _ _=>Ju) QB R6 (fun _=>Ju) (fun _=>Ju) (fun _=>Ju) (fun _ _=>Ju) (fun _ _ _=>Ju) (fun _ _=>Ju)
theorem Nf(k:IntKind)(a b:Int):WB (.int k) a b=decide (a=b):=by
 show(a==b)=_;by_cases h:a=b<;>simp[h]
theorem Gy{v:Sh}{q:IntKind}(x k:Int)(b:v.T):∀m:List (Int×v.T),DP (.int q) v x (Kl (.int q) v k b m)=if x=k then some b else DP (.int q) v x m
 |[]=>by
  show(bif WB (.int q) x k then some b else none)=_;rw[Nf];by_cases h:x=k<;>simp[h,DP]
 |(a,c)::m=>by
  show DP (.int q) v x (bif WB (.int q) k a then(k,b)::m else(a,c)::Kl (.int q) v k b m)=_;rw[Nf];by_cases h:k=a
  ·subst h;simp only[decide_true,we];show(bif WB (.int q) x k then some b else DP (.int q) v x m)=if x=k then some b else(bif WB (.int q) x k then some c else DP (.int q) v x m)
   rw[Nf];by_cases h2:x=k<;>simp[h2]
  ·simp only[h,decide_false,wg];show(bif WB (.int q) x a then some c else DP (.int q) v x (Kl (.int q) v k b m))=if x=k then some b else(bif WB (.int q) x a then some c else DP (.int q) v x m)
   rw[Nf,Gy x k b m];by_cases h2:x=a
   ·subst h2;simp[Ne.symm h]
   ·simp[h2]
end Go.Pe
namespace Go.Det
section
abbrev U6:=FuncId->Option (List V->H->Option (V×H))
def Jv(P:Program)(s:U6):Prop:=∀f q,s f=some q->∀(p:Pl) (h:H) (w:World) (args:List V) (args':Array Value) v h',R p h w->Gp p->Aq p args args'.toList->q args h=some (v,h')->
 Calls P f args' w fun e w'=>∃v' p',e=.returned v'/\Ab p' v v'/\Ext p h w p' h' w'
def oG(a b:U6):U6:=fun f=>match a f with
 |some q=>some q
 |none=>b f
variable {P:Program}
theorem JS{a b:U6}(ha:Jv P a)(hb:Jv P b):Jv P (oG a b):=by
 intro f q hq;unfold oG at hq;cases h:a f with
 |some q'=>rw[h]at hq;cases hq;exact ha f _ h
 |none=>rw[h]at hq;exact hb f q hq
def X8(C:Ctx)(s:U6):Ctx:={ C with spec:=s }
theorem Tf{C:Ctx}(hC:C.Ok P){s:U6}(h:Jv P s):(X8 C s).Ok P where
 T:=hC.T
 fn:=hC.fn
 prim:=hC.prim
 spec:=h
theorem Mv{C:Ctx}(hce:F8 C)(s:U6):F8 (X8 C s):=hce
theorem Sg{C:Ctx}(hC:C.Ok P)(hce:F8 C)(hm:P.follows .mixedOrders=true){n:Nat}{L:GV}(h:BZ C n L=true):Jv P (Gw L):=nF (C':=C) hC hce hm h
theorem CO{C:Ctx}{n:Nat}:∀ {a b:GV},BZ C n a=true->BZ C n b=true->BZ C n (a++b)=true
 |[],b,_,h=>h
 |(f,x,v)::a,b,h,k=>by
  simp only[BZ,List.cons_append,Bool.and_eq_true]at h ⊢;exact⟨h.1,CO h.2 k⟩
def Rz(C:Ctx)(n:Nat)(L:GV):U6:=fun f=>match Gw L f with
 |none=>none
 |some q=>some fun args h=>match q args h with
  |some x=>some x
  |none=>match Bf C n (.fn f args) h with
   |some [x]=>some x
   |_=>none
theorem ZX{C:Ctx}(hC:C.Ok P)(hce:F8 C)(hm:P.follows .mixedOrders=true){n k:Nat}{L:GV}(ha:BZ C k L=true):Jv P (Rz C n L):=by
 intro f q hq p h w args args' v h' hr hg hargs hqr;unfold Rz at hq;cases hL:Gw L f with
 |none=>rw[hL]at hq;cases hq
 |some q0=>
  rw[hL]at hq;cases hq;simp only at hqr;split at hqr
  case h_1=>rename_i x hx;cases hqr;exact Sg hC hce hm ha f q0 hL p h w args args' v h' hr hg hargs hx
  case h_2=>
   split at hqr
   case h_2=>cases hqr
   rename_i x he;cases hqr;refine((It hC hce hm n).fn f args h _ he p w args' hr hg hargs).mono ?_;rintro e w' ⟨v1,h1,v',p',hmem,rfl,k1,k2⟩;cases List.mem_singleton.1 hmem;exact⟨v',p',rfl,k1,k2⟩
theorem G1{p:Pl}{h:H}{w w':World}(hr:R p h w)(hb:Go.RowKit.Below w.heap.size w w'):Ext p h w p h w':=by
 obtain⟨h1,h2,h3,h4,h5⟩:=hb;refine⟨⟨[],by simp⟩,⟨hr.len,fun b o hb=>?_,hr.inj⟩,h4,fun r hlt _=>h5 r hlt,fun r hi=>.inl hi,h1,h3,h2,fun r hlt hl=>⟨h5 r hlt,.inl hl⟩⟩;obtain⟨r,m,y,g1,g2,g3⟩:=hr.obj b o hb;exact⟨r,m,y,g1,by rw[h5 r (Array.getElem?_eq_some_iff.1 g2).1];exact g2,g3⟩
end
end Go.Det
