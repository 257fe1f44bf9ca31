import Derived.Test.YtmcnicakonagdaaGreatDoorX03
import Derived.Below
/- A part of a proof (no law is stated here). Made by program out of texts by AI agents. -/
noncomputable section
open Nat renaming beq -> zc, add -> ze, blt -> zg, ble -> zj, mul -> zk
open Int renaming toNat -> zd
open BitVec renaming ofInt -> zf
open Go.Op renaming bytesLess -> zh
open List renaming replicate -> zi
namespace Go.Det
section
def OS(P:Program):Nat->Nat->Bool
 |0,_=>true
 |n+1,a=>(match Qq P (fun _=>true) a with|some i=>DG i.body|none=>true)&&OS P n (a+1)
variable {P:Program}
theorem QL{ct:FuncId->Bool}{f:FuncId}{i:Fn}(hi:Qq P ct f=some i):Qq P (fun _=>true) f=some { i with cert:=true }/\i.cert=ct f:=by
 unfold Qq at hi ⊢;cases hf:P.funcs[f]? with
 |none=>rw[hf]at hi;cases hi
 |some fn=>
  rw[hf]at hi;simp only at hi ⊢;cases hb:fn.body with
  |none=>rw[hb]at hi;cases hi
  |some b=>
   rw[hb]at hi;simp only at hi ⊢;split at hi
   ·cases hi
   ·rename_i hn;rw[wc hn];cases hi;exact⟨rfl,rfl⟩
theorem Ie{f:Nat}{i:Fn}{ct:FuncId->Bool}(hi:Qq P ct f=some i):∀ {n a:Nat},OS P n a=true->a<=f->f<a+n->DG i.body=true
 |0,a,_,h1,h2=>by omega
 |n+1,a,h,h1,h2=>by
  simp only[OS,Bool.and_eq_true]at h;by_cases e:a=f
  ·subst e;rw[(QL hi).1]at h;exact h.1
  ·exact Ie hi h.2 (by omega) (by omega)
def mkC(P:Program)(N:Nat)(L:List (FuncId×PK)):Ctx:=⟨tP P,0,Qq P (fun f=>zg f N),Rw L,fun _=>none,true⟩
theorem aB{N:Nat}{L:List (FuncId×PK)}(h:∀f i,f<N->Qq P (fun f=>zg f N) f=some i->DG i.body=true):Gz (mkC P N L):=by
 intro f i hi hc;have hi:Qq P (fun f=>zg f N) f=some i:=hi;rw[(QL hi).2]at hc;exact h f i (Nat.le_of_ble_eq_true hc) hi
theorem xC{N:Nat}{L:List (FuncId×PK)}(hL:∀x∈L,Ke P x):(mkC P N L).Ok P where
 T:=vM P
 fn:=fun _ _ h=>rZ (P:=P) (ct:=fun f=>zg f N) h
 prim:=fun f q hq p h w args args' v h' hr _ ha hd=>Xr hL f q hq p h w args args' v h' hr ha hd
 spec:=fun f q hq=>by cases hq
end
end Go.Det
namespace Go.Pe
open Go.Det
inductive Sh where
 |int (k:IntKind)
 |bool
 |str
 |list (s:Sh)
 |pair (a b:Sh)
 |unit
 |nlist (s:Sh)
 |fnv
 |ptr (s:Sh)
 deriving DecidableEq
@[reducible] def Sh.T:Sh->Type
 | .int _=>Int
 | .bool=>Bool
 | .str=>List UInt8
 | .list s=>List s.T
 | .pair a b=>a.T×b.T
 | .unit=>Unit
 | .nlist s=>List s.T
 | .fnv=>Option Fn
 | .ptr s=>s.T
def Sh.G4:(s:Sh)->s.T
 | .int _=>(0:Int)
 | .bool=>false
 | .str=>([]:List UInt8)
 | .list _=>[]
 | .pair a b=>(a.G4,b.G4)
 | .unit=>()
 | .nlist _=>[]
 | .fnv=>none
 | .ptr s=>s.G4
def Sh.sz:Sh->Nat
 | .pair a b=>ze a.sz b.sz
 | .unit=>0
 |_=>1
inductive PV where
 |any
 |bl (b:Bool)
 |ub
 |dat (s:Sh) (x:s.T)
 |nil|nilp|nilm|nilf|nili
 |agg (l:List PV)
 |tup (l:List PV)
 |ptr (id off:Nat)
 |eptr (id sz i off:Nat)
 |CW (s:Sh) (x:s.T) (off:Nat)
 |sl (id sz off len:Nat) (cap:Option Nat)
 |mp (id:Nat)
 |fn (f:Fn) (first captured:List PV)
 |yl (id:Nat)
inductive LpS where
 |ready|busy|ret
 |exit (i:Nat)
inductive Obj where
 |arr (fz:Bool) (e:TypeId) (s:Sh) (l:List s.T)
 |box (cs:List PV)
 |tbox (t:TypeId) (cs:List PV)
 |map (ks vs:Sh) (l:List (ks.T×vs.T))
 |siter (s:List UInt8) (pos:Nat)
 |lp (f:FuncId) (r:Nat) (ps:Array Tmp) (asg body:Code) (s:LpS) (n:Nat) (sl:List (Nat×PV))
abbrev Ob:=List (Nat×Obj)
def AP:Ob->Nat->Option Obj
 |[],_=>none
 |(i,o)::l,j=>bif zc i j then some o else AP l j
def DE:Ob->Nat->Obj->Ob
 |[],_,_=>[]
 |(i,o)::l,j,x=>bif zc i j then(i,x)::l else(i,o)::DE l j x
def Gn:Ob->Nat->Ob
 |[],_=>[]
 |(i,o)::l,j=>bif zc i j then Gn l j else(i,o)::Gn l j
structure AK where
 n:Nat
 fr:PM PV
 ob:Ob
 nx:Nat
def AK.get(st:AK)(t:Nat):PV:=(st.fr.get t).getD .any
def AK.obj(st:AK)(id:Nat):Option Obj:=AP st.ob id
def AK.set(st:AK)(t:Nat)(v:PV):AK:=⟨st.n,st.fr.set t (some v),st.ob,st.nx⟩
def AK.setObj(st:AK)(id:Nat)(o:Obj):AK:=⟨st.n,st.fr,DE st.ob id o,st.nx⟩
def AK.Om(st:AK)(id:Nat):AK:=⟨st.n,st.fr,Gn st.ob id,st.nx⟩
def AK.push(st:AK)(o:Obj):AK:=⟨st.n,st.fr,(st.nx,o)::st.ob,ze st.nx 1⟩
def AK.put(st:AK)(d:Option Nat)(v:PV):Option AK:=
 match d with
 |none=>some st
 |some t=>bif zg t st.n then some (st.set t v)else none
def Fq(vs:List (Nat×PV)):PM PV:=vs.foldl (fun m x=>m.set x.1 (some x.2)) .leaf
def flat:(s:Sh)->s.T->List PV
 | .pair a b,(x,y)=>flat a x++flat b y
 | .unit,_=>[]
 | .fnv,x=>[match (x:Option Fn)with|some f=>.fn f [] []|none=>.nilf]
 | .ptr s,x=>[.CW s x 0]
 |s,x=>[.dat s x]
def D4(s s':Sh)(x:s.T):Option s'.T:=if h:s=s' then some (h▸x)else none
def asP(s':Sh)(x:s'.T):(s:Sh)->Option s.T
 | .ptr s=>D4 s' s x
 |_=>none
def tX(s:Sh)(v:PV):Option s.T:=
 match v with
 | .CW s' x 0=>asP s' x s
 | .dat s' x=>D4 s' s x
 | .bl b=>D4 .bool s b
 | .fn f [] []=>D4 .fnv s (some f)
 | .nilf=>D4 .fnv s none
 | .nil=>match s with
  | .list _=>some []
  | .nlist _=>some []
  |_=>none
 |_=>none
def Cx:(s:Sh)->List PV->Option (s.T×List PV)
 | .pair a b,l=>match Cx a l with
  |some (x,l1)=>match Cx b l1 with
   |some (y,l2)=>some ((x,y),l2)
   |none=>none
  |none=>none
 | .unit,l=>some ((),l)
 |s,v::l=>match tX s v with
  |some x=>some (x,l)
  |none=>none
 |_,[]=>none
def DQ(s:Sh)(l:List PV):Option s.T:=
 match Cx s l with
 |some (x,[])=>some x
 |_=>none
def PV.cells:PV->List PV
 | .agg cs=>cs
 |v=>[v]
def X5(ty:TypeId->Option Sh):List Field->Option Sh
 |[]=>none
 |[x]=>ty x.type
 |x::xs=>match ty x.type,X5 ty xs with
  |some a,some b=>some (.pair a b)
  |_,_=>none
def nlf:Option Sh->Option Sh
 |some (.list (.int .u64))=>some (.nlist (.int .u64))
 |s=>s
def lz:PV->PV
 | .dat (.nlist s) x=>.dat (.list s) x
 |v=>v
def Sh.leaves:Sh->List Sh
 | .pair a b=>a.leaves++b.leaves
 | .unit=>[]
 |s=>[s]
def TK:Sh->PV->Bool×PV
 | .nlist s,.dat (.list s') x=>bif s==s' then(decide (0<x.length),.dat (.nlist s') x)else(true,.dat (.list s') x)
 | .list s,.dat (.nlist s') x=>bif s==s' then(true,.dat (.list s') x)else(true,.dat (.nlist s') x)
 |_,v=>(true,v)
def LD:List Sh->List PV->Bool×List PV
 |s::l,v::vs=>((TK s v).1&&(LD l vs).1,(TK s v).2::(LD l vs).2)
 |_,vs=>(true,vs)
def WA(T:B3):Nat->TypeId->Option Sh
 |0,_=>none
 |f+1,t=>match T.und t with
  |some (.int k)=>some (.int k)
  |some .bool=>some .bool
  |some .string=>some .str
  |some (.slice e)=>(WA T f e).map .list
  |some (.func _ _ _)=>some .fnv
  |some (.struct fs)=>X5 (fun x=>nlf (WA T f x)) fs.toList
  |_=>none
def Sh.qZ:Sh->Bool
 | .pair a b=>a.qZ||b.qZ
 | .fnv=>true
 |_=>false
def Cd:(s:Sh)->s.T->PV
 | .pair a b,x=>.agg (flat (.pair a b) x)
 | .unit,_=>.agg []
 | .fnv,x=>match (x:Option Fn)with|some f=>.fn f [] []|none=>.nilf
 | .ptr s,x=>.CW s x 0
 |s,x=>.dat s x
def Sh.Qn:Sh->Bool
 | .pair _ _| .unit=>true
 |_=>false
def tD:(s:Sh)->s.T->s.T->Bool
 | .int _,a,b=>(a:Int)==b
 | .bool,a,b=>(a:Bool)==b
 | .str,a,b=>(a:List UInt8)==b
 |_,_,_=>false
def Lc(s v:Sh)(k:s.T):List (s.T×v.T)->Option v.T
 |[]=>none
 |(a,b)::l=>bif tD s k a then some b else Lc s v k l
def Rz(s v:Sh)(k:s.T)(x:v.T):List (s.T×v.T)->List (s.T×v.T)
 |[]=>[(k,x)]
 |(a,b)::l=>bif tD s k a then(k,x)::l else(a,b)::Rz s v k x l
def S0(s v:Sh)(k:s.T):List (s.T×v.T)->List (s.T×v.T)
 |[]=>[]
 |(a,b)::l=>bif tD s k a then l else(a,b)::S0 s v k l
inductive Tr where
 |fail
 |leaf (v:PV) (ob:Ob)
 |ite (c:Bool) (a b:Tr)
 |both (a b:Tr)
 |cut (nd ro:Bool) (d:Nat) (f:FuncId) (base:Nat) (b:Code) (st:AK) (k:DX->AK->Tr)
 |alts (m:Nat) (f:Nat->Tr)
 |loop (nd ro:Bool) (d:Nat) (f:FuncId) (base:Nat) (b:Code) (st:AK) (k:DX->AK->Tr)
inductive PO where
 |bad
 |val (v:PV) (st:AK)
 |ite (c:Bool) (a b:PO)
def PO.H9(c:Bool)(v:PV)(st:AK):PO:=.ite c (.val v st) .bad
mutual
def Nh:Value->Option PV
 | .bool b=>some (.bl b)
 | .int k n=>some (.dat (.int k) n)
 | .string s=>some (.dat .str s.data.toList)
 | .pointer none=>some .nilp
 | .slice none 0 0=>some .nil
 | .map none=>some .nilm
 | .nilFunc=>some .nilf
 | .nilIface=>some .nili
 | .func f ⟨[]⟩ ⟨[]⟩=>some (.fn f [] [])
 | .agg ⟨cs⟩=>(aD cs).map .agg
 | .tuple ⟨cs⟩=>(aD cs).map .tup
 |_=>none
def aD:List Value->Option (List PV)
 |[]=>some []
 |v::vs=>match Nh v,aD vs with
  |some x,some xs=>some (x::xs)
  |_,_=>none
end
def WS:V->PV
 | .bool b=>.bl b
 | .int k n=>.dat (.int k) n
 | .str s=>.dat .str s
 | .nilp=>.nilp
 | .nils=>.nil
 | .nilm=>.nilm
 | .nilf=>.nilf
 | .nili=>.nili
 |_=>.any
def Qp(st:AK):Operand->Option PV
 | .tmp t=>some (st.get t)
 | .const v=>Nh v
 | .global _=>none
 | .func f=>some (.fn (.func f) [] [])
def Mz(st:AK):List Operand->Option (List PV)
 |[]=>some []
 |x::xs=>match Qp st x,Mz st xs with
  |some v,some vs=>some (v::vs)
  |_,_=>none
def aG(st:AK):List (Nat×Operand)->Option (List (Nat×PV))
 |[]=>some []
 |(i,x)::xs=>match Qp st x,aG st xs with
  |some v,some vs=>some ((i,v)::vs)
  |_,_=>none
def cO(T:B3)(t:TypeId):Option (List PV):=(T.inf t).bind fun i=>bif Lx V.ok i.zero then some (i.zero.map WS)else none
def pick(d:TypeDesc)(n:Nat)(cs:List PV):Option PV:=
 bif DW d then(bif zj n (Ez cs)&&zg 0 n then some (.agg (XY n cs))else none)
 else match cs with
  |v::_=>some v
  |[]=>none
def ov(st:AK):Option PV->PO
 |some v=>.val v st
 |none=>.bad
def yQ(c:Bool)(st:AK):Option PV->PO
 |some v=>.H9 c v st
 |none=>.bad
def chunk(s:Sh):Nat->List PV->Option (List s.T)
 |0,_=>some []
 |n+1,cs=>match Cx s cs with
  |some (x,cs')=>(chunk s n cs').map (x:: ·)
  |none=>none
def Oh(s:Sh)(l:List s.T):Nat->Nat->List PV
 |_,0=>[]
 |j,n+1=>flat s (l.getD j s.G4)++Oh s l (ze j 1) n
def zsh:List V->Option Sh
 | .bool _::_=>some .bool
 | .int k _::_=>some (.int k)
 |_=>none
def yO:Sh->V->Bool
 | .bool,.bool b=> !b
 | .int k,.int k' n=>decide (k=k')&&decide (n=0)
 |_,_=>false
def xD(T:B3)(t:TypeId):Option (Sh×Nat):=
 match T.und t,T.inf t with
 |some (.array _ _),some i=>match zsh i.zero with
  |some s=>bif zj 32 (Ez i.zero)&&Lx (yO s) i.zero then some (s,Ez i.zero)else none
  |none=>none
 |_,_=>none
def M6(T:B3)(st:AK)(t:TypeId)(a:PV):PO:=
 match T.und t,T.inf t with
 |some d,some i=>match a with
  | .ptr id off=>match st.obj id with
   |some (.box cs)=>ov st (pick d i.size (JF off cs))
   |some (.arr _ _ s l)=>bif zc off 0&&zc s.sz 1 then yQ (decide (l.length=i.size)) st (pick d i.size (Oh s l 0 i.size))else .bad
   |some (.tbox _ cs)=>ov st (pick d i.size (JF off cs))
   |_=>.bad
  | .eptr id sz j off=>match st.obj id with
   |some (.arr _ _ s l)=>bif zc sz s.sz then yQ (decide (j<l.length)) st (pick d i.size (JF off (flat s (l.getD j s.G4))))else .bad
   |_=>.bad
  | .CW s x off=>ov st (pick d i.size (JF off (flat s x)))
  |_=>.bad
 |_,_=>.bad
def H8:Option Obj->Bool
 |some _=>true
 |none=>false
def JP(st:AK):PV->Bool
 | .agg _| .tup _| .any| .ub=>false
 | .ptr id _| .eptr id _ _ _| .sl id _ _ _ _| .mp id| .yl id=>H8 (st.obj id)
 |_=>true
def yT(st:AK):PV->Option (List PV)
 | .agg l=>some l
 |p=>bif JP st p then some [p]else none
def WT(T:B3)(st:AK)(t:TypeId)(a x:PV):PO:=
 match T.inf t,yT st x with
 |some i,some xs=>bif zc (Ez xs) i.size&&Lx (JP st) xs then
   match a with
   | .ptr id off=>match st.obj id with
    |some (.box cs)=>bif zj (ze off i.size) (Ez cs)then .val (.tup []) (st.setObj id (.box (Cv off xs cs)))else .bad
    |some (.arr false e s l)=>bif zc off 0&&zc s.sz 1 then
      match chunk s i.size xs with
      |some y=>.H9 (decide (l.length=i.size)) (.tup []) (st.setObj id (.arr false e s y))
      |none=>.bad
     else .bad
    |some (.tbox tb cs)=>bif zj (ze off i.size) (Ez cs)then .val (.tup []) (st.setObj id (.tbox tb (Cv off xs cs)))else .bad
    |_=>.bad
   | .eptr id sz j off=>match st.obj id with
    |some (.arr false e s l)=>bif zc sz s.sz&&zj (ze off i.size) sz then
      match DQ s (Cv off xs (flat s (l.getD j s.G4)))with
      |some y=>.H9 (decide (j<l.length)) (.tup []) (st.setObj id (.arr false e s (l.set j y)))
      |none=>.bad
     else .bad
    |_=>.bad
   |_=>.bad
  else .bad
 |_,_=>.bad
def Hq(k:IntKind)(a b:Int):Int:=k.wrap (zf k.bits a&&&zf k.bits b).toNat
def aU(k:IntKind)(a b:Int):Int:=k.wrap (zf k.bits a|||zf k.bits b).toNat
def AbB(k:IntKind)(a b:Int):Int:=k.wrap (zf k.bits a^^^zf k.bits b).toNat
def AaH(k:IntKind)(a b:Int):Int:=k.wrap (zf k.bits a&&& ~~~zf k.bits b).toNat
def xJ(op:BinOp)(k:IntKind)(a b:Int)(st:AK):PO:=
 match op with
 | .add=>.val (.dat (.int k) (k.wrap (a+b))) st
 | .sub=>.val (.dat (.int k) (k.wrap (a-b))) st
 | .mul=>.val (.dat (.int k) (k.wrap (a*b))) st
 | .quo=>.H9 (decide (b≠0)) (.dat (.int k) (k.wrap (a.tdiv b))) st
 | .rem=>.H9 (decide (b≠0)) (.dat (.int k) (a.tmod b)) st
 | .and=>.val (.dat (.int k) (Hq k a b)) st
 | .or=>.val (.dat (.int k) (aU k a b)) st
 | .xor=>.val (.dat (.int k) (AbB k a b)) st
 | .andNot=>.val (.dat (.int k) (AaH k a b)) st
 | .eql=>.val (.dat .bool (a==b)) st
 | .neq=>.val (.dat .bool (a !=b)) st
 | .lss=>.val (.dat .bool (decide (a<b))) st
 | .leq=>.val (.dat .bool (decide (a<=b))) st
 | .gtr=>.val (.dat .bool (decide (a>b))) st
 | .geq=>.val (.dat .bool (decide (a>=b))) st
 |_=>.bad
def psh(op:BinOp)(k:IntKind)(a b:Int)(st:AK):PO:=
 match op with
 | .shl=>.H9 (decide (0<=b)) (.dat (.int k) (k.wrap (a*2^(min b.toNat k.bits)))) st
 | .shr=>.H9 (decide (0<=b)) (.dat (.int k) (a.fdiv (2^(min b.toNat k.bits)))) st
 |_=>.bad
def wX(op:BinOp)(x y:List UInt8)(st:AK):PO:=
 match op with
 | .add=>.H9 (decide (x.length+y.length<=4611686018427387904)) (.dat .str (x++y)) st
 | .eql=>.val (.dat .bool (x==y)) st
 | .neq=>.val (.dat .bool (!(x==y))) st
 | .lss=>.val (.dat .bool (zh x y)) st
 | .leq=>.val (.dat .bool (zh x y||x==y)) st
 | .gtr=>.val (.dat .bool (!(zh x y||x==y))) st
 | .geq=>.val (.dat .bool (!zh x y)) st
 |_=>.bad
def pB:BinOp->Bool
 | .shl| .shr=>true
 |_=>false
def Ju:PV->Option Bool
 | .bl b=>some b
 | .dat .bool b=>some b
 |_=>none
def G8:List FK->List PV->List PV->Option Bool
 |[],[],[]=>some true
 | .int k::ks,.dat (.int k1) a::xs,.dat (.int k2) b::ys=>bif k==k1&&k==k2 then(G8 ks xs ys).map fun r=>(a:Int)==(b:Int)&&r else none
 | .str::ks,.dat .str a::xs,.dat .str b::ys=>(G8 ks xs ys).map fun r=>(a:List UInt8)==(b:List UInt8)&&r
 | .bool::ks,a::xs,b::ys=>match Ju a,Ju b with
  |some a,some b=>(G8 ks xs ys).map fun r=>a==b&&r
  |_,_=>none
 |_,_,_=>none
def Sy(st:AK)(ng:Bool)(x:PV):PO:=
 match x with
 | .nil=>.val (.bl (!ng)) st
 | .sl id _ _ _ _=>bif H8 (st.obj id)then .val (.bl ng) st else .bad
 | .dat (.list _) l=>.ite (decide (0<l.length)) (.val (.bl ng) st) (.val .ub st)
 | .dat (.nlist _) l=>.val (.dat .bool (bif ng then decide (0<l.length)else !decide (0<l.length))) st
 |_=>.bad
def jO(op:BinOp)(x y:PV)(st:AK):PO:=
 match op,x,y with
 | .eql,x,.nil=>Sy st false x
 | .neq,x,.nil=>Sy st true x
 |_,_,_=>.bad
def ptrEq(T:B3)(e:TypeId)(st:AK)(x y:PV):Option Bool:=
 match x,y with
 | .nilp,.nilp=>some true
 | .ptr id _,.nilp=>bif H8 (st.obj id)then some false else none
 | .nilp,.ptr id _=>bif H8 (st.obj id)then some false else none
 | .ptr a i,.ptr b j=>bif zc a b&&H8 (st.obj a)then match T.inf e with
   |some ti=>bif zg 0 ti.size then some (zc i j)else none
   |none=>none
  else none
 |_,_=>none
def wN(T:B3)(op:BinOp)(t:TypeId)(x y:PV)(st:AK):PO:=
 match x,y with
 | .dat (.int k) a,.dat (.int k') b=>bif pB op then psh op k a b st else(bif k==k' then xJ op k a b st else .bad)
 | .dat .str a,.dat .str b=>wX op a b st
 | .agg xs,.agg ys=>match T.flat t with
  |some ks=>match op,G8 ks xs ys with
   | .eql,some r=>.val (.dat .bool r) st
   | .neq,some r=>.val (.dat .bool (!r)) st
   |_,_=>.bad
  |none=>.bad
 |x,y=>match Ju x,Ju y,T.und t with
  |some a,some b,some .bool=>match op with
   | .eql=>.val (.dat .bool (a==b)) st
   | .neq=>.val (.dat .bool (!(a==b))) st
   |_=>.bad
  |_,_,some (.slice _)=>jO op x y st
  |_,_,some (.pointer e)=>match op,ptrEq T e st x y with
   | .eql,some r=>.val (.bl r) st
   | .neq,some r=>.val (.bl (!r)) st
   |_,_=>.bad
  |_,_,_=>.bad
def pun(op:UnOp)(x:PV)(st:AK):PO:=
 match op,x with
 | .neg,.dat (.int k) n=>.val (.dat (.int k) (k.wrap (0-(n:Int)))) st
 | .not,.bl b=>.val (.bl (!b)) st
 | .not,.ub=>.val .ub st
 | .not,.dat .bool b=>.val (.dat .bool (!b)) st
 |_,_=>.bad
def jQ(T:B3)(s d:TypeId)(x:PV)(st:AK):PO:=
 match T.und s,T.und d,x with
 |some _,some (.int k),.dat (.int _) n=>.val (.dat (.int k) (k.wrap n)) st
 |some .string,some .string,.dat .str s=>.val (.dat .str s) st
 |_,_,_=>.bad
def dR(c a b:PV)(st:AK):PO:=
 match c with
 | .bl t=>.val (bif t then a else b) st
 | .dat .bool t=>match a,b with
  | .dat .bool x,.bl false=>.val (.dat .bool (t&&x)) st
  | .bl true,.dat .bool x=>.val (.dat .bool (t||x)) st
  |_,_=>.ite t (.val a st) (.val b st)
 |_=>.bad
def VT(T:B3)(t:TypeId)(x:PV)(f:Nat)(st:AK):PO:=
 match T.und t,x with
 |some (.struct fs),.agg cs=>match fs[f]? with
  |some fd=>match T.und fd.type,T.inf fd.type with
   |some d,some i=>ov st (pick d i.size (JF fd.offset cs))
   |_,_=>.bad
  |none=>.bad
 |_,_=>.bad
def VM(T:B3)(t:TypeId)(x:PV)(f:Nat)(st:AK):PO:=
 match T.und t with
 |some (.struct fs)=>match fs[f]? with
  |some fd=>match T.inf fd.type with
   |some i=>bif zc i.size 0 then .bad else match x with
    | .ptr id off=>bif H8 (st.obj id)then .val (.ptr id (ze off fd.offset)) st else .bad
    | .eptr id sz j off=>bif H8 (st.obj id)then .val (.eptr id sz j (ze off fd.offset)) st else .bad
    | .CW s y off=>.val (.CW s y (ze off fd.offset)) st
    |_=>.bad
   |none=>.bad
  |none=>.bad
 |_=>.bad
def Sx(T:B3)(t:TypeId)(x ix:PV)(st:AK):PO:=
 match T.und t,ix with
 |some (.slice e),.dat (.int _) i=>match T.inf e with
  |some ti=>match x with
   | .dat (.list s) l=>bif zc ti.size s.sz then .H9 (decide (0<=(i:Int))&&decide ((i:Int)<(l.length:Int))) (.CW s (l.getD (zd i) s.G4) 0) st else .bad
   | .sl id sz off len _=>bif zc ti.size sz&&H8 (st.obj id)then .H9 (decide (0<=(i:Int))&&decide ((i:Int)<(len:Int))) (.eptr id sz (ze (zd i) off) 0) st else .bad
   |_=>.bad
  |none=>.bad
 |some (.array len e),.dat (.int _) i=>match T.inf e with
  |some ti=>match x with
   | .ptr id off=>match st.obj id with
    |some (.arr _ _ s _)=>bif zc off 0&&zc ti.size s.sz then .H9 (decide (0<=(i:Int))&&decide ((i:Int)<(len:Int))) (.eptr id s.sz (zd i) 0) st else .bad
    |some _=>.H9 (decide (0<=(i:Int))&&decide ((i:Int)<(len:Int))) (.ptr id (ze off (zk (zd i) ti.size))) st
    |none=>.bad
   | .eptr id sz j off=>bif H8 (st.obj id)then .H9 (decide (0<=(i:Int))&&decide ((i:Int)<(len:Int))) (.eptr id sz j (ze off (zk (zd i) ti.size))) st else .bad
   | .CW s y off=>.H9 (decide (0<=(i:Int))&&decide ((i:Int)<(len:Int))) (.CW s y (ze off (zk (zd i) ti.size))) st
   |_=>.bad
  |none=>.bad
 |_,_=>.bad
def bJ(T:B3)(t:TypeId)(x ix:PV)(st:AK):PO:=Sx T t (lz x) ix st
def Wv(T:B3)(t:TypeId)(x ix:PV)(st:AK):PO:=
 match T.und t,x,ix with
 |some .string,.dat .str s,.dat (.int _) i=>.H9 (decide (0<=(i:Int))&&decide ((i:Int)<((s:List UInt8).length:Int))) (.dat (.int .u8) (((s:List UInt8).getD (zd i) 0).toNat:Int)) st
 |some (.array len e),.agg cs,.dat (.int _) i=>match T.und e,T.inf e with
  |some d,some ti=>yQ (decide (0<=(i:Int))&&decide ((i:Int)<(len:Int))) st (pick d ti.size (JF (zk (zd i) ti.size) cs))
  |_,_=>.bad
 |_,_,_=>.bad
def Pu(x:PV)(i:Nat)(st:AK):PO:=
 match x with
 | .tup vs=>match vs[i]? with
  |some v=>.val v st
  |none=>.bad
 |_=>.bad
def pb(x:Option PV)(G4:Nat):Option (Bool×Nat):=
 match x with
 |none=>some (true,G4)
 |some (.dat (.int _) n)=>some (decide (0<=(n:Int)),zd n)
 |_=>none
def has(mx:Option PV)(c:Nat):Bool:=match mx with
 |none=>true
 |some _=>decide (0<c)
def SL(T:B3)(t:TypeId)(x:PV)(lo hi mx:Option PV)(st:AK):PO:=
 match T.und t with
 |some .string=>match x,mx with
  | .dat .str s,none=>match pb lo 0,pb hi (s:List UInt8).length with
   |some (c1,l),some (c2,h)=>.H9 (c1&&c2&&decide (l<=h)&&decide (h<=(s:List UInt8).length)) (.dat .str (((s:List UInt8).drop l).take (Nat.sub h l))) st
   |_,_=>.bad
  |_,_=>.bad
 |some (.slice e)=>match T.inf e with
  |some ti=>match x with
   | .dat (.list s) xs=>bif zc ti.size s.sz then
     match pb lo 0,pb hi xs.length,mx with
     |some (c1,l),some (c2,h),none=>.H9 (c1&&c2&&decide (l<=h)&&decide (h<=xs.length)) (.dat (.list s) ((xs.drop l).take (Nat.sub h l))) st
     |_,_,_=>.bad
    else .bad
   | .sl id sz off len cap=>bif zc ti.size sz&&H8 (st.obj id)then
     match hi,mx with
     |none,some _=>.bad
     |_,_=>match pb lo 0,pb hi len,pb mx (cap.getD len)with
      |some (c1,l),some (c2,h),some (c3,m)=>.H9 (c1&&c2&&c3&&decide (l<=h)&&decide (h<=m)&&decide (m<=cap.getD len)&&has mx (cap.getD len)) (.sl id sz (ze off l) (Nat.sub h l) (some (Nat.sub m l))) st
      |_,_,_=>.bad
    else .bad
   | .nil=>match pb lo 0,pb hi 0,mx with
    |some (c1,l),some (c2,h),none=>.H9 (c1&&c2&&decide (l<=h)&&decide (h<=0)) .nil st
    |some (c1,l),some (c2,h),some q=>match hi,pb (some q) 0 with
     |some _,some (c3,m)=>.H9 (c1&&c2&&c3&&decide (l<=h)&&decide (h<=m)&&decide (m<=0)) .nil st
     |_,_=>.bad
    |_,_,_=>.bad
   |_=>.bad
  |none=>.bad
 |_=>.bad
def eB(T:B3)(t:TypeId)(x:PV)(lo hi mx:Option PV)(st:AK):PO:=SL T t (lz x) lo hi mx st
def pi64(n:Nat):PV:=.dat (.int .i64) (Int.ofNat n)
def Vi(T:B3)(ts:Array TypeId)(args:List PV)(st:AK):PO:=
 match ts[0]?,args with
 |some t,[x]=>match T.und t,x with
  |some .string,.dat .str s=>.val (pi64 (s:List UInt8).length) st
  |some (.slice _),.dat (.list _) l=>.val (pi64 l.length) st
  |some (.slice _),.sl id _ _ len _=>bif H8 (st.obj id)then .val (pi64 len) st else .bad
  |some (.slice _),.nil=>.val (pi64 0) st
  |some (.map _ _),.mp id=>match st.obj id with
   |some (.map _ _ l)=>.val (pi64 l.length) st
   |_=>.bad
  |_,_=>.bad
 |_,_=>.bad
def qN(T:B3)(ts:Array TypeId)(args:List PV)(st:AK):PO:=Vi T ts (args.map lz) st
def zM(f:Int->Int->Int)(k:IntKind):Int->List PV->Option Int
 |x,[]=>some x
 |x,.dat (.int k') y::ys=>bif k==k' then zM f k (f x y) ys else none
 |_,_=>none
def NP(f:Int->Int->Int)(args:List PV)(st:AK):PO:=
 match args with
 | .dat (.int k) x::ys=>match zM f k x ys with
  |some z=>.val (.dat (.int k) z) st
  |none=>.bad
 |_=>.bad
def imax(x y:Int):Int:=if y>x then y else x
def EK(x y:Int):Int:=if y<x then y else x
def Ny(st:AK)(s:Sh)(x:PV):Option (Bool×List s.T):=
 match x with
 | .nil=>some (true,[])
 | .dat (.list s') l=>(D4 (.list s') (.list s) l).map fun r=>(true,r)
 | .sl id sz off len _=>match st.obj id with
  |some (.arr _ _ s' l)=>bif zc sz s'.sz then(D4 (.list s') (.list s) l).map fun r=>(decide (off+len<=r.length),(r.drop off).take len)else none
  |_=>none
 | .dat .str l=>(D4 (.list (.int .u8)) (.list s) (List.map (fun b:UInt8=>(b.toNat:Int)) l)).map fun r=>(true,r)
 |_=>none
def N0(st:AK)(s:Sh)(x:PV):Option (Bool×List s.T):=Ny st s (lz x)
def yL:Nat:=281474976710656
def Sz:TypeDesc->Bool
 | .slice _=>true
 | .string=>true
 |_=>false
def Sk(T:B3)(ts:Array TypeId)(args:List PV)(st:AK):PO:=
 match ts[0]?,ts[1]?,args with
 |some t,some tx,[b,x]=>match T.und t,T.und tx with
  |some (.slice e),some dx=>bif Sz dx then match T.inf e,WA T 9 e with
   |some i,some s=>
    bif zg 0 i.bytes&&zg 0 i.size&&zc i.zero.length i.size&&zc i.size s.sz then
     match N0 st s x with
     |some (c,new)=>match b with
      | .nil=>match x with
       | .nil=>.val .nil st
       | .dat _ _=>.ite (decide (0<new.length)) (.H9 (c&&decide ((2*new.length+1000)*i.bytes<=yL)) (.sl st.nx s.sz 0 new.length none) (st.push (.arr false e s new))) (.val .nil st)
       | .sl _ _ _ _ (some _)=>.ite (decide (0<new.length)) (.H9 (c&&decide ((2*new.length+1000)*i.bytes<=yL)) (.sl st.nx s.sz 0 new.length none) (st.push (.arr false e s new))) (.H9 c .nil st)
       |_=>.H9 (c&&decide (0<new.length)&&decide ((2*new.length+1000)*i.bytes<=yL)) (.sl st.nx s.sz 0 new.length none) (st.push (.arr false e s new))
      | .sl id sz off len cap=>match st.obj id with
       |some (.arr false e' s' l)=>match D4 (.list s') (.list s) l with
        |some l'=>bif zc e e'&&zc sz s.sz then
          match cap with
          |none=>.H9 (c&&decide (off=0)&&decide (len=l'.length)&&decide ((2*(len+new.length)+1000)*i.bytes<=yL)) (.sl st.nx s.sz 0 (ze len new.length) none) ((st.Om id).push (.arr false e s (l'++new)))
          |some k=>.H9 (c&&decide (len+new.length<=k)&&decide (off+k<=l'.length)) (.sl id sz off (ze len new.length) (some k)) (st.setObj id (.arr false e s (l'.take (off+len)++(new++l'.drop (off+len+new.length)))))
         else .bad
        |none=>.bad
       |_=>.bad
      |_=>.bad
     |none=>.bad
    else .bad
   |_,_=>.bad
   else .bad
  |_,_=>.bad
 |_,_,_=>.bad
def VD(T:B3)(ts:Array TypeId)(args:List PV)(st:AK):PO:=
 match ts[0]?,args with
 |some t,[x]=>match T.und t with
  |some (.slice e)=>match x with
   | .nil=>.val (.tup []) st
   | .sl id sz off len _=>match T.inf e,st.obj id with
    |some i,some (.arr false e' s l)=>
     bif zc sz s.sz&&zg 0 i.zero.length&&zc i.zero.length s.sz&&Lx V.one i.zero then
      match DQ s (i.zero.map WS)with
      |some z=>.H9 (decide (off+len<=l.length)) (.tup []) (st.setObj id (.arr false e' s (l.take off++(zi len z++l.drop (off+len)))))
      |none=>.bad
     else .bad
    |_,_=>.bad
   |_=>.bad
  |_=>.bad
 |_,_=>.bad
def WD(args:List PV)(st:AK):PO:=
 match args with
 |[.sl id sz off len none]=>bif H8 (st.obj id)then .H9 (decide (0<len)) (.eptr id sz off 0) st else .bad
 |_=>.bad
def VI(l:List Int):List UInt8:=l.map fun x=>UInt8.ofNat x.toNat
def QT(l:List Int):Bool:=l.all fun x=>decide (0<=x)&&decide (x<256)
def gM(T:B3)(ts:List TypeId)(args:List PV)(st:AK):PO:=
 match ts,args with
 |[pt,_],[.eptr id _ i 0,.dat (.int .i64) n]=>match T.und pt,st.obj id with
  |some (.pointer e),some (.arr false e' s l)=>match T.inf e,D4 (.list s) (.list (.int .u8)) l with
   |some ti,some bs=>bif zc ti.size 1&&zc e e' then
     .H9 (decide (i=0)&&decide (0<(n:Int))&&decide (zd n<=(bs:List Int).length)&&decide (zd n<=9223372036854775807)&&QT bs) (.dat .str (VI ((bs:List Int).take (zd n)))) (st.Om id)
    else .bad
   |_,_=>.bad
  |_,_=>.bad
 |_,_=>.bad
def IP(T:B3)(b:Builtin)(ts:Array TypeId)(args:List PV)(st:AK):PO:=
 match b with
 | .len=>qN T ts args st
 | .append=>Sk T ts args st
 | .max=>NP imax args st
 | .min=>NP EK args st
 | .clear=>VD T ts args st
 | .unsafeSliceData=>WD args st
 | .unsafeString=>gM T ts.toList args st
 |_=>.bad
def rune(s:List UInt8)(pos:Nat):Int:=(Utf8.decode (bytesOf s) pos).1
def uH(s:List UInt8)(pos:Nat):Nat:=(Utf8.decode (bytesOf s) pos).2
def Wd(T:B3)(t:TypeId)(x:PV)(st:AK):PO:=
 match T.und t,x with
 |some .string,.dat .str s=>.val (.ptr st.nx 0) (st.push (.siter s 0))
 |_,_=>.bad
def iH(x:PV)(isStr:Bool)(st:AK):PO:=
 match x,isStr with
 | .ptr id 0,true=>match st.obj id with
  |some (.siter s pos)=>.ite (decide (pos<s.length)) (.val (.tup [.bl true,.dat (.int .i64) (Int.ofNat pos),.dat (.int .i32) (rune s pos)]) (st.setObj id (.siter s (ze pos (uH s pos))))) (.val (.tup [.bl false]) st)
  |_=>.bad
 |_,_=>.bad
def Q8(st:AK)(place:Nat->Option (Nat×Nat))(cells:List PV):List (Nat×PV)->Option (List PV)
 |[]=>some cells
 |(i,v)::rest=>match place i with
  |none=>none
  |some (off,size)=>match yT st v with
   |some vs=>bif zc (Ez vs) size&&zj (ze off size) (Ez cells)then Q8 st place (Cv off vs cells) rest else none
   |none=>none
def Wm(T:B3)(st:AK)(t:TypeId)(parts:List (Nat×PV)):Option PV:=
 match T.inf t,T.und t with
 |some i,some (.struct fs)=>
  match fs.toList.mapM (fun f=>(T.inf f.type).map fun j=>(f.offset,j.size))with
  |some pl=>(Q8 st (fun i=>pl[i]?) (i.zero.map WS) parts).map .agg
  |none=>none
 |some i,some (.array _ e)=>match T.inf e with
  |some j=>(Q8 st (fun i=>some (i*j.size,j.size)) (i.zero.map WS) parts).map .agg
  |none=>none
 |_,_=>none
def Kh(z:List PV):Nat->List PV
 |0=>[]
 |n+1=>z++Kh z n
def C2(st:AK):PV->Option (Bool×PV)
 | .sl id sz off len _=>match st.obj id with
  |some (.arr _ _ s l)=>bif zc sz s.sz then some (decide (off+len<=l.length),.dat (.list s) ((l.drop off).take len))else none
  |_=>none
 | .dat s x=>some (true,.dat s x)
 | .CW s x off=>some (true,.CW s x off)
 | .bl b=>some (true,.bl b)
 | .nil=>some (true,.nil)
 |_=>none
def F7(st:AK):List PV->Option (Bool×List PV)
 |[]=>some (true,[])
 |v::vs=>match C2 st v,F7 st vs with
  |some (c,x),some (d,xs)=>some (c&&d,x::xs)
  |_,_=>none
def BC(st:AK):PV->AK
 | .sl id _ _ _ _=>match st.obj id with
  |some (.arr _ e s l)=>st.setObj id (.arr true e s l)
  |_=>st
 |_=>st
def Bt:List PV->AK->AK
 |[],st=>st
 |v::vs,st=>Bt vs (BC st v)
def Ss(T:B3)(t:TypeId)(len:Nat)(parts:List (Nat×PV))(st:AK):PO:=
 match T.und t with
 |some (.slice e)=>match T.inf e,WA T 9 e with
  |some i,some s=>
   bif zj (zk len i.size) 16777216&&zg 0 i.zero.length&&zc i.zero.length i.size&&zc i.size s.sz then
    match Q8 st (fun k=>some (k*i.size,i.size)) (Kh (i.zero.map WS) len) parts with
    |some cs=>match chunk s len cs with
     |some l=>.val (.sl st.nx s.sz 0 len none) (st.push (.arr false e s l))
     |none=>match F7 st cs with
      |some (c,cs')=>match chunk s len cs' with
       |some l=>.H9 c (.sl st.nx s.sz 0 len none) ((Bt cs st).push (.arr false e s l))
       |none=>.bad
      |none=>.bad
    |none=>.bad
   else .bad
  |_,_=>.bad
 |_=>.bad
def dT(T:B3)(t:TypeId)(l c:PV)(st:AK):PO:=
 match T.und t,l,c with
 |some (.slice e),.dat (.int _) l,.dat (.int _) c=>match T.inf e,WA T 9 e with
  |some i,some s=>
   bif zg 0 i.zero.length&&zc i.zero.length i.size&&zc i.size s.sz then
    match DQ s (i.zero.map WS)with
    |some z=>.H9 (decide (0<=(l:Int))&&decide ((l:Int)=(c:Int))&&decide (i.bytes*zd l<=yL)&&decide ((l:Int)<9223372036854775808)) (.sl st.nx s.sz 0 (zd l) none) (st.push (.arr false e s (zi (zd l) z)))
    |none=>.bad
   else .bad
  |_,_=>.bad
 |_,_,_=>.bad
def nI(T:B3)(t:TypeId):Option Sh:=match T.und t with
 |some (.int k)=>some (.int k)
 |some .string=>some .str
 |some .bool=>some .bool
 |_=>none
def MG:PV->Bool
 | .agg _=>true
 |_=>false
def asV(s:Sh)(p:PV):Option s.T:=bif MG p==s.Qn then DQ s p.cells else none
def Xc(T:B3)(t:TypeId)(st:AK):PO:=match T.und t with
 |some (.map kt e)=>match nI T kt,WA T 9 e with
  |some ks,some vs=>.val (.mp st.nx) (st.push (.map ks vs []))
  |_,_=>.bad
 |_=>.bad
def fX(st:AK)(ks vs:Sh)(m:PV):Option (List (ks.T×vs.T)):=match m with
 | .nilm=>some []
 | .mp id=>match st.obj id with
  |some (.map ks' vs' l)=>D4 (.list (.pair ks' vs')) (.list (.pair ks vs)) l
  |_=>none
 |_=>none
def vAg:V->Bool
 | .agg _=>true
 |_=>false
def plk(ks vs:Sh)(ok:Bool)(z:vs.T)(x:ks.T)(st:AK):List (ks.T×vs.T)->PO
 |[]=>.val (bif ok then .tup [Cd vs z,.bl false]else Cd vs z) st
 |(a,b)::l=>.ite (tD ks x a) (.val (bif ok then .tup [Cd vs b,.bl true]else Cd vs b) st) (plk ks vs ok z x st l)
def SB(T:B3)(t:TypeId)(m k:PV)(ok:Bool)(st:AK):PO:=match T.und t with
 |some (.map kt e)=>match nI T kt,WA T 9 e,T.inf e with
  |some ks,some vs,some i=>match tX ks k,fX st ks vs m,DQ vs (i.zero.map WS)with
   |some x,some l,some z=>
    bif vAg i.zv==vs.Qn then bif vs.qZ then plk ks vs ok z x st l else
     (let v:=Cd vs ((Lc ks vs x l).getD z)
     .val (bif ok then .tup [v,.dat .bool (Lc ks vs x l).isSome]else v) st)
    else .bad
   |_,_,_=>.bad
  |_,_,_=>.bad
 |_=>.bad
def RX(T:B3)(t:TypeId)(m k v:PV)(st:AK):PO:=match T.und t,m with
 |some (.map kt _),.mp id=>match nI T kt,st.obj id with
  |some ks,some (.map ks' vs l)=>match tX ks k,D4 (.list (.pair ks' vs)) (.list (.pair ks vs)) l,asV vs v with
   |some x,some l,some y=>.val (.tup []) (st.setObj id (.map ks vs (Rz ks vs x y l)))
   |_,_,_=>.bad
  |_,_=>.bad
 |_,_=>.bad
def RY(T:B3)(ts:Array TypeId)(args:List PV)(st:AK):PO:=match ts[0]?,args with
 |some t,[.mp id,k]=>match T.und t with
  |some (.map kt _)=>match nI T kt,st.obj id with
   |some ks,some (.map ks' vs l)=>match tX ks k,D4 (.list (.pair ks' vs)) (.list (.pair ks vs)) l with
    |some x,some l=>.val (.tup []) (st.setObj id (.map ks vs (S0 ks vs x l)))
    |_,_=>.bad
   |_,_=>.bad
  |_=>.bad
 |_,_=>.bad
abbrev K2:=B3->AK->PO
def v1(st:AK)(x:Operand)(k:PV->PO):PO:=match Qp st x with|some v=>k v|none=>.bad
def W5(x:Operand):K2:=fun _ st=>ov st (Qp st x)
def kK(c a b:Operand):K2:=fun _ st=>v1 st c fun c=>v1 st a fun a=>v1 st b fun b=>dR c a b st
def uI(T:B3)(t:TypeId):Bool:=
 match T.und t with
 |some (.struct fs)=>match fs[0]? with
  |some f=>match T.und f.type with
   |some (.pointer u)=>zc u t
   |_=>false
  |none=>false
 |_=>false
def SV(t:TypeId):K2:=fun T st=>match xD T t with
 |some (s,n)=>.val (.ptr st.nx 0) (st.push (.arr false t s (zi n s.G4)))
 |none=>match cO T t with|some cs=>.val (.ptr st.nx 0) (st.push (bif uI T t then .tbox t cs else .box cs))|none=>.bad
def tO(_:TypeId)(x:Operand):K2:=fun _ st=>v1 st x fun v=>match yT st v with|some cs=>bif Lx (JP st) cs then .val (.ptr st.nx 0) (st.push (.box cs))else .bad|none=>.bad
def Yx(t:TypeId)(ps:Array (Nat×Operand)):K2:=fun T st=>match aG st ps.toList with|some l=>ov st (Wm T st t l)|none=>.bad
def TH(t:TypeId)(n:Nat)(ps:Array (Nat×Operand)):K2:=fun T st=>match aG st ps.toList with|some l=>Ss T t n l st|none=>.bad
def gN(t:TypeId)(x:Operand):K2:=fun T st=>v1 st x fun a=>M6 T st t a
def Xt(t:TypeId)(x y:Operand):K2:=fun T st=>v1 st x fun a=>v1 st y fun b=>WT T st t a b
def ON(x:Operand):K2:=fun _ st=>v1 st x fun a=>match a with| .ptr id _| .eptr id _ _ _=>bif H8 (st.obj id)then .val a st else .bad| .CW .. =>.val a st|_=>.bad
def tJ(T:B3)(op:BinOp)(t:TypeId)(x y:Operand)(a b:PV):Option Bool:=
 match op,a,b,T.und t with
 | .eql,.nili,.nili,some (.interface _)=>bif Yg x||Yg y then some true else none
 | .neq,.nili,.nili,some (.interface _)=>bif Yg x||Yg y then some false else none
 |_,_,_,_=>none
def tF(op:BinOp)(t:TypeId)(x y:Operand)(_:TypeId):K2:=fun T st=>v1 st x fun a=>v1 st y fun b=>match tJ T op t x y a b with|some r=>.val (.bl r) st|none=>wN T op t a b st
def AaE(op:UnOp)(_:TypeId)(x:Operand):K2:=fun _ st=>v1 st x fun a=>pun op a st
def gY(s d:TypeId)(x:Operand):K2:=fun T st=>v1 st x fun a=>jQ T s d a st
def eI(f:Fn)(a b:Array Operand):K2:=fun _ st=>match Mz st a.toList,Mz st b.toList with|some x,some y=>.val (.fn f x y) st|_,_=>.bad
def fW(t:TypeId)(l c:Operand):K2:=fun T st=>v1 st l fun a=>v1 st c fun b=>dT T t a b st
def o1(st:AK)(x:Option Operand)(k:Option PV->PO):PO:=match x with|none=>k none|some y=>v1 st y fun v=>k (some v)
def XP(t:TypeId)(x:Operand)(a b c:Option Operand):K2:=fun T st=>v1 st x fun v=>o1 st a fun l=>o1 st b fun h=>o1 st c fun m=>eB T t v l h m st
def Ys(t:TypeId)(x:Operand)(f:Nat):K2:=fun T st=>v1 st x fun a=>VM T t a f st
def YQ(t:TypeId)(x:Operand)(f:Nat):K2:=fun T st=>v1 st x fun a=>VT T t a f st
def Yk(t:TypeId)(x i:Operand):K2:=fun T st=>v1 st x fun a=>v1 st i fun b=>bJ T t a b st
def Yj(t:TypeId)(x i:Operand):K2:=fun T st=>v1 st x fun a=>v1 st i fun b=>Wv T t a b st
def QK(x:Operand)(i:Nat):K2:=fun _ st=>v1 st x fun a=>Pu a i st
def Tf(c:Call):K2:=fun T st=>
 match Mz st c.args.toList with
 |none=>.bad
 |some args=>match c.callee with
  | .builtin b=>match b with
   | .delete=>RY T c.argTypes args st
   |_=>IP T b c.argTypes args st
  |_=>.bad
def XQ(t:TypeId)(r:Option Operand):K2:=fun T st=>match r with|none=>Xc T t st|some _=>.bad
def Tn(t:TypeId)(x i:Operand)(ok:Bool):K2:=fun T st=>v1 st x fun a=>v1 st i fun b=>SB T t a b ok st
def Qa(t:TypeId)(m k x:Operand):K2:=fun T st=>v1 st m fun a=>v1 st k fun b=>v1 st x fun c=>RX T t a b c st
def Xu(t:TypeId)(x:Operand):K2:=fun T st=>v1 st x fun a=>Wd T t a st
def iF(x:Operand)(isStr:Bool):K2:=fun _ st=>v1 st x fun a=>iH a isStr st
def Jz:K2:=fun _ _=>.bad
def pop(o:Op):K2:=@Op.casesOn (fun _=>K2) o W5 W5 kK SV tO Yx TH Qa gN Xt (fun _=>Jz) (fun _=>Jz) ON tF AaE gY
 (fun _ _=>Jz) (fun _ _=>Jz) eI XQ (fun _ _=>Jz) fW XP Ys YQ Yk Yj Tn Qa (fun _ _ _=>Jz) (fun _ _ _ _=>Jz)
 Xu iF (fun _=>Jz) (fun _ _ _ _=>Jz) QK Tf (fun _=>Jz) (fun _=>Jz) (fun _=>Jz) (fun _ _=>Jz) (fun _ _ _=>Jz) (fun _ _=>Jz)
end Go.Pe
namespace Go.Det
section
abbrev W6:=FuncId->Option (List V->H->Option (V×H))
def KZ(P:Program)(s:W6):Prop:=∀f q,s f=some q->∀(p:Pl) (h:H) (w:World) (args:List V) (args':Array Value) v h',R p h w->Gp p->As p args args'.toList->q args h=some (v,h')->
 Calls P f args' w fun e w'=>∃v' p',e=.returned v'/\Ac p' v v'/\Ext p h w p' h' w'
def yS(a b:W6):W6:=fun f=>match a f with
 |some q=>some q
 |none=>b f
variable {P:Program}
theorem Sq{a b:W6}(ha:KZ P a)(hb:KZ P b):KZ P (yS a b):=by
 intro f q hq;unfold yS at hq;cases h:a f with
 |some q'=>rw[h]at hq;cases hq;exact ha f _ h
 |none=>rw[h]at hq;exact hb f q hq
def Yd(C:Ctx)(s:W6):Ctx:={ C with spec:=s }
theorem TV{C:Ctx}(hC:C.Ok P){s:W6}(h:KZ P s):(Yd C s).Ok P where
 T:=hC.T
 fn:=hC.fn
 prim:=hC.prim
 spec:=h
theorem MM{C:Ctx}(hce:Gz C)(s:W6):Gz (Yd C s):=hce
theorem XI{C:Ctx}(hC:C.Ok P)(hce:Gz C)(hm:P.follows .mixedOrders=true){n:Nat}{L:CG}(h:AX C n L=true):KZ P (Kb L):=rD (C':=C) hC hce hm h
theorem AJ{C:Ctx}{n:Nat}:∀ {a b:CG},AX C n a=true->AX C n b=true->AX C n (a++b)=true
 |[],b,_,h=>h
 |(f,x,v)::a,b,h,k=>by
  simp only[AX,List.cons_append,Bool.and_eq_true]at h ⊢;exact⟨h.1,AJ h.2 k⟩
def JV(C:Ctx)(n:Nat)(L:CG):W6:=fun f=>match Kb L f with
 |none=>none
 |some q=>some fun args h=>match q args h with
  |some x=>some x
  |none=>match Bl C n (.fn f args) h with
   |some [x]=>some x
   |_=>none
theorem QY{C:Ctx}(hC:C.Ok P)(hce:Gz C)(hm:P.follows .mixedOrders=true){n k:Nat}{L:CG}(ha:AX C k L=true):KZ P (JV C n L):=by
 intro f q hq p h w args args' v h' hr hg hargs hqr;unfold JV at hq;cases hL:Kb L f with
 |none=>rw[hL]at hq;cases hq
 |some q0=>
  rw[hL]at hq;cases hq;simp only at hqr;split at hqr
  case h_1=>rename_i x hx;cases hqr;exact XI hC hce hm ha f q0 hL p h w args args' v h' hr hg hargs hx
  case h_2=>
   split at hqr
   case h_2=>cases hqr
   rename_i x he;cases hqr;refine((IV hC hce hm n).fn f args h _ he p w args' hr hg hargs).mono ?_;rintro e w' ⟨v1,h1,v',p',hmem,rfl,k1,k2⟩;cases List.mem_singleton.1 hmem;exact⟨v',p',rfl,k1,k2⟩
theorem Mn{p:Pl}{h:H}{w w':World}(hr:R p h w)(hb:Go.RowKit.Below w.heap.size w w'):Ext p h w p h w':=by
 obtain⟨h1,h2,h3,h4,h5⟩:=hb;refine⟨⟨[],by simp⟩,⟨hr.len,fun b o hb=>?_,hr.inj⟩,h4,fun r hlt _=>h5 r hlt,fun r hi=>.inl hi,h1,h3,h2,fun r hlt hl=>⟨h5 r hlt,.inl hl⟩⟩;obtain⟨r,m,y,g1,g2,g3⟩:=hr.obj b o hb;exact⟨r,m,y,g1,by rw[h5 r (Array.getElem?_eq_some_iff.1 g2).1];exact g2,g3⟩
end
end Go.Det
