import Derived.Test.YtknhdhchejmpgaaGreatDoorX03
import Derived.Below
/- A part of a proof (no law is stated here). Made by program out of texts by AI agents. -/
open Nat renaming beq → zc, add → ze, blt → zg, ble → zj, mul → zk
open Int renaming toNat → zd
open BitVec renaming ofInt → zf
open Go.Op renaming bytesLess → zh
open List renaming replicate → zi
section
namespace Go.Det
noncomputable section
def NZ(P:Program):Nat→Nat→Bool
 |0,_=>true
 |n+1,a=>(match Pb P (fun _=>true) a with|some i=>Dh i.body|none=>true)&&NZ P n (a+1)
variable {P:Program}
theorem PG{ct:FuncId→Bool}{f:FuncId}{i:Fn}(hi:Pb P ct f=some i):Pb P (fun _=>true) f=some { i with cert:=true }∧i.cert=ct f:=by
 unfold Pb at hi ⊢;cases hf:P.funcs[f]? with
 |none=>rw[hf]at hi;cases hi
 |some fn=>
  rw[hf]at hi;simp only at hi ⊢;cases hb:fn.body with
  |none=>rw[hb]at hi;cases hi
  |some b=>
   rw[hb]at hi;simp only at hi ⊢;split at hi
   ·cases hi
   ·rename_i hn;rw[if_neg hn];cases hi;exact⟨rfl,rfl⟩
theorem HR{f:Nat}{i:Fn}{ct:FuncId→Bool}(hi:Pb P ct f=some i):∀ {n a:Nat},NZ P n a=true→a≤f→f<a+n→Dh i.body=true
 |0,a,_,h1,h2=>by omega
 |n+1,a,h,h1,h2=>by
  simp only[NZ,Bool.and_eq_true]at h;by_cases e:a=f
  ·subst e;rw[(PG hi).1]at h;exact h.1
  ·exact HR hi h.2 (by omega) (by omega)
def vT(P:Program)(N:Nat)(L:List (FuncId×PK)):Ctx:=⟨nG P,0,Pb P (fun f=>zg f N),RC L,fun _=>none,true⟩
theorem Xx{N:Nat}{L:List (FuncId×PK)}(h:∀f i,f<N→Pb P (fun f=>zg f N) f=some i→Dh i.body=true):FC (vT P N L):=by
 intro f i hi hc;have hi:Pb P (fun f=>zg f N) f=some i:=hi;rw[(PG hi).2]at hc;exact h f i (Nat.le_of_ble_eq_true hc) hi
theorem pD{N:Nat}{L:List (FuncId×PK)}(hL:∀x∈L,HG P x):(vT P N L).Ok P where
 T:=qB P
 fn:=fun _ _ h=>iO (P:=P) (ct:=fun f=>zg f N) h
 prim:=fun f q hq p h w args args' v h' hr _ ha hd=>W5 hL f q hq p h w args args' v h' hr ha hd
 spec:=fun f q hq=>by cases hq
end
end Go.Det
end
section
namespace Go.Pe
open Go.Det
inductive Sh where
 |int (k:IntKind)
 |bool
 |str
 |list (s:Sh)
 |pair (a b:Sh)
 |unit
 |nlist (s:Sh)
 |fnv
 deriving DecidableEq
@[reducible] def Sh.T:Sh→Type
 | .int _=>Int
 | .bool=>Bool
 | .str=>List UInt8
 | .list s=>List s.T
 | .pair a b=>a.T×b.T
 | .unit=>Unit
 | .nlist s=>List s.T
 | .fnv=>Option Fn
noncomputable section
def Sh.GV:(s:Sh)→s.T
 | .int _=>(0:Int)
 | .bool=>false
 | .str=>([]:List UInt8)
 | .list _=>[]
 | .pair a b=>(a.GV,b.GV)
 | .unit=>()
 | .nlist _=>[]
 | .fnv=>none
def Sh.sz:Sh→Nat
 | .pair a b=>ze a.sz b.sz
 | .unit=>0
 |_=>1
inductive PV where
 |any
 |bl (b:Bool)
 |ub
 |dat (s:Sh) (x:s.T)
 |nil|nilp|nilm|nilf|nili
 |agg (l:List PV)
 |tup (l:List PV)
 |ptr (id off:Nat)
 |eptr (id sz i off:Nat)
 |Fc (s:Sh) (x:s.T) (off:Nat)
 |sl (id sz off len:Nat) (cap:Option Nat)
 |mp (id:Nat)
 |fn (f:Fn) (first captured:List PV)
 |yl (id:Nat)
inductive wS where
 |ready|busy|ret
 |exit (i:Nat)
inductive Obj where
 |arr (fz:Bool) (e:TypeId) (s:Sh) (l:List s.T)
 |box (cs:List PV)
 |tbox (t:TypeId) (cs:List PV)
 |map (ks vs:Sh) (l:List (ks.T×vs.T))
 |siter (s:List UInt8) (pos:Nat)
 |lp (f:FuncId) (r:Nat) (ps:Array Tmp) (asg body:Code) (s:wS) (n:Nat) (sl:List (Nat×PV))
abbrev Ob:=List (Nat×Obj)
def AP:Ob→Nat→Option Obj
 |[],_=>none
 |(i,o)::l,j=>bif zc i j then some o else AP l j
def Dl:Ob→Nat→Obj→Ob
 |[],_,_=>[]
 |(i,o)::l,j,x=>bif zc i j then(i,x)::l else(i,o)::Dl l j x
def FE:Ob→Nat→Ob
 |[],_=>[]
 |(i,o)::l,j=>bif zc i j then FE l j else(i,o)::FE l j
structure AK where
 n:Nat
 fr:PM PV
 ob:Ob
 nx:Nat
def AK.get(st:AK)(t:Nat):PV:=(st.fr.get t).getD .any
def AK.obj(st:AK)(id:Nat):Option Obj:=AP st.ob id
def AK.set(st:AK)(t:Nat)(v:PV):AK:=⟨st.n,st.fr.set t (some v),st.ob,st.nx⟩
def AK.setObj(st:AK)(id:Nat)(o:Obj):AK:=⟨st.n,st.fr,Dl st.ob id o,st.nx⟩
def AK.Nq(st:AK)(id:Nat):AK:=⟨st.n,st.fr,FE st.ob id,st.nx⟩
def AK.push(st:AK)(o:Obj):AK:=⟨st.n,st.fr,(st.nx,o)::st.ob,ze st.nx 1⟩
def AK.put(st:AK)(d:Option Nat)(v:PV):Option AK:=
 match d with
 |none=>some st
 |some t=>bif zg t st.n then some (st.set t v)else none
def EX(vs:List (Nat×PV)):PM PV:=vs.foldl (fun m x=>m.set x.1 (some x.2)) .leaf
def flat:(s:Sh)→s.T→List PV
 | .pair a b,(x,y)=>flat a x++flat b y
 | .unit,_=>[]
 | .fnv,x=>[match (x:Option Fn)with|some f=>.fn f [] []|none=>.nilf]
 |s,x=>[.dat s x]
def DG(s s':Sh)(x:s.T):Option s'.T:=if h:s=s' then some (h▸x)else none
def kC(s:Sh)(v:PV):Option s.T:=
 match v with
 | .dat s' x=>DG s' s x
 | .bl b=>DG .bool s b
 | .fn f [] []=>DG .fnv s (some f)
 | .nilf=>DG .fnv s none
 | .nil=>match s with
  | .list _=>some []
  | .nlist _=>some []
  |_=>none
 |_=>none
def Co:(s:Sh)→List PV→Option (s.T×List PV)
 | .pair a b,l=>match Co a l with
  |some (x,l1)=>match Co b l1 with
   |some (y,l2)=>some ((x,y),l2)
   |none=>none
  |none=>none
 | .unit,l=>some ((),l)
 |s,v::l=>match kC s v with
  |some x=>some (x,l)
  |none=>none
 |_,[]=>none
def CQ(s:Sh)(l:List PV):Option s.T:=
 match Co s l with
 |some (x,[])=>some x
 |_=>none
def PV.cells:PV→List PV
 | .agg cs=>cs
 |v=>[v]
def VW(ty:TypeId→Option Sh):List Field→Option Sh
 |[]=>none
 |[x]=>ty x.type
 |x::xs=>match ty x.type,VW ty xs with
  |some a,some b=>some (.pair a b)
  |_,_=>none
def xT:Option Sh→Option Sh
 |some (.list (.int .u64))=>some (.nlist (.int .u64))
 |s=>s
def lz:PV→PV
 | .dat (.nlist s) x=>.dat (.list s) x
 |v=>v
def Sh.leaves:Sh→List Sh
 | .pair a b=>a.leaves++b.leaves
 | .unit=>[]
 |s=>[s]
def Tf:Sh→PV→Bool×PV
 | .nlist s,.dat (.list s') x=>bif s==s' then(decide (0<x.length),.dat (.nlist s') x)else(true,.dat (.list s') x)
 | .list s,.dat (.nlist s') x=>bif s==s' then(true,.dat (.list s') x)else(true,.dat (.nlist s') x)
 |_,v=>(true,v)
def J1:List Sh→List PV→Bool×List PV
 |s::l,v::vs=>((Tf s v).1&&(J1 l vs).1,(Tf s v).2::(J1 l vs).2)
 |_,vs=>(true,vs)
def UB(T:BS):Nat→TypeId→Option Sh
 |0,_=>none
 |f+1,t=>match T.und t with
  |some (.int k)=>some (.int k)
  |some .bool=>some .bool
  |some .string=>some .str
  |some (.slice e)=>(UB T f e).map .list
  |some (.func _ _ _)=>some .fnv
  |some (.struct fs)=>VW (fun x=>xT (UB T f x)) fs.toList
  |_=>none
def Sh.kT:Sh→Bool
 | .pair a b=>a.kT||b.kT
 | .fnv=>true
 |_=>false
def B4:(s:Sh)→s.T→PV
 | .pair a b,x=>.agg (flat (.pair a b) x)
 | .unit,_=>.agg []
 | .fnv,x=>match (x:Option Fn)with|some f=>.fn f [] []|none=>.nilf
 |s,x=>.dat s x
def Sh.O9:Sh→Bool
 | .pair _ _| .unit=>true
 |_=>false
def nA:(s:Sh)→s.T→s.T→Bool
 | .int _,a,b=>(a:Int)==b
 | .bool,a,b=>(a:Bool)==b
 | .str,a,b=>(a:List UInt8)==b
 |_,_,_=>false
def Ke(s v:Sh)(k:s.T):List (s.T×v.T)→Option v.T
 |[]=>none
 |(a,b)::l=>bif nA s k a then some b else Ke s v k l
def Qw(s v:Sh)(k:s.T)(x:v.T):List (s.T×v.T)→List (s.T×v.T)
 |[]=>[(k,x)]
 |(a,b)::l=>bif nA s k a then(k,x)::l else(a,b)::Qw s v k x l
def Rx(s v:Sh)(k:s.T):List (s.T×v.T)→List (s.T×v.T)
 |[]=>[]
 |(a,b)::l=>bif nA s k a then l else(a,b)::Rx s v k l
inductive Tr where
 |fail
 |leaf (v:PV) (ob:Ob)
 |ite (c:Bool) (a b:Tr)
 |both (a b:Tr)
 |cut (nd ro:Bool) (d:Nat) (f:FuncId) (base:Nat) (b:Code) (st:AK) (k:DX→AK→Tr)
 |alts (m:Nat) (f:Nat→Tr)
 |loop (nd ro:Bool) (d:Nat) (f:FuncId) (base:Nat) (b:Code) (st:AK) (k:DX→AK→Tr)
inductive PO where
 |bad
 |val (v:PV) (st:AK)
 |ite (c:Bool) (a b:PO)
def PO.Hw(c:Bool)(v:PV)(st:AK):PO:=.ite c (.val v st) .bad
end
noncomputable section
mutual
def Mr:Value→Option PV
 | .bool b=>some (.bl b)
 | .int k n=>some (.dat (.int k) n)
 | .string s=>some (.dat .str s.data.toList)
 | .pointer none=>some .nilp
 | .slice none 0 0=>some .nil
 | .map none=>some .nilm
 | .nilFunc=>some .nilf
 | .nilIface=>some .nili
 | .func f ⟨[]⟩ ⟨[]⟩=>some (.fn f [] [])
 | .agg ⟨cs⟩=>(XT cs).map .agg
 | .tuple ⟨cs⟩=>(XT cs).map .tup
 |_=>none
def XT:List Value→Option (List PV)
 |[]=>some []
 |v::vs=>match Mr v,XT vs with
  |some x,some xs=>some (x::xs)
  |_,_=>none
end
def U7:V→PV
 | .bool b=>.bl b
 | .int k n=>.dat (.int k) n
 | .str s=>.dat .str s
 | .nilp=>.nilp
 | .nils=>.nil
 | .nilm=>.nilm
 | .nilf=>.nilf
 | .nili=>.nili
 |_=>.any
def Pk(st:AK):Operand→Option PV
 | .tmp t=>some (st.get t)
 | .const v=>Mr v
 | .global _=>none
 | .func f=>some (.fn (.func f) [] [])
def K9(st:AK):List Operand→Option (List PV)
 |[]=>some []
 |x::xs=>match Pk st x,K9 st xs with
  |some v,some vs=>some (v::vs)
  |_,_=>none
def XN(st:AK):List (Nat×Operand)→Option (List (Nat×PV))
 |[]=>some []
 |(i,x)::xs=>match Pk st x,XN st xs with
  |some v,some vs=>some ((i,v)::vs)
  |_,_=>none
def ZF(T:BS)(t:TypeId):Option (List PV):=(T.inf t).bind fun i=>bif JZ V.ok i.zero then some (i.zero.map U7)else none
def pick(d:TypeDesc)(n:Nat)(cs:List PV):Option PV:=
 bif Dz d then(bif zj n (Dr cs)&&zg 0 n then some (.agg (Sv n cs))else none)
 else match cs with
  |v::_=>some v
  |[]=>none
def ov(st:AK):Option PV→PO
 |some v=>.val v st
 |none=>.bad
def rQ(c:Bool)(st:AK):Option PV→PO
 |some v=>.Hw c v st
 |none=>.bad
def chunk(s:Sh):Nat→List PV→Option (List s.T)
 |0,_=>some []
 |n+1,cs=>match Co s cs with
  |some (x,cs')=>(chunk s n cs').map (x:: ·)
  |none=>none
def N8(s:Sh)(l:List s.T):Nat→Nat→List PV
 |_,0=>[]
 |j,n+1=>flat s (l.getD j s.GV)++N8 s l (ze j 1) n
def xE:List V→Option Sh
 | .bool _::_=>some .bool
 | .int k _::_=>some (.int k)
 |_=>none
def rY:Sh→V→Bool
 | .bool,.bool b=> !b
 | .int k,.int k' n=>decide (k=k')&&decide (n=0)
 |_,_=>false
def nN(T:BS)(t:TypeId):Option (Sh×Nat):=
 match T.und t,T.inf t with
 |some (.array _ _),some i=>match xE i.zero with
  |some s=>bif zj 32 (Dr i.zero)&&JZ (rY s) i.zero then some (s,Dr i.zero)else none
  |none=>none
 |_,_=>none
def LR(T:BS)(st:AK)(t:TypeId)(a:PV):PO:=
 match T.und t,T.inf t with
 |some d,some i=>match a with
  | .ptr id off=>match st.obj id with
   |some (.box cs)=>ov st (pick d i.size (H6 off cs))
   |some (.arr _ _ s l)=>bif zc off 0&&zc s.sz 1 then rQ (decide (l.length=i.size)) st (pick d i.size (N8 s l 0 i.size))else .bad
   |some (.tbox _ cs)=>ov st (pick d i.size (H6 off cs))
   |_=>.bad
  | .eptr id sz j off=>match st.obj id with
   |some (.arr _ _ s l)=>bif zc sz s.sz then rQ (decide (j<l.length)) st (pick d i.size (H6 off (flat s (l.getD j s.GV))))else .bad
   |_=>.bad
  | .Fc s x off=>ov st (pick d i.size (H6 off (flat s x)))
  |_=>.bad
 |_,_=>.bad
def Hv:Option Obj→Bool
 |some _=>true
 |none=>false
def Ji(st:AK):PV→Bool
 | .agg _| .tup _| .any| .ub=>false
 | .ptr id _| .eptr id _ _ _| .sl id _ _ _ _| .mp id| .yl id=>Hv (st.obj id)
 |_=>true
def rX(st:AK):PV→Option (List PV)
 | .agg l=>some l
 |p=>bif Ji st p then some [p]else none
def UF(T:BS)(st:AK)(t:TypeId)(a x:PV):PO:=
 match T.inf t,rX st x with
 |some i,some xs=>bif zc (Dr xs) i.size&&JZ (Ji st) xs then
   match a with
   | .ptr id off=>match st.obj id with
    |some (.box cs)=>bif zj (ze off i.size) (Dr cs)then .val (.tup []) (st.setObj id (.box (Ci off xs cs)))else .bad
    |some (.arr false e s l)=>bif zc off 0&&zc s.sz 1 then
      match chunk s i.size xs with
      |some y=>.Hw (decide (l.length=i.size)) (.tup []) (st.setObj id (.arr false e s y))
      |none=>.bad
     else .bad
    |some (.tbox tb cs)=>bif zj (ze off i.size) (Dr cs)then .val (.tup []) (st.setObj id (.tbox tb (Ci off xs cs)))else .bad
    |_=>.bad
   | .eptr id sz j off=>match st.obj id with
    |some (.arr false e s l)=>bif zc sz s.sz&&zj (ze off i.size) sz then
      match CQ s (Ci off xs (flat s (l.getD j s.GV)))with
      |some y=>.Hw (decide (j<l.length)) (.tup []) (st.setObj id (.arr false e s (l.set j y)))
      |none=>.bad
     else .bad
    |_=>.bad
   |_=>.bad
  else .bad
 |_,_=>.bad
def GI(k:IntKind)(a b:Int):Int:=k.wrap (zf k.bits a&&&zf k.bits b).toNat
def Xk(k:IntKind)(a b:Int):Int:=k.wrap (zf k.bits a|||zf k.bits b).toNat
def wA(k:IntKind)(a b:Int):Int:=k.wrap (zf k.bits a^^^zf k.bits b).toNat
def sB(k:IntKind)(a b:Int):Int:=k.wrap (zf k.bits a&&& ~~~zf k.bits b).toNat
def oD(op:BinOp)(k:IntKind)(a b:Int)(st:AK):PO:=
 match op with
 | .add=>.val (.dat (.int k) (k.wrap (a+b))) st
 | .sub=>.val (.dat (.int k) (k.wrap (a-b))) st
 | .mul=>.val (.dat (.int k) (k.wrap (a*b))) st
 | .quo=>.Hw (decide (b≠0)) (.dat (.int k) (k.wrap (a.tdiv b))) st
 | .rem=>.Hw (decide (b≠0)) (.dat (.int k) (a.tmod b)) st
 | .and=>.val (.dat (.int k) (GI k a b)) st
 | .or=>.val (.dat (.int k) (Xk k a b)) st
 | .xor=>.val (.dat (.int k) (wA k a b)) st
 | .andNot=>.val (.dat (.int k) (sB k a b)) st
 | .eql=>.val (.dat .bool (a==b)) st
 | .neq=>.val (.dat .bool (a !=b)) st
 | .lss=>.val (.dat .bool (decide (a<b))) st
 | .leq=>.val (.dat .bool (decide (a≤b))) st
 | .gtr=>.val (.dat .bool (decide (a>b))) st
 | .geq=>.val (.dat .bool (decide (a≥b))) st
 |_=>.bad
def vJ(op:BinOp)(k:IntKind)(a b:Int)(st:AK):PO:=
 match op with
 | .shl=>.Hw (decide (0≤b)) (.dat (.int k) (k.wrap (a*2^(min b.toNat k.bits)))) st
 | .shr=>.Hw (decide (0≤b)) (.dat (.int k) (a.fdiv (2^(min b.toNat k.bits)))) st
 |_=>.bad
def oQ(op:BinOp)(x y:List UInt8)(st:AK):PO:=
 match op with
 | .add=>.Hw (decide (x.length+y.length≤4611686018427387904)) (.dat .str (x++y)) st
 | .eql=>.val (.dat .bool (x==y)) st
 | .neq=>.val (.dat .bool (!(x==y))) st
 | .lss=>.val (.dat .bool (zh x y)) st
 | .leq=>.val (.dat .bool (zh x y||x==y)) st
 | .gtr=>.val (.dat .bool (!(zh x y||x==y))) st
 | .geq=>.val (.dat .bool (!zh x y)) st
 |_=>.bad
def gV:BinOp→Bool
 | .shl| .shr=>true
 |_=>false
def ID:PV→Option Bool
 | .bl b=>some b
 | .dat .bool b=>some b
 |_=>none
def Gm:List FK→List PV→List PV→Option Bool
 |[],[],[]=>some true
 | .int k::ks,.dat (.int k1) a::xs,.dat (.int k2) b::ys=>bif k==k1&&k==k2 then(Gm ks xs ys).map fun r=>(a:Int)==(b:Int)&&r else none
 | .str::ks,.dat .str a::xs,.dat .str b::ys=>(Gm ks xs ys).map fun r=>(a:List UInt8)==(b:List UInt8)&&r
 | .bool::ks,a::xs,b::ys=>match ID a,ID b with
  |some a,some b=>(Gm ks xs ys).map fun r=>a==b&&r
  |_,_=>none
 |_,_,_=>none
def QT(st:AK)(ng:Bool)(x:PV):PO:=
 match x with
 | .nil=>.val (.bl (!ng)) st
 | .sl id _ _ _ _=>bif Hv (st.obj id)then .val (.bl ng) st else .bad
 | .dat (.list _) l=>.ite (decide (0<l.length)) (.val (.bl ng) st) (.val .ub st)
 | .dat (.nlist _) l=>.val (.dat .bool (bif ng then decide (0<l.length)else !decide (0<l.length))) st
 |_=>.bad
def cD(op:BinOp)(x y:PV)(st:AK):PO:=
 match op,x,y with
 | .eql,x,.nil=>QT st false x
 | .neq,x,.nil=>QT st true x
 |_,_,_=>.bad
def ptrEq(T:BS)(e:TypeId)(st:AK)(x y:PV):Option Bool:=
 match x,y with
 | .nilp,.nilp=>some true
 | .ptr id _,.nilp=>bif Hv (st.obj id)then some false else none
 | .nilp,.ptr id _=>bif Hv (st.obj id)then some false else none
 | .ptr a i,.ptr b j=>bif zc a b&&Hv (st.obj a)then match T.inf e with
   |some ti=>bif zg 0 ti.size then some (zc i j)else none
   |none=>none
  else none
 |_,_=>none
def oM(T:BS)(op:BinOp)(t:TypeId)(x y:PV)(st:AK):PO:=
 match x,y with
 | .dat (.int k) a,.dat (.int k') b=>bif gV op then vJ op k a b st else(bif k==k' then oD op k a b st else .bad)
 | .dat .str a,.dat .str b=>oQ op a b st
 | .agg xs,.agg ys=>match T.flat t with
  |some ks=>match op,Gm ks xs ys with
   | .eql,some r=>.val (.dat .bool r) st
   | .neq,some r=>.val (.dat .bool (!r)) st
   |_,_=>.bad
  |none=>.bad
 |x,y=>match ID x,ID y,T.und t with
  |some a,some b,some .bool=>match op with
   | .eql=>.val (.dat .bool (a==b)) st
   | .neq=>.val (.dat .bool (!(a==b))) st
   |_=>.bad
  |_,_,some (.slice _)=>cD op x y st
  |_,_,some (.pointer e)=>match op,ptrEq T e st x y with
   | .eql,some r=>.val (.bl r) st
   | .neq,some r=>.val (.bl (!r)) st
   |_,_=>.bad
  |_,_,_=>.bad
def vL(op:UnOp)(x:PV)(st:AK):PO:=
 match op,x with
 | .neg,.dat (.int k) n=>.val (.dat (.int k) (k.wrap (0-(n:Int)))) st
 | .not,.bl b=>.val (.bl (!b)) st
 | .not,.ub=>.val .ub st
 | .not,.dat .bool b=>.val (.dat .bool (!b)) st
 |_,_=>.bad
def aA(T:BS)(s d:TypeId)(x:PV)(st:AK):PO:=
 match T.und s,T.und d,x with
 |some _,some (.int k),.dat (.int _) n=>.val (.dat (.int k) (k.wrap n)) st
 |some .string,some .string,.dat .str s=>.val (.dat .str s) st
 |_,_,_=>.bad
def cG(c a b:PV)(st:AK):PO:=
 match c with
 | .bl t=>.val (bif t then a else b) st
 | .dat .bool t=>match a,b with
  | .dat .bool x,.bl false=>.val (.dat .bool (t&&x)) st
  | .bl true,.dat .bool x=>.val (.dat .bool (t||x)) st
  |_,_=>.ite t (.val a st) (.val b st)
 |_=>.bad
def UN(T:BS)(t:TypeId)(x:PV)(f:Nat)(st:AK):PO:=
 match T.und t,x with
 |some (.struct fs),.agg cs=>match fs[f]? with
  |some fd=>match T.und fd.type,T.inf fd.type with
   |some d,some i=>ov st (pick d i.size (H6 fd.offset cs))
   |_,_=>.bad
  |none=>.bad
 |_,_=>.bad
def Ul(T:BS)(t:TypeId)(x:PV)(f:Nat)(st:AK):PO:=
 match T.und t with
 |some (.struct fs)=>match fs[f]? with
  |some fd=>match T.inf fd.type with
   |some i=>bif zc i.size 0 then .bad else match x with
    | .ptr id off=>bif Hv (st.obj id)then .val (.ptr id (ze off fd.offset)) st else .bad
    | .eptr id sz j off=>bif Hv (st.obj id)then .val (.eptr id sz j (ze off fd.offset)) st else .bad
    | .Fc s y off=>.val (.Fc s y (ze off fd.offset)) st
    |_=>.bad
   |none=>.bad
  |none=>.bad
 |_=>.bad
def Q8(T:BS)(t:TypeId)(x ix:PV)(st:AK):PO:=
 match T.und t,ix with
 |some (.slice e),.dat (.int _) i=>match T.inf e with
  |some ti=>match x with
   | .dat (.list s) l=>bif zc ti.size s.sz then .Hw (decide (0≤(i:Int))&&decide ((i:Int)<(l.length:Int))) (.Fc s (l.getD (zd i) s.GV) 0) st else .bad
   | .sl id sz off len _=>bif zc ti.size sz&&Hv (st.obj id)then .Hw (decide (0≤(i:Int))&&decide ((i:Int)<(len:Int))) (.eptr id sz (ze (zd i) off) 0) st else .bad
   |_=>.bad
  |none=>.bad
 |some (.array len e),.dat (.int _) i=>match T.inf e with
  |some ti=>match x with
   | .ptr id off=>match st.obj id with
    |some (.arr _ _ s _)=>bif zc off 0&&zc ti.size s.sz then .Hw (decide (0≤(i:Int))&&decide ((i:Int)<(len:Int))) (.eptr id s.sz (zd i) 0) st else .bad
    |some _=>.Hw (decide (0≤(i:Int))&&decide ((i:Int)<(len:Int))) (.ptr id (ze off (zk (zd i) ti.size))) st
    |none=>.bad
   | .eptr id sz j off=>bif Hv (st.obj id)then .Hw (decide (0≤(i:Int))&&decide ((i:Int)<(len:Int))) (.eptr id sz j (ze off (zk (zd i) ti.size))) st else .bad
   | .Fc s y off=>.Hw (decide (0≤(i:Int))&&decide ((i:Int)<(len:Int))) (.Fc s y (ze off (zk (zd i) ti.size))) st
   |_=>.bad
  |none=>.bad
 |_,_=>.bad
def Z9(T:BS)(t:TypeId)(x ix:PV)(st:AK):PO:=Q8 T t (lz x) ix st
def Up(T:BS)(t:TypeId)(x ix:PV)(st:AK):PO:=
 match T.und t,x,ix with
 |some .string,.dat .str s,.dat (.int _) i=>.Hw (decide (0≤(i:Int))&&decide ((i:Int)<((s:List UInt8).length:Int))) (.dat (.int .u8) (((s:List UInt8).getD (zd i) 0).toNat:Int)) st
 |some (.array len e),.agg cs,.dat (.int _) i=>match T.und e,T.inf e with
  |some d,some ti=>rQ (decide (0≤(i:Int))&&decide ((i:Int)<(len:Int))) st (pick d ti.size (H6 (zk (zd i) ti.size) cs))
  |_,_=>.bad
 |_,_,_=>.bad
def NC(x:PV)(i:Nat)(st:AK):PO:=
 match x with
 | .tup vs=>match vs[i]? with
  |some v=>.val v st
  |none=>.bad
 |_=>.bad
def pb(x:Option PV)(GV:Nat):Option (Bool×Nat):=
 match x with
 |none=>some (true,GV)
 |some (.dat (.int _) n)=>some (decide (0≤(n:Int)),zd n)
 |_=>none
def has(mx:Option PV)(c:Nat):Bool:=match mx with
 |none=>true
 |some _=>decide (0<c)
def QF(T:BS)(t:TypeId)(x:PV)(lo hi mx:Option PV)(st:AK):PO:=
 match T.und t with
 |some .string=>match x,mx with
  | .dat .str s,none=>match pb lo 0,pb hi (s:List UInt8).length with
   |some (c1,l),some (c2,h)=>.Hw (c1&&c2&&decide (l≤h)&&decide (h≤(s:List UInt8).length)) (.dat .str (((s:List UInt8).drop l).take (Nat.sub h l))) st
   |_,_=>.bad
  |_,_=>.bad
 |some (.slice e)=>match T.inf e with
  |some ti=>match x with
   | .dat (.list s) xs=>bif zc ti.size s.sz then
     match pb lo 0,pb hi xs.length,mx with
     |some (c1,l),some (c2,h),none=>.Hw (c1&&c2&&decide (l≤h)&&decide (h≤xs.length)) (.dat (.list s) ((xs.drop l).take (Nat.sub h l))) st
     |_,_,_=>.bad
    else .bad
   | .sl id sz off len cap=>bif zc ti.size sz&&Hv (st.obj id)then
     match hi,mx with
     |none,some _=>.bad
     |_,_=>match pb lo 0,pb hi len,pb mx (cap.getD len)with
      |some (c1,l),some (c2,h),some (c3,m)=>.Hw (c1&&c2&&c3&&decide (l≤h)&&decide (h≤m)&&decide (m≤cap.getD len)&&has mx (cap.getD len)) (.sl id sz (ze off l) (Nat.sub h l) (some (Nat.sub m l))) st
      |_,_,_=>.bad
    else .bad
   | .nil=>match pb lo 0,pb hi 0,mx with
    |some (c1,l),some (c2,h),none=>.Hw (c1&&c2&&decide (l≤h)&&decide (h≤0)) .nil st
    |some (c1,l),some (c2,h),some q=>match hi,pb (some q) 0 with
     |some _,some (c3,m)=>.Hw (c1&&c2&&c3&&decide (l≤h)&&decide (h≤m)&&decide (m≤0)) .nil st
     |_,_=>.bad
    |_,_,_=>.bad
   |_=>.bad
  |none=>.bad
 |_=>.bad
def YX(T:BS)(t:TypeId)(x:PV)(lo hi mx:Option PV)(st:AK):PO:=QF T t (lz x) lo hi mx st
def pi64(n:Nat):PV:=.dat (.int .i64) (Int.ofNat n)
def TG(T:BS)(ts:Array TypeId)(args:List PV)(st:AK):PO:=
 match ts[0]?,args with
 |some t,[x]=>match T.und t,x with
  |some .string,.dat .str s=>.val (pi64 (s:List UInt8).length) st
  |some (.slice _),.dat (.list _) l=>.val (pi64 l.length) st
  |some (.slice _),.sl id _ _ len _=>bif Hv (st.obj id)then .val (pi64 len) st else .bad
  |some (.slice _),.nil=>.val (pi64 0) st
  |some (.map _ _),.mp id=>match st.obj id with
   |some (.map _ _ l)=>.val (pi64 l.length) st
   |_=>.bad
  |_,_=>.bad
 |_,_=>.bad
def jM(T:BS)(ts:Array TypeId)(args:List PV)(st:AK):PO:=TG T ts (args.map lz) st
def uU(f:Int→Int→Int)(k:IntKind):Int→List PV→Option Int
 |x,[]=>some x
 |x,.dat (.int k') y::ys=>bif k==k' then uU f k (f x y) ys else none
 |_,_=>none
def MJ(f:Int→Int→Int)(args:List PV)(st:AK):PO:=
 match args with
 | .dat (.int k) x::ys=>match uU f k x ys with
  |some z=>.val (.dat (.int k) z) st
  |none=>.bad
 |_=>.bad
def imax(x y:Int):Int:=if y>x then y else x
def D9(x y:Int):Int:=if y<x then y else x
def MU(st:AK)(s:Sh)(x:PV):Option (Bool×List s.T):=
 match x with
 | .nil=>some (true,[])
 | .dat (.list s') l=>(DG (.list s') (.list s) l).map fun r=>(true,r)
 | .sl id sz off len _=>match st.obj id with
  |some (.arr _ _ s' l)=>bif zc sz s'.sz then(DG (.list s') (.list s) l).map fun r=>(decide (off+len≤r.length),(r.drop off).take len)else none
  |_=>none
 | .dat .str l=>(DG (.list (.int .u8)) (.list s) (List.map (fun b:UInt8=>(b.toNat:Int)) l)).map fun r=>(true,r)
 |_=>none
def N9(st:AK)(s:Sh)(x:PV):Option (Bool×List s.T):=MU st s (lz x)
def rU:Nat:=281474976710656
def RA:TypeDesc→Bool
 | .slice _=>true
 | .string=>true
 |_=>false
def Q1(T:BS)(ts:Array TypeId)(args:List PV)(st:AK):PO:=
 match ts[0]?,ts[1]?,args with
 |some t,some tx,[b,x]=>match T.und t,T.und tx with
  |some (.slice e),some dx=>bif RA dx then match T.inf e,UB T 9 e with
   |some i,some s=>
    bif zg 0 i.bytes&&zg 0 i.size&&zc i.zero.length i.size&&zc i.size s.sz then
     match N9 st s x with
     |some (c,new)=>match b with
      | .nil=>match x with
       | .nil=>.val .nil st
       | .dat _ _=>.ite (decide (0<new.length)) (.Hw (c&&decide ((2*new.length+1000)*i.bytes≤rU)) (.sl st.nx s.sz 0 new.length none) (st.push (.arr false e s new))) (.val .nil st)
       | .sl _ _ _ _ (some _)=>.ite (decide (0<new.length)) (.Hw (c&&decide ((2*new.length+1000)*i.bytes≤rU)) (.sl st.nx s.sz 0 new.length none) (st.push (.arr false e s new))) (.Hw c .nil st)
       |_=>.Hw (c&&decide (0<new.length)&&decide ((2*new.length+1000)*i.bytes≤rU)) (.sl st.nx s.sz 0 new.length none) (st.push (.arr false e s new))
      | .sl id sz off len cap=>match st.obj id with
       |some (.arr false e' s' l)=>match DG (.list s') (.list s) l with
        |some l'=>bif zc e e'&&zc sz s.sz then
          match cap with
          |none=>.Hw (c&&decide (off=0)&&decide (len=l'.length)&&decide ((2*(len+new.length)+1000)*i.bytes≤rU)) (.sl st.nx s.sz 0 (ze len new.length) none) ((st.Nq id).push (.arr false e s (l'++new)))
          |some k=>.Hw (c&&decide (len+new.length≤k)&&decide (off+k≤l'.length)) (.sl id sz off (ze len new.length) (some k)) (st.setObj id (.arr false e s (l'.take (off+len)++(new++l'.drop (off+len+new.length)))))
         else .bad
        |none=>.bad
       |_=>.bad
      |_=>.bad
     |none=>.bad
    else .bad
   |_,_=>.bad
   else .bad
  |_,_=>.bad
 |_,_,_=>.bad
def Uy(T:BS)(ts:Array TypeId)(args:List PV)(st:AK):PO:=
 match ts[0]?,args with
 |some t,[x]=>match T.und t with
  |some (.slice e)=>match x with
   | .nil=>.val (.tup []) st
   | .sl id sz off len _=>match T.inf e,st.obj id with
    |some i,some (.arr false e' s l)=>
     bif zc sz s.sz&&zg 0 i.zero.length&&zc i.zero.length s.sz&&JZ V.one i.zero then
      match CQ s (i.zero.map U7)with
      |some z=>.Hw (decide (off+len≤l.length)) (.tup []) (st.setObj id (.arr false e' s (l.take off++(zi len z++l.drop (off+len)))))
      |none=>.bad
     else .bad
    |_,_=>.bad
   |_=>.bad
  |_=>.bad
 |_,_=>.bad
def Vl(args:List PV)(st:AK):PO:=
 match args with
 |[.sl id sz off len none]=>bif Hv (st.obj id)then .Hw (decide (0<len)) (.eptr id sz off 0) st else .bad
 |_=>.bad
def Vi(l:List Int):List UInt8:=l.map fun x=>UInt8.ofNat x.toNat
def PF(l:List Int):Bool:=l.all fun x=>decide (0≤x)&&decide (x<256)
def ZW(T:BS)(ts:List TypeId)(args:List PV)(st:AK):PO:=
 match ts,args with
 |[pt,_],[.eptr id _ i 0,.dat (.int .i64) n]=>match T.und pt,st.obj id with
  |some (.pointer e),some (.arr false e' s l)=>match T.inf e,DG (.list s) (.list (.int .u8)) l with
   |some ti,some bs=>bif zc ti.size 1&&zc e e' then
     .Hw (decide (i=0)&&decide (0<(n:Int))&&decide (zd n≤(bs:List Int).length)&&decide (zd n≤9223372036854775807)&&PF bs) (.dat .str (Vi ((bs:List Int).take (zd n)))) (st.Nq id)
    else .bad
   |_,_=>.bad
  |_,_=>.bad
 |_,_=>.bad
def HZ(T:BS)(b:Builtin)(ts:Array TypeId)(args:List PV)(st:AK):PO:=
 match b with
 | .len=>jM T ts args st
 | .append=>Q1 T ts args st
 | .max=>MJ imax args st
 | .min=>MJ D9 args st
 | .clear=>Uy T ts args st
 | .unsafeSliceData=>Vl args st
 | .unsafeString=>ZW T ts.toList args st
 |_=>.bad
def rune(s:List UInt8)(pos:Nat):Int:=(Utf8.decode (bytesOf s) pos).1
def mE(s:List UInt8)(pos:Nat):Nat:=(Utf8.decode (bytesOf s) pos).2
def Uc(T:BS)(t:TypeId)(x:PV)(st:AK):PO:=
 match T.und t,x with
 |some .string,.dat .str s=>.val (.ptr st.nx 0) (st.push (.siter s 0))
 |_,_=>.bad
def ZH(x:PV)(isStr:Bool)(st:AK):PO:=
 match x,isStr with
 | .ptr id 0,true=>match st.obj id with
  |some (.siter s pos)=>.ite (decide (pos<s.length)) (.val (.tup [.bl true,.dat (.int .i64) (Int.ofNat pos),.dat (.int .i32) (rune s pos)]) (st.setObj id (.siter s (ze pos (mE s pos))))) (.val (.tup [.bl false]) st)
  |_=>.bad
 |_,_=>.bad
def P3(st:AK)(place:Nat→Option (Nat×Nat))(cells:List PV):List (Nat×PV)→Option (List PV)
 |[]=>some cells
 |(i,v)::rest=>match place i with
  |none=>none
  |some (off,size)=>match rX st v with
   |some vs=>bif zc (Dr vs) size&&zj (ze off size) (Dr cells)then P3 st place (Ci off vs cells) rest else none
   |none=>none
def UX(T:BS)(st:AK)(t:TypeId)(parts:List (Nat×PV)):Option PV:=
 match T.inf t,T.und t with
 |some i,some (.struct fs)=>
  match fs.toList.mapM (fun f=>(T.inf f.type).map fun j=>(f.offset,j.size))with
  |some pl=>(P3 st (fun i=>pl[i]?) (i.zero.map U7) parts).map .agg
  |none=>none
 |some i,some (.array _ e)=>match T.inf e with
  |some j=>(P3 st (fun i=>some (i*j.size,j.size)) (i.zero.map U7) parts).map .agg
  |none=>none
 |_,_=>none
def Jr(z:List PV):Nat→List PV
 |0=>[]
 |n+1=>z++Jr z n
def Ct(st:AK):PV→Option (Bool×PV)
 | .sl id sz off len _=>match st.obj id with
  |some (.arr _ _ s l)=>bif zc sz s.sz then some (decide (off+len≤l.length),.dat (.list s) ((l.drop off).take len))else none
  |_=>none
 | .dat s x=>some (true,.dat s x)
 | .bl b=>some (true,.bl b)
 | .nil=>some (true,.nil)
 |_=>none
def Ea(st:AK):List PV→Option (Bool×List PV)
 |[]=>some (true,[])
 |v::vs=>match Ct st v,Ea st vs with
  |some (c,x),some (d,xs)=>some (c&&d,x::xs)
  |_,_=>none
def Bw(st:AK):PV→AK
 | .sl id _ _ _ _=>match st.obj id with
  |some (.arr _ e s l)=>st.setObj id (.arr true e s l)
  |_=>st
 |_=>st
def Bl:List PV→AK→AK
 |[],st=>st
 |v::vs,st=>Bl vs (Bw st v)
def QW(T:BS)(t:TypeId)(len:Nat)(parts:List (Nat×PV))(st:AK):PO:=
 match T.und t with
 |some (.slice e)=>match T.inf e,UB T 9 e with
  |some i,some s=>
   bif zj (zk len i.size) 16777216&&zg 0 i.zero.length&&zc i.zero.length i.size&&zc i.size s.sz then
    match P3 st (fun k=>some (k*i.size,i.size)) (Jr (i.zero.map U7) len) parts with
    |some cs=>match chunk s len cs with
     |some l=>.val (.sl st.nx s.sz 0 len none) (st.push (.arr false e s l))
     |none=>match Ea st cs with
      |some (c,cs')=>match chunk s len cs' with
       |some l=>.Hw c (.sl st.nx s.sz 0 len none) ((Bl cs st).push (.arr false e s l))
       |none=>.bad
      |none=>.bad
    |none=>.bad
   else .bad
  |_,_=>.bad
 |_=>.bad
def ZJ(T:BS)(t:TypeId)(l c:PV)(st:AK):PO:=
 match T.und t,l,c with
 |some (.slice e),.dat (.int _) l,.dat (.int _) c=>match T.inf e,UB T 9 e with
  |some i,some s=>
   bif zg 0 i.zero.length&&zc i.zero.length i.size&&zc i.size s.sz then
    match CQ s (i.zero.map U7)with
    |some z=>.Hw (decide (0≤(l:Int))&&decide ((l:Int)=(c:Int))&&decide (i.bytes*zd l≤rU)&&decide ((l:Int)<9223372036854775808)) (.sl st.nx s.sz 0 (zd l) none) (st.push (.arr false e s (zi (zd l) z)))
    |none=>.bad
   else .bad
  |_,_=>.bad
 |_,_,_=>.bad
def kI(T:BS)(t:TypeId):Option Sh:=match T.und t with
 |some (.int k)=>some (.int k)
 |some .string=>some .str
 |some .bool=>some .bool
 |_=>none
def J8:PV→Bool
 | .agg _=>true
 |_=>false
def wB(s:Sh)(p:PV):Option s.T:=bif J8 p==s.O9 then CQ s p.cells else none
def Us(T:BS)(t:TypeId)(st:AK):PO:=match T.und t with
 |some (.map kt e)=>match kI T kt,UB T 9 e with
  |some ks,some vs=>.val (.mp st.nx) (st.push (.map ks vs []))
  |_,_=>.bad
 |_=>.bad
def Zf(st:AK)(ks vs:Sh)(m:PV):Option (List (ks.T×vs.T)):=match m with
 | .nilm=>some []
 | .mp id=>match st.obj id with
  |some (.map ks' vs' l)=>DG (.list (.pair ks' vs')) (.list (.pair ks vs)) l
  |_=>none
 |_=>none
def sZ:V→Bool
 | .agg _=>true
 |_=>false
def tU(ks vs:Sh)(ok:Bool)(z:vs.T)(x:ks.T)(st:AK):List (ks.T×vs.T)→PO
 |[]=>.val (bif ok then .tup [B4 vs z,.bl false]else B4 vs z) st
 |(a,b)::l=>.ite (nA ks x a) (.val (bif ok then .tup [B4 vs b,.bl true]else B4 vs b) st) (tU ks vs ok z x st l)
def RY(T:BS)(t:TypeId)(m k:PV)(ok:Bool)(st:AK):PO:=match T.und t with
 |some (.map kt e)=>match kI T kt,UB T 9 e,T.inf e with
  |some ks,some vs,some i=>match kC ks k,Zf st ks vs m,CQ vs (i.zero.map U7)with
   |some x,some l,some z=>
    bif sZ i.zv==vs.O9 then bif vs.kT then tU ks vs ok z x st l else
     (let v:=B4 vs ((Ke ks vs x l).getD z)
     .val (bif ok then .tup [v,.dat .bool (Ke ks vs x l).isSome]else v) st)
    else .bad
   |_,_,_=>.bad
  |_,_,_=>.bad
 |_=>.bad
def RG(T:BS)(t:TypeId)(m k v:PV)(st:AK):PO:=match T.und t,m with
 |some (.map kt _),.mp id=>match kI T kt,st.obj id with
  |some ks,some (.map ks' vs l)=>match kC ks k,DG (.list (.pair ks' vs)) (.list (.pair ks vs)) l,wB vs v with
   |some x,some l,some y=>.val (.tup []) (st.setObj id (.map ks vs (Qw ks vs x y l)))
   |_,_,_=>.bad
  |_,_=>.bad
 |_,_=>.bad
def Ry(T:BS)(ts:Array TypeId)(args:List PV)(st:AK):PO:=match ts[0]?,args with
 |some t,[.mp id,k]=>match T.und t with
  |some (.map kt _)=>match kI T kt,st.obj id with
   |some ks,some (.map ks' vs l)=>match kC ks k,DG (.list (.pair ks' vs)) (.list (.pair ks vs)) l with
    |some x,some l=>.val (.tup []) (st.setObj id (.map ks vs (Rx ks vs x l)))
    |_,_=>.bad
   |_,_=>.bad
  |_=>.bad
 |_,_=>.bad
abbrev JM:=BS→AK→PO
def v1(st:AK)(x:Operand)(k:PV→PO):PO:=match Pk st x with|some v=>k v|none=>.bad
def Va(x:Operand):JM:=fun _ st=>ov st (Pk st x)
def Z8(c a b:Operand):JM:=fun _ st=>v1 st c fun c=>v1 st a fun a=>v1 st b fun b=>cG c a b st
def nI(T:BS)(t:TypeId):Bool:=
 match T.und t with
 |some (.struct fs)=>match fs[0]? with
  |some f=>match T.und f.type with
   |some (.pointer u)=>zc u t
   |_=>false
  |none=>false
 |_=>false
def QV(t:TypeId):JM:=fun T st=>match nN T t with
 |some (s,n)=>.val (.ptr st.nx 0) (st.push (.arr false t s (zi n s.GV)))
 |none=>match ZF T t with|some cs=>.val (.ptr st.nx 0) (st.push (bif nI T t then .tbox t cs else .box cs))|none=>.bad
def mI(_:TypeId)(x:Operand):JM:=fun _ st=>v1 st x fun v=>match rX st v with|some cs=>bif JZ (Ji st) cs then .val (.ptr st.nx 0) (st.push (.box cs))else .bad|none=>.bad
def V1(t:TypeId)(ps:Array (Nat×Operand)):JM:=fun T st=>match XN st ps.toList with|some l=>ov st (UX T st t l)|none=>.bad
def S2(t:TypeId)(n:Nat)(ps:Array (Nat×Operand)):JM:=fun T st=>match XN st ps.toList with|some l=>QW T t n l st|none=>.bad
def YV(t:TypeId)(x:Operand):JM:=fun T st=>v1 st x fun a=>LR T st t a
def V9(t:TypeId)(x y:Operand):JM:=fun T st=>v1 st x fun a=>v1 st y fun b=>UF T st t a b
def NH(x:Operand):JM:=fun _ st=>v1 st x fun a=>match a with| .ptr id _| .eptr id _ _ _=>bif Hv (st.obj id)then .val a st else .bad| .Fc .. =>.val a st|_=>.bad
def mR(T:BS)(op:BinOp)(t:TypeId)(x y:Operand)(a b:PV):Option Bool:=
 match op,a,b,T.und t with
 | .eql,.nili,.nili,some (.interface _)=>bif Wq x||Wq y then some true else none
 | .neq,.nili,.nili,some (.interface _)=>bif Wq x||Wq y then some false else none
 |_,_,_,_=>none
def mL(op:BinOp)(t:TypeId)(x y:Operand)(_:TypeId):JM:=fun T st=>v1 st x fun a=>v1 st y fun b=>match mR T op t x y a b with|some r=>.val (.bl r) st|none=>oM T op t a b st
def uJ(op:UnOp)(_:TypeId)(x:Operand):JM:=fun _ st=>v1 st x fun a=>vL op a st
def bS(s d:TypeId)(x:Operand):JM:=fun T st=>v1 st x fun a=>aA T s d a st
def cM(f:Fn)(a b:Array Operand):JM:=fun _ st=>match K9 st a.toList,K9 st b.toList with|some x,some y=>.val (.fn f x y) st|_,_=>.bad
def ZT(t:TypeId)(l c:Operand):JM:=fun T st=>v1 st l fun a=>v1 st c fun b=>ZJ T t a b st
def o1(st:AK)(x:Option Operand)(k:Option PV→PO):PO:=match x with|none=>k none|some y=>v1 st y fun v=>k (some v)
def WI(t:TypeId)(x:Operand)(a b c:Option Operand):JM:=fun T st=>v1 st x fun v=>o1 st a fun l=>o1 st b fun h=>o1 st c fun m=>YX T t v l h m st
def WJ(t:TypeId)(x:Operand)(f:Nat):JM:=fun T st=>v1 st x fun a=>Ul T t a f st
def VJ(t:TypeId)(x:Operand)(f:Nat):JM:=fun T st=>v1 st x fun a=>UN T t a f st
def WW(t:TypeId)(x i:Operand):JM:=fun T st=>v1 st x fun a=>v1 st i fun b=>Z9 T t a b st
def V7(t:TypeId)(x i:Operand):JM:=fun T st=>v1 st x fun a=>v1 st i fun b=>Up T t a b st
def P0(x:Operand)(i:Nat):JM:=fun _ st=>v1 st x fun a=>NC a i st
def QB(c:Call):JM:=fun T st=>
 match K9 st c.args.toList with
 |none=>.bad
 |some args=>match c.callee with
  | .builtin b=>match b with
   | .delete=>Ry T c.argTypes args st
   |_=>HZ T b c.argTypes args st
  |_=>.bad
def W6(t:TypeId)(r:Option Operand):JM:=fun T st=>match r with|none=>Us T t st|some _=>.bad
def SQ(t:TypeId)(x i:Operand)(ok:Bool):JM:=fun T st=>v1 st x fun a=>v1 st i fun b=>RY T t a b ok st
def NV(t:TypeId)(m k x:Operand):JM:=fun T st=>v1 st m fun a=>v1 st k fun b=>v1 st x fun c=>RG T t a b c st
def Wo(t:TypeId)(x:Operand):JM:=fun T st=>v1 st x fun a=>Uc T t a st
def bF(x:Operand)(isStr:Bool):JM:=fun _ st=>v1 st x fun a=>ZH a isStr st
def I7:JM:=fun _ _=>.bad
def pop(o:Op):JM:=@Op.casesOn (fun _=>JM) o Va Va Z8 QV mI V1 S2 NV YV V9 (fun _=>I7) (fun _=>I7) NH mL uJ bS
 (fun _ _=>I7) (fun _ _=>I7) cM W6 (fun _ _=>I7) ZT WI WJ VJ WW V7 SQ NV (fun _ _ _=>I7) (fun _ _ _ _=>I7)
 Wo bF (fun _=>I7) (fun _ _ _ _=>I7) P0 QB (fun _=>I7) (fun _=>I7) (fun _=>I7) (fun _ _=>I7) (fun _ _ _=>I7) (fun _ _=>I7)
end
end Go.Pe
namespace Go.Sp
end Go.Sp
end
section
namespace Go.Pe
open Go.Det
end Go.Pe
end
section
namespace Go.Det
noncomputable section
abbrev TZ:=FuncId→Option (List V→H→Option (V×H))
def Jo(P:Program)(s:TZ):Prop:=∀f q,s f=some q→∀(p:Pl) (h:H) (w:World) (args:List V) (args':Array Value) v h',R p h w→Gp p→Ap p args args'.toList→q args h=some (v,h')→
 Calls P f args' w fun e w'=>∃v' p',e=.returned v'∧Ab p' v v'∧Ext p h w p' h' w'
def mV(a b:TZ):TZ:=fun f=>match a f with
 |some q=>some q
 |none=>b f
variable {P:Program}
theorem LG{a b:TZ}(ha:Jo P a)(hb:Jo P b):Jo P (mV a b):=by
 intro f q hq;unfold mV at hq;cases h:a f with
 |some q'=>rw[h]at hq;cases hq;exact ha f _ h
 |none=>rw[h]at hq;exact hb f q hq
def V5(C:Ctx)(s:TZ):Ctx:={ C with spec:=s }
theorem TX{C:Ctx}(hC:C.Ok P){s:TZ}(h:Jo P s):(V5 C s).Ok P where
 T:=hC.T
 fn:=hC.fn
 prim:=hC.prim
 spec:=h
theorem Mj{C:Ctx}(hce:FC C)(s:TZ):FC (V5 C s):=hce
theorem Rh{C:Ctx}(hC:C.Ok P)(hce:FC C)(hm:P.follows .mixedOrders=true){n:Nat}{L:Gn}(h:BV C n L=true):Jo P (F4 L):=gL (C':=C) hC hce hm h
theorem CC{C:Ctx}{n:Nat}:∀ {a b:Gn},BV C n a=true→BV C n b=true→BV C n (a++b)=true
 |[],b,_,h=>h
 |(f,x,v)::a,b,h,k=>by
  simp only[BV,List.cons_append,Bool.and_eq_true]at h ⊢;exact⟨h.1,CC h.2 k⟩
def QZ(C:Ctx)(n:Nat)(L:Gn):TZ:=fun f=>match F4 L f with
 |none=>none
 |some q=>some fun args h=>match q args h with
  |some x=>some x
  |none=>match Bg C n (.fn f args) h with
   |some [x]=>some x
   |_=>none
theorem Yh{C:Ctx}(hC:C.Ok P)(hce:FC C)(hm:P.follows .mixedOrders=true){n k:Nat}{L:Gn}(ha:BV C k L=true):Jo P (QZ C n L):=by
 intro f q hq p h w args args' v h' hr hg hargs hqr;unfold QZ at hq;cases hL:F4 L f with
 |none=>rw[hL]at hq;cases hq
 |some q0=>
  rw[hL]at hq;cases hq;simp only at hqr;split at hqr
  case h_1=>rename_i x hx;cases hqr;exact Rh hC hce hm ha f q0 hL p h w args args' v h' hr hg hargs hx
  case h_2=>
   split at hqr
   case h_2=>cases hqr
   rename_i x he;cases hqr;refine((Ik hC hce hm n).fn f args h _ he p w args' hr hg hargs).mono ?_;rintro e w' ⟨v1,h1,v',p',hmem,rfl,k1,k2⟩;cases List.mem_singleton.1 hmem;exact⟨v',p',rfl,k1,k2⟩
theorem IL{p:Pl}{h:H}{w w':World}(hr:R p h w)(hb:Go.RowKit.Below w.heap.size w w'):Ext p h w p h w':=by
 obtain⟨h1,h2,h3,h4,h5⟩:=hb;refine⟨⟨[],by simp⟩,⟨hr.len,fun b o hb=>?_,hr.inj⟩,h4,fun r hlt _=>h5 r hlt,fun r hi=>.inl hi,h1,h3,h2,fun r hlt hl=>⟨h5 r hlt,.inl hl⟩⟩;obtain⟨r,m,y,g1,g2,g3⟩:=hr.obj b o hb;exact⟨r,m,y,g1,by rw[h5 r (Array.getElem?_eq_some_iff.1 g2).1];exact g2,g3⟩
end
end Go.Det
end
