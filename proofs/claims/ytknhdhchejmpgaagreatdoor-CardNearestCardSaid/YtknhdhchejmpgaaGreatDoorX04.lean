import Derived.Test.YtknhdhchejmpgaaGreatDoorX03
import Derived.Below
/- A part of a proof (no law is stated here). Made by program out of texts by AI agents. -/
open Nat renaming beq → zc, add → zg, blt → zj, ble → zm, mul → zn
open Int renaming toNat → ze
open BitVec renaming ofInt → zh
open Go.Op renaming bytesLess → zk
open List renaming replicate → zl
section
namespace Go.Det
noncomputable section
def NN(P:Program):Nat→Nat→Bool
 |0,_=>true
 |n+1,a=>(match Pr P (fun _=>true) a with|some i=>Dq i.body|none=>true)&&NN P n (a+1)
variable {P:Program}
theorem Ql{ct:FuncId→Bool}{f:FuncId}{i:Fn}(hi:Pr P ct f=some i):Pr P (fun _=>true) f=some { i with cert:=true }∧i.cert=ct f:=by
 unfold Pr at hi ⊢;cases hf:P.funcs[f]? with
 |none=>rw[hf]at hi;cases hi
 |some fn=>
  rw[hf]at hi;simp only at hi ⊢;cases hb:fn.body with
  |none=>rw[hb]at hi;cases hi
  |some b=>
   rw[hb]at hi;simp only at hi ⊢;split at hi
   ·cases hi
   ·rename_i hn;rw[if_neg hn];cases hi;exact⟨rfl,rfl⟩
theorem HJ{f:Nat}{i:Fn}{ct:FuncId→Bool}(hi:Pr P ct f=some i):∀ {n a:Nat},NN P n a=true→a≤f→f<a+n→Dq i.body=true
 |0,a,_,h1,h2=>by omega
 |n+1,a,h,h1,h2=>by
  simp only[NN,Bool.and_eq_true]at h;by_cases e:a=f
  ·subst e;rw[(Ql hi).1]at h;exact h.1
  ·exact HJ hi h.2 (by omega) (by omega)
def xY(P:Program)(N:Nat)(L:List (FuncId×PK)):Ctx:=⟨nL P,0,Pr P (fun f=>zj f N),QY L,fun _=>none,true⟩
theorem XP{N:Nat}{L:List (FuncId×PK)}(h:∀f i,f<N→Pr P (fun f=>zj f N) f=some i→Dq i.body=true):FM (xY P N L):=by
 intro f i hi hc;have hi:Pr P (fun f=>zj f N) f=some i:=hi;rw[(Ql hi).2]at hc;exact h f i (Nat.le_of_ble_eq_true hc) hi
theorem qY{N:Nat}{L:List (FuncId×PK)}(hL:∀x∈L,HM P x):(xY P N L).Ok P where
 T:=qL P
 fn:=fun _ _ h=>kI (P:=P) (ct:=fun f=>zj f N) h
 prim:=fun f q hq p h w args args' v h' hr _ ha hd=>Xw hL f q hq p h w args args' v h' hr ha hd
 spec:=fun f q hq=>by cases hq
end
end Go.Det
end
section
namespace Go.Pe
open Go.Det
inductive Sh where
 |int (k:IntKind)
 |bool
 |str
 |list (s:Sh)
 |pair (a b:Sh)
 |unit
 |nlist (s:Sh)
 |fnv
 deriving DecidableEq
@[reducible] def Sh.T:Sh→Type
 | .int _=>Int
 | .bool=>Bool
 | .str=>List UInt8
 | .list s=>List s.T
 | .pair a b=>a.T×b.T
 | .unit=>Unit
 | .nlist s=>List s.T
 | .fnv=>Option Fn
noncomputable section
def Sh.GY:(s:Sh)→s.T
 | .int _=>(0:Int)
 | .bool=>false
 | .str=>([]:List UInt8)
 | .list _=>[]
 | .pair a b=>(a.GY,b.GY)
 | .unit=>()
 | .nlist _=>[]
 | .fnv=>none
def Sh.sz:Sh→Nat
 | .pair a b=>zg a.sz b.sz
 | .unit=>0
 |_=>1
inductive PV where
 |any
 |bl (b:Bool)
 |ub
 |dat (s:Sh) (x:s.T)
 |nil|nilp|nilm|nilf|nili
 |agg (l:List PV)
 |tup (l:List PV)
 |ptr (id off:Nat)
 |eptr (id sz i off:Nat)
 |Fo (s:Sh) (x:s.T) (off:Nat)
 |sl (id sz off len:Nat) (cap:Option Nat)
 |mp (id:Nat)
 |fn (f:Fn) (first captured:List PV)
 |yl (id:Nat)
inductive yA where
 |ready|busy|ret
 |exit (i:Nat)
inductive Obj where
 |arr (fz:Bool) (e:TypeId) (s:Sh) (l:List s.T)
 |box (cs:List PV)
 |tbox (t:TypeId) (cs:List PV)
 |map (ks vs:Sh) (l:List (ks.T×vs.T))
 |siter (s:List UInt8) (pos:Nat)
 |lp (f:FuncId) (r:Nat) (ps:Array Tmp) (asg body:Code) (s:yA) (n:Nat) (sl:List (Nat×PV))
abbrev Ob:=List (Nat×Obj)
def AN:Ob→Nat→Option Obj
 |[],_=>none
 |(i,o)::l,j=>bif zc i j then some o else AN l j
def Dm:Ob→Nat→Obj→Ob
 |[],_,_=>[]
 |(i,o)::l,j,x=>bif zc i j then(i,x)::l else(i,o)::Dm l j x
def FD:Ob→Nat→Ob
 |[],_=>[]
 |(i,o)::l,j=>bif zc i j then FD l j else(i,o)::FD l j
structure AJ where
 n:Nat
 fr:PM PV
 ob:Ob
 nx:Nat
def AJ.get(st:AJ)(t:Nat):PV:=(st.fr.get t).getD .any
def AJ.obj(st:AJ)(id:Nat):Option Obj:=AN st.ob id
def AJ.set(st:AJ)(t:Nat)(v:PV):AJ:=⟨st.n,st.fr.set t (some v),st.ob,st.nx⟩
def AJ.setObj(st:AJ)(id:Nat)(o:Obj):AJ:=⟨st.n,st.fr,Dm st.ob id o,st.nx⟩
def AJ.OH(st:AJ)(id:Nat):AJ:=⟨st.n,st.fr,FD st.ob id,st.nx⟩
def AJ.push(st:AJ)(o:Obj):AJ:=⟨st.n,st.fr,(st.nx,o)::st.ob,zg st.nx 1⟩
def AJ.put(st:AJ)(d:Option Nat)(v:PV):Option AJ:=
 match d with
 |none=>some st
 |some t=>bif zj t st.n then some (st.set t v)else none
def EU(vs:List (Nat×PV)):PM PV:=vs.foldl (fun m x=>m.set x.1 (some x.2)) .leaf
def flat:(s:Sh)→s.T→List PV
 | .pair a b,(x,y)=>flat a x++flat b y
 | .unit,_=>[]
 | .fnv,x=>[match (x:Option Fn)with|some f=>.fn f [] []|none=>.nilf]
 |s,x=>[.dat s x]
def D4(s s':Sh)(x:s.T):Option s'.T:=if h:s=s' then some (h▸x)else none
def oT(s:Sh)(v:PV):Option s.T:=
 match v with
 | .dat s' x=>D4 s' s x
 | .bl b=>D4 .bool s b
 | .fn f [] []=>D4 .fnv s (some f)
 | .nilf=>D4 .fnv s none
 | .nil=>match s with
  | .list _=>some []
  | .nlist _=>some []
  |_=>none
 |_=>none
def Ct:(s:Sh)→List PV→Option (s.T×List PV)
 | .pair a b,l=>match Ct a l with
  |some (x,l1)=>match Ct b l1 with
   |some (y,l2)=>some ((x,y),l2)
   |none=>none
  |none=>none
 | .unit,l=>some ((),l)
 |s,v::l=>match oT s v with
  |some x=>some (x,l)
  |none=>none
 |_,[]=>none
def Dv(s:Sh)(l:List PV):Option s.T:=
 match Ct s l with
 |some (x,[])=>some x
 |_=>none
def PV.cells:PV→List PV
 | .agg cs=>cs
 |v=>[v]
def WQ(ty:TypeId→Option Sh):List Field→Option Sh
 |[]=>none
 |[x]=>ty x.type
 |x::xs=>match ty x.type,WQ ty xs with
  |some a,some b=>some (.pair a b)
  |_,_=>none
def yW:Option Sh→Option Sh
 |some (.list (.int .u64))=>some (.nlist (.int .u64))
 |s=>s
def lz:PV→PV
 | .dat (.nlist s) x=>.dat (.list s) x
 |v=>v
def Sh.leaves:Sh→List Sh
 | .pair a b=>a.leaves++b.leaves
 | .unit=>[]
 |s=>[s]
def Tk:Sh→PV→Bool×PV
 | .nlist s,.dat (.list s') x=>bif s==s' then(decide (0<x.length),.dat (.nlist s') x)else(true,.dat (.list s') x)
 | .list s,.dat (.nlist s') x=>bif s==s' then(true,.dat (.list s') x)else(true,.dat (.nlist s') x)
 |_,v=>(true,v)
def KQ:List Sh→List PV→Bool×List PV
 |s::l,v::vs=>((Tk s v).1&&(KQ l vs).1,(Tk s v).2::(KQ l vs).2)
 |_,vs=>(true,vs)
def Ux(T:BR):Nat→TypeId→Option Sh
 |0,_=>none
 |f+1,t=>match T.und t with
  |some (.int k)=>some (.int k)
  |some .bool=>some .bool
  |some .string=>some .str
  |some (.slice e)=>(Ux T f e).map .list
  |some (.func _ _ _)=>some .fnv
  |some (.struct fs)=>WQ (fun x=>yW (Ux T f x)) fs.toList
  |_=>none
def Sh.kH:Sh→Bool
 | .pair a b=>a.kH||b.kH
 | .fnv=>true
 |_=>false
def B3:(s:Sh)→s.T→PV
 | .pair a b,x=>.agg (flat (.pair a b) x)
 | .unit,_=>.agg []
 | .fnv,x=>match (x:Option Fn)with|some f=>.fn f [] []|none=>.nilf
 |s,x=>.dat s x
def Sh.Pu:Sh→Bool
 | .pair _ _| .unit=>true
 |_=>false
def oQ:(s:Sh)→s.T→s.T→Bool
 | .int _,a,b=>(a:Int)==b
 | .bool,a,b=>(a:Bool)==b
 | .str,a,b=>(a:List UInt8)==b
 |_,_,_=>false
def KJ(s v:Sh)(k:s.T):List (s.T×v.T)→Option v.T
 |[]=>none
 |(a,b)::l=>bif oQ s k a then some b else KJ s v k l
def Qv(s v:Sh)(k:s.T)(x:v.T):List (s.T×v.T)→List (s.T×v.T)
 |[]=>[(k,x)]
 |(a,b)::l=>bif oQ s k a then(k,x)::l else(a,b)::Qv s v k x l
def RJ(s v:Sh)(k:s.T):List (s.T×v.T)→List (s.T×v.T)
 |[]=>[]
 |(a,b)::l=>bif oQ s k a then l else(a,b)::RJ s v k l
inductive Tr where
 |fail
 |leaf (v:PV) (ob:Ob)
 |ite (c:Bool) (a b:Tr)
 |both (a b:Tr)
 |cut (nd ro:Bool) (d:Nat) (f:FuncId) (base:Nat) (b:Code) (st:AJ) (k:DX→AJ→Tr)
 |alts (m:Nat) (f:Nat→Tr)
 |loop (nd ro:Bool) (d:Nat) (f:FuncId) (base:Nat) (b:Code) (st:AJ) (k:DX→AJ→Tr)
inductive PO where
 |bad
 |val (v:PV) (st:AJ)
 |ite (c:Bool) (a b:PO)
def PO.Hr(c:Bool)(v:PV)(st:AJ):PO:=.ite c (.val v st) .bad
end
noncomputable section
mutual
def Mp:Value→Option PV
 | .bool b=>some (.bl b)
 | .int k n=>some (.dat (.int k) n)
 | .string s=>some (.dat .str s.data.toList)
 | .pointer none=>some .nilp
 | .slice none 0 0=>some .nil
 | .map none=>some .nilm
 | .nilFunc=>some .nilf
 | .nilIface=>some .nili
 | .func f ⟨[]⟩ ⟨[]⟩=>some (.fn f [] [])
 | .agg ⟨cs⟩=>(Y5 cs).map .agg
 | .tuple ⟨cs⟩=>(Y5 cs).map .tup
 |_=>none
def Y5:List Value→Option (List PV)
 |[]=>some []
 |v::vs=>match Mp v,Y5 vs with
  |some x,some xs=>some (x::xs)
  |_,_=>none
end
def UI:V→PV
 | .bool b=>.bl b
 | .int k n=>.dat (.int k) n
 | .str s=>.dat .str s
 | .nilp=>.nilp
 | .nils=>.nil
 | .nilm=>.nilm
 | .nilf=>.nilf
 | .nili=>.nili
 |_=>.any
def Ps(st:AJ):Operand→Option PV
 | .tmp t=>some (st.get t)
 | .const v=>Mp v
 | .global _=>none
 | .func f=>some (.fn (.func f) [] [])
def Lr(st:AJ):List Operand→Option (List PV)
 |[]=>some []
 |x::xs=>match Ps st x,Lr st xs with
  |some v,some vs=>some (v::vs)
  |_,_=>none
def Yd(st:AJ):List (Nat×Operand)→Option (List (Nat×PV))
 |[]=>some []
 |(i,x)::xs=>match Ps st x,Yd st xs with
  |some v,some vs=>some ((i,v)::vs)
  |_,_=>none
def fW(T:BR)(t:TypeId):Option (List PV):=(T.inf t).bind fun i=>bif J4 V.ok i.zero then some (i.zero.map UI)else none
def pick(d:TypeDesc)(n:Nat)(cs:List PV):Option PV:=
 bif DA d then(bif zm n (Dk cs)&&zj 0 n then some (.agg (Tc n cs))else none)
 else match cs with
  |v::_=>some v
  |[]=>none
def ov(st:AJ):Option PV→PO
 |some v=>.val v st
 |none=>.bad
def tE(c:Bool)(st:AJ):Option PV→PO
 |some v=>.Hr c v st
 |none=>.bad
def chunk(s:Sh):Nat→List PV→Option (List s.T)
 |0,_=>some []
 |n+1,cs=>match Ct s cs with
  |some (x,cs')=>(chunk s n cs').map (x:: ·)
  |none=>none
def NA(s:Sh)(l:List s.T):Nat→Nat→List PV
 |_,0=>[]
 |j,n+1=>flat s (l.getD j s.GY)++NA s l (zg j 1) n
def yV:List V→Option Sh
 | .bool _::_=>some .bool
 | .int k _::_=>some (.int k)
 |_=>none
def tD:Sh→V→Bool
 | .bool,.bool b=> !b
 | .int k,.int k' n=>decide (k=k')&&decide (n=0)
 |_,_=>false
def rX(T:BR)(t:TypeId):Option (Sh×Nat):=
 match T.und t,T.inf t with
 |some (.array _ _),some i=>match yV i.zero with
  |some s=>bif zm 32 (Dk i.zero)&&J4 (tD s) i.zero then some (s,Dk i.zero)else none
  |none=>none
 |_,_=>none
def LV(T:BR)(st:AJ)(t:TypeId)(a:PV):PO:=
 match T.und t,T.inf t with
 |some d,some i=>match a with
  | .ptr id off=>match st.obj id with
   |some (.box cs)=>ov st (pick d i.size (HZ off cs))
   |some (.arr _ _ s l)=>bif zc off 0&&zc s.sz 1 then tE (decide (l.length=i.size)) st (pick d i.size (NA s l 0 i.size))else .bad
   |some (.tbox _ cs)=>ov st (pick d i.size (HZ off cs))
   |_=>.bad
  | .eptr id sz j off=>match st.obj id with
   |some (.arr _ _ s l)=>bif zc sz s.sz then tE (decide (j<l.length)) st (pick d i.size (HZ off (flat s (l.getD j s.GY))))else .bad
   |_=>.bad
  | .Fo s x off=>ov st (pick d i.size (HZ off (flat s x)))
  |_=>.bad
 |_,_=>.bad
def Hq:Option Obj→Bool
 |some _=>true
 |none=>false
def I1(st:AJ):PV→Bool
 | .agg _| .tup _| .any| .ub=>false
 | .ptr id _| .eptr id _ _ _| .sl id _ _ _ _| .mp id| .yl id=>Hq (st.obj id)
 |_=>true
def sZ(st:AJ):PV→Option (List PV)
 | .agg l=>some l
 |p=>bif I1 st p then some [p]else none
def VD(T:BR)(st:AJ)(t:TypeId)(a x:PV):PO:=
 match T.inf t,sZ st x with
 |some i,some xs=>bif zc (Dk xs) i.size&&J4 (I1 st) xs then
   match a with
   | .ptr id off=>match st.obj id with
    |some (.box cs)=>bif zm (zg off i.size) (Dk cs)then .val (.tup []) (st.setObj id (.box (Ci off xs cs)))else .bad
    |some (.arr false e s l)=>bif zc off 0&&zc s.sz 1 then
      match chunk s i.size xs with
      |some y=>.Hr (decide (l.length=i.size)) (.tup []) (st.setObj id (.arr false e s y))
      |none=>.bad
     else .bad
    |some (.tbox tb cs)=>bif zm (zg off i.size) (Dk cs)then .val (.tup []) (st.setObj id (.tbox tb (Ci off xs cs)))else .bad
    |_=>.bad
   | .eptr id sz j off=>match st.obj id with
    |some (.arr false e s l)=>bif zc sz s.sz&&zm (zg off i.size) sz then
      match Dv s (Ci off xs (flat s (l.getD j s.GY)))with
      |some y=>.Hr (decide (j<l.length)) (.tup []) (st.setObj id (.arr false e s (l.set j y)))
      |none=>.bad
     else .bad
    |_=>.bad
   |_=>.bad
  else .bad
 |_,_=>.bad
def G4(k:IntKind)(a b:Int):Int:=k.wrap (zh k.bits a&&&zh k.bits b).toNat
def TZ(k:IntKind)(a b:Int):Int:=k.wrap (zh k.bits a|||zh k.bits b).toNat
def xU(k:IntKind)(a b:Int):Int:=k.wrap (zh k.bits a^^^zh k.bits b).toNat
def tO(k:IntKind)(a b:Int):Int:=k.wrap (zh k.bits a&&& ~~~zh k.bits b).toNat
def pG(op:BinOp)(k:IntKind)(a b:Int)(st:AJ):PO:=
 match op with
 | .add=>.val (.dat (.int k) (k.wrap (a+b))) st
 | .sub=>.val (.dat (.int k) (k.wrap (a-b))) st
 | .mul=>.val (.dat (.int k) (k.wrap (a*b))) st
 | .quo=>.Hr (decide (b≠0)) (.dat (.int k) (k.wrap (a.tdiv b))) st
 | .rem=>.Hr (decide (b≠0)) (.dat (.int k) (a.tmod b)) st
 | .and=>.val (.dat (.int k) (G4 k a b)) st
 | .or=>.val (.dat (.int k) (TZ k a b)) st
 | .xor=>.val (.dat (.int k) (xU k a b)) st
 | .andNot=>.val (.dat (.int k) (tO k a b)) st
 | .eql=>.val (.dat .bool (a==b)) st
 | .neq=>.val (.dat .bool (a !=b)) st
 | .lss=>.val (.dat .bool (decide (a<b))) st
 | .leq=>.val (.dat .bool (decide (a≤b))) st
 | .gtr=>.val (.dat .bool (decide (a>b))) st
 | .geq=>.val (.dat .bool (decide (a≥b))) st
 |_=>.bad
def yD(op:BinOp)(k:IntKind)(a b:Int)(st:AJ):PO:=
 match op with
 | .shl=>.Hr (decide (0≤b)) (.dat (.int k) (k.wrap (a*2^(min b.toNat k.bits)))) st
 | .shr=>.Hr (decide (0≤b)) (.dat (.int k) (a.fdiv (2^(min b.toNat k.bits)))) st
 |_=>.bad
def pU(op:BinOp)(x y:List UInt8)(st:AJ):PO:=
 match op with
 | .add=>.Hr (decide (x.length+y.length≤4611686018427387904)) (.dat .str (x++y)) st
 | .eql=>.val (.dat .bool (x==y)) st
 | .neq=>.val (.dat .bool (!(x==y))) st
 | .lss=>.val (.dat .bool (zk x y)) st
 | .leq=>.val (.dat .bool (zk x y||x==y)) st
 | .gtr=>.val (.dat .bool (!(zk x y||x==y))) st
 | .geq=>.val (.dat .bool (!zk x y)) st
 |_=>.bad
def hH:BinOp→Bool
 | .shl| .shr=>true
 |_=>false
def IC:PV→Option Bool
 | .bl b=>some b
 | .dat .bool b=>some b
 |_=>none
def Ge:List FK→List PV→List PV→Option Bool
 |[],[],[]=>some true
 | .int k::ks,.dat (.int k1) a::xs,.dat (.int k2) b::ys=>bif k==k1&&k==k2 then(Ge ks xs ys).map fun r=>(a:Int)==(b:Int)&&r else none
 | .str::ks,.dat .str a::xs,.dat .str b::ys=>(Ge ks xs ys).map fun r=>(a:List UInt8)==(b:List UInt8)&&r
 | .bool::ks,a::xs,b::ys=>match IC a,IC b with
  |some a,some b=>(Ge ks xs ys).map fun r=>a==b&&r
  |_,_=>none
 |_,_,_=>none
def Q3(st:AJ)(ng:Bool)(x:PV):PO:=
 match x with
 | .nil=>.val (.bl (!ng)) st
 | .sl id _ _ _ _=>bif Hq (st.obj id)then .val (.bl ng) st else .bad
 | .dat (.list _) l=>.ite (decide (0<l.length)) (.val (.bl ng) st) (.val .ub st)
 | .dat (.nlist _) l=>.val (.dat .bool (bif ng then decide (0<l.length)else !decide (0<l.length))) st
 |_=>.bad
def fL(op:BinOp)(x y:PV)(st:AJ):PO:=
 match op,x,y with
 | .eql,x,.nil=>Q3 st false x
 | .neq,x,.nil=>Q3 st true x
 |_,_,_=>.bad
def ptrEq(T:BR)(e:TypeId)(st:AJ)(x y:PV):Option Bool:=
 match x,y with
 | .nilp,.nilp=>some true
 | .ptr id _,.nilp=>bif Hq (st.obj id)then some false else none
 | .nilp,.ptr id _=>bif Hq (st.obj id)then some false else none
 | .ptr a i,.ptr b j=>bif zc a b&&Hq (st.obj a)then match T.inf e with
   |some ti=>bif zj 0 ti.size then some (zc i j)else none
   |none=>none
  else none
 |_,_=>none
def pE(T:BR)(op:BinOp)(t:TypeId)(x y:PV)(st:AJ):PO:=
 match x,y with
 | .dat (.int k) a,.dat (.int k') b=>bif hH op then yD op k a b st else(bif k==k' then pG op k a b st else .bad)
 | .dat .str a,.dat .str b=>pU op a b st
 | .agg xs,.agg ys=>match T.flat t with
  |some ks=>match op,Ge ks xs ys with
   | .eql,some r=>.val (.dat .bool r) st
   | .neq,some r=>.val (.dat .bool (!r)) st
   |_,_=>.bad
  |none=>.bad
 |x,y=>match IC x,IC y,T.und t with
  |some a,some b,some .bool=>match op with
   | .eql=>.val (.dat .bool (a==b)) st
   | .neq=>.val (.dat .bool (!(a==b))) st
   |_=>.bad
  |_,_,some (.slice _)=>fL op x y st
  |_,_,some (.pointer e)=>match op,ptrEq T e st x y with
   | .eql,some r=>.val (.bl r) st
   | .neq,some r=>.val (.bl (!r)) st
   |_,_=>.bad
  |_,_,_=>.bad
def xP(op:UnOp)(x:PV)(st:AJ):PO:=
 match op,x with
 | .neg,.dat (.int k) n=>.val (.dat (.int k) (k.wrap (0-(n:Int)))) st
 | .not,.bl b=>.val (.bl (!b)) st
 | .not,.ub=>.val .ub st
 | .not,.dat .bool b=>.val (.dat .bool (!b)) st
 |_,_=>.bad
def bC(T:BR)(s d:TypeId)(x:PV)(st:AJ):PO:=
 match T.und s,T.und d,x with
 |some _,some (.int k),.dat (.int _) n=>.val (.dat (.int k) (k.wrap n)) st
 |some .string,some .string,.dat .str s=>.val (.dat .str s) st
 |_,_,_=>.bad
def aT(c a b:PV)(st:AJ):PO:=
 match c with
 | .bl t=>.val (bif t then a else b) st
 | .dat .bool t=>match a,b with
  | .dat .bool x,.bl false=>.val (.dat .bool (t&&x)) st
  | .bl true,.dat .bool x=>.val (.dat .bool (t||x)) st
  |_,_=>.ite t (.val a st) (.val b st)
 |_=>.bad
def UO(T:BR)(t:TypeId)(x:PV)(f:Nat)(st:AJ):PO:=
 match T.und t,x with
 |some (.struct fs),.agg cs=>match fs[f]? with
  |some fd=>match T.und fd.type,T.inf fd.type with
   |some d,some i=>ov st (pick d i.size (HZ fd.offset cs))
   |_,_=>.bad
  |none=>.bad
 |_,_=>.bad
def Vk(T:BR)(t:TypeId)(x:PV)(f:Nat)(st:AJ):PO:=
 match T.und t with
 |some (.struct fs)=>match fs[f]? with
  |some fd=>match T.inf fd.type with
   |some i=>bif zc i.size 0 then .bad else match x with
    | .ptr id off=>bif Hq (st.obj id)then .val (.ptr id (zg off fd.offset)) st else .bad
    | .eptr id sz j off=>bif Hq (st.obj id)then .val (.eptr id sz j (zg off fd.offset)) st else .bad
    | .Fo s y off=>.val (.Fo s y (zg off fd.offset)) st
    |_=>.bad
   |none=>.bad
  |none=>.bad
 |_=>.bad
def RP(T:BR)(t:TypeId)(x ix:PV)(st:AJ):PO:=
 match T.und t,ix with
 |some (.slice e),.dat (.int _) i=>match T.inf e with
  |some ti=>match x with
   | .dat (.list s) l=>bif zc ti.size s.sz then .Hr (decide (0≤(i:Int))&&decide ((i:Int)<(l.length:Int))) (.Fo s (l.getD (ze i) s.GY) 0) st else .bad
   | .sl id sz off len _=>bif zc ti.size sz&&Hq (st.obj id)then .Hr (decide (0≤(i:Int))&&decide ((i:Int)<(len:Int))) (.eptr id sz (zg (ze i) off) 0) st else .bad
   |_=>.bad
  |none=>.bad
 |some (.array len e),.dat (.int _) i=>match T.inf e with
  |some ti=>match x with
   | .ptr id off=>match st.obj id with
    |some (.arr _ _ s _)=>bif zc off 0&&zc ti.size s.sz then .Hr (decide (0≤(i:Int))&&decide ((i:Int)<(len:Int))) (.eptr id s.sz (ze i) 0) st else .bad
    |some _=>.Hr (decide (0≤(i:Int))&&decide ((i:Int)<(len:Int))) (.ptr id (zg off (zn (ze i) ti.size))) st
    |none=>.bad
   | .eptr id sz j off=>bif Hq (st.obj id)then .Hr (decide (0≤(i:Int))&&decide ((i:Int)<(len:Int))) (.eptr id sz j (zg off (zn (ze i) ti.size))) st else .bad
   | .Fo s y off=>.Hr (decide (0≤(i:Int))&&decide ((i:Int)<(len:Int))) (.Fo s y (zg off (zn (ze i) ti.size))) st
   |_=>.bad
  |none=>.bad
 |_,_=>.bad
def fY(T:BR)(t:TypeId)(x ix:PV)(st:AJ):PO:=RP T t (lz x) ix st
def Vx(T:BR)(t:TypeId)(x ix:PV)(st:AJ):PO:=
 match T.und t,x,ix with
 |some .string,.dat .str s,.dat (.int _) i=>.Hr (decide (0≤(i:Int))&&decide ((i:Int)<((s:List UInt8).length:Int))) (.dat (.int .u8) (((s:List UInt8).getD (ze i) 0).toNat:Int)) st
 |some (.array len e),.agg cs,.dat (.int _) i=>match T.und e,T.inf e with
  |some d,some ti=>tE (decide (0≤(i:Int))&&decide ((i:Int)<(len:Int))) st (pick d ti.size (HZ (zn (ze i) ti.size) cs))
  |_,_=>.bad
 |_,_,_=>.bad
def NI(x:PV)(i:Nat)(st:AJ):PO:=
 match x with
 | .tup vs=>match vs[i]? with
  |some v=>.val v st
  |none=>.bad
 |_=>.bad
def pb(x:Option PV)(GY:Nat):Option (Bool×Nat):=
 match x with
 |none=>some (true,GY)
 |some (.dat (.int _) n)=>some (decide (0≤(n:Int)),ze n)
 |_=>none
def has(mx:Option PV)(c:Nat):Bool:=match mx with
 |none=>true
 |some _=>decide (0<c)
def Sg(T:BR)(t:TypeId)(x:PV)(lo hi mx:Option PV)(st:AJ):PO:=
 match T.und t with
 |some .string=>match x,mx with
  | .dat .str s,none=>match pb lo 0,pb hi (s:List UInt8).length with
   |some (c1,l),some (c2,h)=>.Hr (c1&&c2&&decide (l≤h)&&decide (h≤(s:List UInt8).length)) (.dat .str (((s:List UInt8).drop l).take (Nat.sub h l))) st
   |_,_=>.bad
  |_,_=>.bad
 |some (.slice e)=>match T.inf e with
  |some ti=>match x with
   | .dat (.list s) xs=>bif zc ti.size s.sz then
     match pb lo 0,pb hi xs.length,mx with
     |some (c1,l),some (c2,h),none=>.Hr (c1&&c2&&decide (l≤h)&&decide (h≤xs.length)) (.dat (.list s) ((xs.drop l).take (Nat.sub h l))) st
     |_,_,_=>.bad
    else .bad
   | .sl id sz off len cap=>bif zc ti.size sz&&Hq (st.obj id)then
     match hi,mx with
     |none,some _=>.bad
     |_,_=>match pb lo 0,pb hi len,pb mx (cap.getD len)with
      |some (c1,l),some (c2,h),some (c3,m)=>.Hr (c1&&c2&&c3&&decide (l≤h)&&decide (h≤m)&&decide (m≤cap.getD len)&&has mx (cap.getD len)) (.sl id sz (zg off l) (Nat.sub h l) (some (Nat.sub m l))) st
      |_,_,_=>.bad
    else .bad
   | .nil=>match pb lo 0,pb hi 0,mx with
    |some (c1,l),some (c2,h),none=>.Hr (c1&&c2&&decide (l≤h)&&decide (h≤0)) .nil st
    |some (c1,l),some (c2,h),some q=>match hi,pb (some q) 0 with
     |some _,some (c3,m)=>.Hr (c1&&c2&&c3&&decide (l≤h)&&decide (h≤m)&&decide (m≤0)) .nil st
     |_,_=>.bad
    |_,_,_=>.bad
   |_=>.bad
  |none=>.bad
 |_=>.bad
def ZN(T:BR)(t:TypeId)(x:PV)(lo hi mx:Option PV)(st:AJ):PO:=Sg T t (lz x) lo hi mx st
def pi64(n:Nat):PV:=.dat (.int .i64) (Int.ofNat n)
def Su(T:BR)(ts:Array TypeId)(args:List PV)(st:AJ):PO:=
 match ts[0]?,args with
 |some t,[x]=>match T.und t,x with
  |some .string,.dat .str s=>.val (pi64 (s:List UInt8).length) st
  |some (.slice _),.dat (.list _) l=>.val (pi64 l.length) st
  |some (.slice _),.sl id _ _ len _=>bif Hq (st.obj id)then .val (pi64 len) st else .bad
  |some (.slice _),.nil=>.val (pi64 0) st
  |some (.map _ _),.mp id=>match st.obj id with
   |some (.map _ _ l)=>.val (pi64 l.length) st
   |_=>.bad
  |_,_=>.bad
 |_,_=>.bad
def jR(T:BR)(ts:Array TypeId)(args:List PV)(st:AJ):PO:=Su T ts (args.map lz) st
def wE(f:Int→Int→Int)(k:IntKind):Int→List PV→Option Int
 |x,[]=>some x
 |x,.dat (.int k') y::ys=>bif k==k' then wE f k (f x y) ys else none
 |_,_=>none
def MA(f:Int→Int→Int)(args:List PV)(st:AJ):PO:=
 match args with
 | .dat (.int k) x::ys=>match wE f k x ys with
  |some z=>.val (.dat (.int k) z) st
  |none=>.bad
 |_=>.bad
def imax(x y:Int):Int:=if y>x then y else x
def Eg(x y:Int):Int:=if y<x then y else x
def My(st:AJ)(s:Sh)(x:PV):Option (Bool×List s.T):=
 match x with
 | .nil=>some (true,[])
 | .dat (.list s') l=>(D4 (.list s') (.list s) l).map fun r=>(true,r)
 | .sl id sz off len _=>match st.obj id with
  |some (.arr _ _ s' l)=>bif zc sz s'.sz then(D4 (.list s') (.list s) l).map fun r=>(decide (off+len≤r.length),(r.drop off).take len)else none
  |_=>none
 | .dat .str l=>(D4 (.list (.int .u8)) (.list s) (List.map (fun b:UInt8=>(b.toNat:Int)) l)).map fun r=>(true,r)
 |_=>none
def Nv(st:AJ)(s:Sh)(x:PV):Option (Bool×List s.T):=My st s (lz x)
def sX:Nat:=281474976710656
def R9:TypeDesc→Bool
 | .slice _=>true
 | .string=>true
 |_=>false
def QS(T:BR)(ts:Array TypeId)(args:List PV)(st:AJ):PO:=
 match ts[0]?,ts[1]?,args with
 |some t,some tx,[b,x]=>match T.und t,T.und tx with
  |some (.slice e),some dx=>bif R9 dx then match T.inf e,Ux T 9 e with
   |some i,some s=>
    bif zj 0 i.bytes&&zj 0 i.size&&zc i.zero.length i.size&&zc i.size s.sz then
     match Nv st s x with
     |some (c,new)=>match b with
      | .nil=>match x with
       | .nil=>.val .nil st
       | .dat _ _=>.ite (decide (0<new.length)) (.Hr (c&&decide ((2*new.length+1000)*i.bytes≤sX)) (.sl st.nx s.sz 0 new.length none) (st.push (.arr false e s new))) (.val .nil st)
       | .sl _ _ _ _ (some _)=>.ite (decide (0<new.length)) (.Hr (c&&decide ((2*new.length+1000)*i.bytes≤sX)) (.sl st.nx s.sz 0 new.length none) (st.push (.arr false e s new))) (.Hr c .nil st)
       |_=>.Hr (c&&decide (0<new.length)&&decide ((2*new.length+1000)*i.bytes≤sX)) (.sl st.nx s.sz 0 new.length none) (st.push (.arr false e s new))
      | .sl id sz off len cap=>match st.obj id with
       |some (.arr false e' s' l)=>match D4 (.list s') (.list s) l with
        |some l'=>bif zc e e'&&zc sz s.sz then
          match cap with
          |none=>.Hr (c&&decide (off=0)&&decide (len=l'.length)&&decide ((2*(len+new.length)+1000)*i.bytes≤sX)) (.sl st.nx s.sz 0 (zg len new.length) none) ((st.OH id).push (.arr false e s (l'++new)))
          |some k=>.Hr (c&&decide (len+new.length≤k)&&decide (off+k≤l'.length)) (.sl id sz off (zg len new.length) (some k)) (st.setObj id (.arr false e s (l'.take (off+len)++(new++l'.drop (off+len+new.length)))))
         else .bad
        |none=>.bad
       |_=>.bad
      |_=>.bad
     |none=>.bad
    else .bad
   |_,_=>.bad
   else .bad
  |_,_=>.bad
 |_,_,_=>.bad
def UD(T:BR)(ts:Array TypeId)(args:List PV)(st:AJ):PO:=
 match ts[0]?,args with
 |some t,[x]=>match T.und t with
  |some (.slice e)=>match x with
   | .nil=>.val (.tup []) st
   | .sl id sz off len _=>match T.inf e,st.obj id with
    |some i,some (.arr false e' s l)=>
     bif zc sz s.sz&&zj 0 i.zero.length&&zc i.zero.length s.sz&&J4 V.one i.zero then
      match Dv s (i.zero.map UI)with
      |some z=>.Hr (decide (off+len≤l.length)) (.tup []) (st.setObj id (.arr false e' s (l.take off++(zl len z++l.drop (off+len)))))
      |none=>.bad
     else .bad
    |_,_=>.bad
   |_=>.bad
  |_=>.bad
 |_,_=>.bad
def Vm(args:List PV)(st:AJ):PO:=
 match args with
 |[.sl id sz off len none]=>bif Hq (st.obj id)then .Hr (decide (0<len)) (.eptr id sz off 0) st else .bad
 |_=>.bad
def Vg(l:List Int):List UInt8:=l.map fun x=>UInt8.ofNat x.toNat
def Qk(l:List Int):Bool:=l.all fun x=>decide (0≤x)&&decide (x<256)
def Z8(T:BR)(ts:List TypeId)(args:List PV)(st:AJ):PO:=
 match ts,args with
 |[pt,_],[.eptr id _ i 0,.dat (.int .i64) n]=>match T.und pt,st.obj id with
  |some (.pointer e),some (.arr false e' s l)=>match T.inf e,D4 (.list s) (.list (.int .u8)) l with
   |some ti,some bs=>bif zc ti.size 1&&zc e e' then
     .Hr (decide (i=0)&&decide (0<(n:Int))&&decide (ze n≤(bs:List Int).length)&&decide (ze n≤9223372036854775807)&&Qk bs) (.dat .str (Vg ((bs:List Int).take (ze n)))) (st.OH id)
    else .bad
   |_,_=>.bad
  |_,_=>.bad
 |_,_=>.bad
def HR(T:BR)(b:Builtin)(ts:Array TypeId)(args:List PV)(st:AJ):PO:=
 match b with
 | .len=>jR T ts args st
 | .append=>QS T ts args st
 | .max=>MA imax args st
 | .min=>MA Eg args st
 | .clear=>UD T ts args st
 | .unsafeSliceData=>Vm args st
 | .unsafeString=>Z8 T ts.toList args st
 |_=>.bad
def rune(s:List UInt8)(pos:Nat):Int:=(Utf8.decode (bytesOf s) pos).1
def oO(s:List UInt8)(pos:Nat):Nat:=(Utf8.decode (bytesOf s) pos).2
def VZ(T:BR)(t:TypeId)(x:PV)(st:AJ):PO:=
 match T.und t,x with
 |some .string,.dat .str s=>.val (.ptr st.nx 0) (st.push (.siter s 0))
 |_,_=>.bad
def Zz(x:PV)(isStr:Bool)(st:AJ):PO:=
 match x,isStr with
 | .ptr id 0,true=>match st.obj id with
  |some (.siter s pos)=>.ite (decide (pos<s.length)) (.val (.tup [.bl true,.dat (.int .i64) (Int.ofNat pos),.dat (.int .i32) (rune s pos)]) (st.setObj id (.siter s (zg pos (oO s pos))))) (.val (.tup [.bl false]) st)
  |_=>.bad
 |_,_=>.bad
def P5(st:AJ)(place:Nat→Option (Nat×Nat))(cells:List PV):List (Nat×PV)→Option (List PV)
 |[]=>some cells
 |(i,v)::rest=>match place i with
  |none=>none
  |some (off,size)=>match sZ st v with
   |some vs=>bif zc (Dk vs) size&&zm (zg off size) (Dk cells)then P5 st place (Ci off vs cells) rest else none
   |none=>none
def Vh(T:BR)(st:AJ)(t:TypeId)(parts:List (Nat×PV)):Option PV:=
 match T.inf t,T.und t with
 |some i,some (.struct fs)=>
  match fs.toList.mapM (fun f=>(T.inf f.type).map fun j=>(f.offset,j.size))with
  |some pl=>(P5 st (fun i=>pl[i]?) (i.zero.map UI) parts).map .agg
  |none=>none
 |some i,some (.array _ e)=>match T.inf e with
  |some j=>(P5 st (fun i=>some (i*j.size,j.size)) (i.zero.map UI) parts).map .agg
  |none=>none
 |_,_=>none
def Jw(z:List PV):Nat→List PV
 |0=>[]
 |n+1=>z++Jw z n
def CO(st:AJ):PV→Option (Bool×PV)
 | .sl id sz off len _=>match st.obj id with
  |some (.arr _ _ s l)=>bif zc sz s.sz then some (decide (off+len≤l.length),.dat (.list s) ((l.drop off).take len))else none
  |_=>none
 | .dat s x=>some (true,.dat s x)
 | .bl b=>some (true,.bl b)
 | .nil=>some (true,.nil)
 |_=>none
def EZ(st:AJ):List PV→Option (Bool×List PV)
 |[]=>some (true,[])
 |v::vs=>match CO st v,EZ st vs with
  |some (c,x),some (d,xs)=>some (c&&d,x::xs)
  |_,_=>none
def Bv(st:AJ):PV→AJ
 | .sl id _ _ _ _=>match st.obj id with
  |some (.arr _ e s l)=>st.setObj id (.arr true e s l)
  |_=>st
 |_=>st
def Bm:List PV→AJ→AJ
 |[],st=>st
 |v::vs,st=>Bm vs (Bv st v)
def QW(T:BR)(t:TypeId)(len:Nat)(parts:List (Nat×PV))(st:AJ):PO:=
 match T.und t with
 |some (.slice e)=>match T.inf e,Ux T 9 e with
  |some i,some s=>
   bif zm (zn len i.size) 16777216&&zj 0 i.zero.length&&zc i.zero.length i.size&&zc i.size s.sz then
    match P5 st (fun k=>some (k*i.size,i.size)) (Jw (i.zero.map UI) len) parts with
    |some cs=>match chunk s len cs with
     |some l=>.val (.sl st.nx s.sz 0 len none) (st.push (.arr false e s l))
     |none=>match EZ st cs with
      |some (c,cs')=>match chunk s len cs' with
       |some l=>.Hr c (.sl st.nx s.sz 0 len none) ((Bm cs st).push (.arr false e s l))
       |none=>.bad
      |none=>.bad
    |none=>.bad
   else .bad
  |_,_=>.bad
 |_=>.bad
def eG(T:BR)(t:TypeId)(l c:PV)(st:AJ):PO:=
 match T.und t,l,c with
 |some (.slice e),.dat (.int _) l,.dat (.int _) c=>match T.inf e,Ux T 9 e with
  |some i,some s=>
   bif zj 0 i.zero.length&&zc i.zero.length i.size&&zc i.size s.sz then
    match Dv s (i.zero.map UI)with
    |some z=>.Hr (decide (0≤(l:Int))&&decide ((l:Int)=(c:Int))&&decide (i.bytes*ze l≤sX)&&decide ((l:Int)<9223372036854775808)) (.sl st.nx s.sz 0 (ze l) none) (st.push (.arr false e s (zl (ze l) z)))
    |none=>.bad
   else .bad
  |_,_=>.bad
 |_,_,_=>.bad
def kB(T:BR)(t:TypeId):Option Sh:=match T.und t with
 |some (.int k)=>some (.int k)
 |some .string=>some .str
 |some .bool=>some .bool
 |_=>none
def LC:PV→Bool
 | .agg _=>true
 |_=>false
def wZ(s:Sh)(p:PV):Option s.T:=bif LC p==s.Pu then Dv s p.cells else none
def Uu(T:BR)(t:TypeId)(st:AJ):PO:=match T.und t with
 |some (.map kt e)=>match kB T kt,Ux T 9 e with
  |some ks,some vs=>.val (.mp st.nx) (st.push (.map ks vs []))
  |_,_=>.bad
 |_=>.bad
def Zi(st:AJ)(ks vs:Sh)(m:PV):Option (List (ks.T×vs.T)):=match m with
 | .nilm=>some []
 | .mp id=>match st.obj id with
  |some (.map ks' vs' l)=>D4 (.list (.pair ks' vs')) (.list (.pair ks vs)) l
  |_=>none
 |_=>none
def vO:V→Bool
 | .agg _=>true
 |_=>false
def vL(ks vs:Sh)(ok:Bool)(z:vs.T)(x:ks.T)(st:AJ):List (ks.T×vs.T)→PO
 |[]=>.val (bif ok then .tup [B3 vs z,.bl false]else B3 vs z) st
 |(a,b)::l=>.ite (oQ ks x a) (.val (bif ok then .tup [B3 vs b,.bl true]else B3 vs b) st) (vL ks vs ok z x st l)
def Rk(T:BR)(t:TypeId)(m k:PV)(ok:Bool)(st:AJ):PO:=match T.und t with
 |some (.map kt e)=>match kB T kt,Ux T 9 e,T.inf e with
  |some ks,some vs,some i=>match oT ks k,Zi st ks vs m,Dv vs (i.zero.map UI)with
   |some x,some l,some z=>
    bif vO i.zv==vs.Pu then bif vs.kH then vL ks vs ok z x st l else
     (let v:=B3 vs ((KJ ks vs x l).getD z)
     .val (bif ok then .tup [v,.dat .bool (KJ ks vs x l).isSome]else v) st)
    else .bad
   |_,_,_=>.bad
  |_,_,_=>.bad
 |_=>.bad
def Ry(T:BR)(t:TypeId)(m k v:PV)(st:AJ):PO:=match T.und t,m with
 |some (.map kt _),.mp id=>match kB T kt,st.obj id with
  |some ks,some (.map ks' vs l)=>match oT ks k,D4 (.list (.pair ks' vs)) (.list (.pair ks vs)) l,wZ vs v with
   |some x,some l,some y=>.val (.tup []) (st.setObj id (.map ks vs (Qv ks vs x y l)))
   |_,_,_=>.bad
  |_,_=>.bad
 |_,_=>.bad
def RM(T:BR)(ts:Array TypeId)(args:List PV)(st:AJ):PO:=match ts[0]?,args with
 |some t,[.mp id,k]=>match T.und t with
  |some (.map kt _)=>match kB T kt,st.obj id with
   |some ks,some (.map ks' vs l)=>match oT ks k,D4 (.list (.pair ks' vs)) (.list (.pair ks vs)) l with
    |some x,some l=>.val (.tup []) (st.setObj id (.map ks vs (RJ ks vs x l)))
    |_,_=>.bad
   |_,_=>.bad
  |_=>.bad
 |_,_=>.bad
abbrev Kc:=BR→AJ→PO
def v1(st:AJ)(x:Operand)(k:PV→PO):PO:=match Ps st x with|some v=>k v|none=>.bad
def VG(x:Operand):Kc:=fun _ st=>ov st (Ps st x)
def eU(c a b:Operand):Kc:=fun _ st=>v1 st c fun c=>v1 st a fun a=>v1 st b fun b=>aT c a b st
def oD(T:BR)(t:TypeId):Bool:=
 match T.und t with
 |some (.struct fs)=>match fs[0]? with
  |some f=>match T.und f.type with
   |some (.pointer u)=>zc u t
   |_=>false
  |none=>false
 |_=>false
def Rv(t:TypeId):Kc:=fun T st=>match rX T t with
 |some (s,n)=>.val (.ptr st.nx 0) (st.push (.arr false t s (zl n s.GY)))
 |none=>match fW T t with|some cs=>.val (.ptr st.nx 0) (st.push (bif oD T t then .tbox t cs else .box cs))|none=>.bad
def oK(_:TypeId)(x:Operand):Kc:=fun _ st=>v1 st x fun v=>match sZ st v with|some cs=>bif J4 (I1 st) cs then .val (.ptr st.nx 0) (st.push (.box cs))else .bad|none=>.bad
def Wl(t:TypeId)(ps:Array (Nat×Operand)):Kc:=fun T st=>match Yd st ps.toList with|some l=>ov st (Vh T st t l)|none=>.bad
def Te(t:TypeId)(n:Nat)(ps:Array (Nat×Operand)):Kc:=fun T st=>match Yd st ps.toList with|some l=>QW T t n l st|none=>.bad
def eN(t:TypeId)(x:Operand):Kc:=fun T st=>v1 st x fun a=>LV T st t a
def Xb(t:TypeId)(x y:Operand):Kc:=fun T st=>v1 st x fun a=>v1 st y fun b=>VD T st t a b
def N5(x:Operand):Kc:=fun _ st=>v1 st x fun a=>match a with| .ptr id _| .eptr id _ _ _=>bif Hq (st.obj id)then .val a st else .bad| .Fo .. =>.val a st|_=>.bad
def nO(T:BR)(op:BinOp)(t:TypeId)(x y:Operand)(a b:PV):Option Bool:=
 match op,a,b,T.und t with
 | .eql,.nili,.nili,some (.interface _)=>bif Xq x||Xq y then some true else none
 | .neq,.nili,.nili,some (.interface _)=>bif Xq x||Xq y then some false else none
 |_,_,_,_=>none
def nM(op:BinOp)(t:TypeId)(x y:Operand)(_:TypeId):Kc:=fun T st=>v1 st x fun a=>v1 st y fun b=>match nO T op t x y a b with|some r=>.val (.bl r) st|none=>pE T op t a b st
def tK(op:UnOp)(_:TypeId)(x:Operand):Kc:=fun _ st=>v1 st x fun a=>xP op a st
def ZY(s d:TypeId)(x:Operand):Kc:=fun T st=>v1 st x fun a=>bC T s d a st
def bL(f:Fn)(a b:Array Operand):Kc:=fun _ st=>match Lr st a.toList,Lr st b.toList with|some x,some y=>.val (.fn f x y) st|_,_=>.bad
def aA(t:TypeId)(l c:Operand):Kc:=fun T st=>v1 st l fun a=>v1 st c fun b=>eG T t a b st
def o1(st:AJ)(x:Option Operand)(k:Option PV→PO):PO:=match x with|none=>k none|some y=>v1 st y fun v=>k (some v)
def W4(t:TypeId)(x:Operand)(a b c:Option Operand):Kc:=fun T st=>v1 st x fun v=>o1 st a fun l=>o1 st b fun h=>o1 st c fun m=>ZN T t v l h m st
def Xc(t:TypeId)(x:Operand)(f:Nat):Kc:=fun T st=>v1 st x fun a=>Vk T t a f st
def XF(t:TypeId)(x:Operand)(f:Nat):Kc:=fun T st=>v1 st x fun a=>UO T t a f st
def WE(t:TypeId)(x i:Operand):Kc:=fun T st=>v1 st x fun a=>v1 st i fun b=>fY T t a b st
def W2(t:TypeId)(x i:Operand):Kc:=fun T st=>v1 st x fun a=>v1 st i fun b=>Vx T t a b st
def PH(x:Operand)(i:Nat):Kc:=fun _ st=>v1 st x fun a=>NI a i st
def QA(c:Call):Kc:=fun T st=>
 match Lr st c.args.toList with
 |none=>.bad
 |some args=>match c.callee with
  | .builtin b=>match b with
   | .delete=>RM T c.argTypes args st
   |_=>HR T b c.argTypes args st
  |_=>.bad
def XE(t:TypeId)(r:Option Operand):Kc:=fun T st=>match r with|none=>Uu T t st|some _=>.bad
def Ti(t:TypeId)(x i:Operand)(ok:Bool):Kc:=fun T st=>v1 st x fun a=>v1 st i fun b=>Rk T t a b ok st
def Oe(t:TypeId)(m k x:Operand):Kc:=fun T st=>v1 st m fun a=>v1 st k fun b=>v1 st x fun c=>Ry T t a b c st
def WB(t:TypeId)(x:Operand):Kc:=fun T st=>v1 st x fun a=>VZ T t a st
def cD(x:Operand)(isStr:Bool):Kc:=fun _ st=>v1 st x fun a=>Zz a isStr st
def IU:Kc:=fun _ _=>.bad
def pop(o:Op):Kc:=@Op.casesOn (fun _=>Kc) o VG VG eU Rv oK Wl Te Oe eN Xb (fun _=>IU) (fun _=>IU) N5 nM tK ZY
 (fun _ _=>IU) (fun _ _=>IU) bL XE (fun _ _=>IU) aA W4 Xc XF WE W2 Ti Oe (fun _ _ _=>IU) (fun _ _ _ _=>IU)
 WB cD (fun _=>IU) (fun _ _ _ _=>IU) PH QA (fun _=>IU) (fun _=>IU) (fun _=>IU) (fun _ _=>IU) (fun _ _ _=>IU) (fun _ _=>IU)
end
end Go.Pe
namespace Go.Sp
end Go.Sp
end
section
namespace Go.Pe
open Go.Det
end Go.Pe
end
section
namespace Go.Det
noncomputable section
abbrev Up:=FuncId→Option (List V→H→Option (V×H))
def Ju(P:Program)(s:Up):Prop:=∀f q,s f=some q→∀(p:Pl) (h:H) (w:World) (args:List V) (args':Array Value) v h',R p h w→Gp p→Ap p args args'.toList→q args h=some (v,h')→
 Calls P f args' w fun e w'=>∃v' p',e=.returned v'∧Ab p' v v'∧Ext p h w p' h' w'
def oS(a b:Up):Up:=fun f=>match a f with
 |some q=>some q
 |none=>b f
variable {P:Program}
theorem K3{a b:Up}(ha:Ju P a)(hb:Ju P b):Ju P (oS a b):=by
 intro f q hq;unfold oS at hq;cases h:a f with
 |some q'=>rw[h]at hq;cases hq;exact ha f _ h
 |none=>rw[h]at hq;exact hb f q hq
def WZ(C:Ctx)(s:Up):Ctx:={ C with spec:=s }
theorem TT{C:Ctx}(hC:C.Ok P){s:Up}(h:Ju P s):(WZ C s).Ok P where
 T:=hC.T
 fn:=hC.fn
 prim:=hC.prim
 spec:=h
theorem LW{C:Ctx}(hce:FM C)(s:Up):FM (WZ C s):=hce
theorem Qx{C:Ctx}(hC:C.Ok P)(hce:FM C)(hm:P.follows .mixedOrders=true){n:Nat}{L:Gk}(h:BT C n L=true):Ju P (FY L):=lW (C':=C) hC hce hm h
theorem Cy{C:Ctx}{n:Nat}:∀ {a b:Gk},BT C n a=true→BT C n b=true→BT C n (a++b)=true
 |[],b,_,h=>h
 |(f,x,v)::a,b,h,k=>by
  simp only[BT,List.cons_append,Bool.and_eq_true]at h ⊢;exact⟨h.1,Cy h.2 k⟩
def QL(C:Ctx)(n:Nat)(L:Gk):Up:=fun f=>match FY L f with
 |none=>none
 |some q=>some fun args h=>match q args h with
  |some x=>some x
  |none=>match Bf C n (.fn f args) h with
   |some [x]=>some x
   |_=>none
theorem XV{C:Ctx}(hC:C.Ok P)(hce:FM C)(hm:P.follows .mixedOrders=true){n k:Nat}{L:Gk}(ha:BT C k L=true):Ju P (QL C n L):=by
 intro f q hq p h w args args' v h' hr hg hargs hqr;unfold QL at hq;cases hL:FY L f with
 |none=>rw[hL]at hq;cases hq
 |some q0=>
  rw[hL]at hq;cases hq;simp only at hqr;split at hqr
  case h_1=>rename_i x hx;cases hqr;exact Qx hC hce hm ha f q0 hL p h w args args' v h' hr hg hargs hx
  case h_2=>
   split at hqr
   case h_2=>cases hqr
   rename_i x he;cases hqr;refine((HE hC hce hm n).fn f args h _ he p w args' hr hg hargs).mono ?_;rintro e w' ⟨v1,h1,v',p',hmem,rfl,k1,k2⟩;cases List.mem_singleton.1 hmem;exact⟨v',p',rfl,k1,k2⟩
theorem IL{p:Pl}{h:H}{w w':World}(hr:R p h w)(hb:Go.RowKit.Below w.heap.size w w'):Ext p h w p h w':=by
 obtain⟨h1,h2,h3,h4,h5⟩:=hb;refine⟨⟨[],by simp⟩,⟨hr.len,fun b o hb=>?_,hr.inj⟩,h4,fun r hlt _=>h5 r hlt,fun r hi=>.inl hi,h1,h3,h2,fun r hlt hl=>⟨h5 r hlt,.inl hl⟩⟩;obtain⟨r,m,y,g1,g2,g3⟩:=hr.obj b o hb;exact⟨r,m,y,g1,by rw[h5 r (Array.getElem?_eq_some_iff.1 g2).1];exact g2,g3⟩
end
end Go.Det
end
