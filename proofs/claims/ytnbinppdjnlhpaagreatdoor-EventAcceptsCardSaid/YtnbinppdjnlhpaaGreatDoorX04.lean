import Derived.Test.YtnbinppdjnlhpaaGreatDoorX03
/- A part of a proof (no law is stated here). Made by program out of texts by AI agents. -/
open Nat renaming beq → zc, add → zf, ble → zj, blt → zk, mul → zl
open Int renaming toNat → zd
open BitVec renaming ofInt → ze
open Go.Op renaming bytesLess → zg
open List renaming replicate → zh
open Go.Utf8 renaming decode → zi
section
namespace Go.Pe
open Go.Det
noncomputable section
mutual
def Kv:Value→Option PV
 | .bool b=>some (.bl b)
 | .int k n=>some (.dat (.int k) n)
 | .string s=>some (.dat .str s.data.toList)
 | .pointer none=>some .nilp
 | .slice none 0 0=>some .nil
 | .map none=>some .nilm
 | .nilFunc=>some .nilf
 | .nilIface=>some .nili
 | .func f ⟨[]⟩ ⟨[]⟩=>some (.fn f [] [])
 | .agg ⟨cs⟩=>(Vc cs).map .agg
 | .tuple ⟨cs⟩=>(Vc cs).map .tup
 |_=>none
def Vc:List Value→Option (List PV)
 |[]=>some []
 |v::vs=>match Kv v,Vc vs with
  |some x,some xs=>some (x::xs)
  |_,_=>none
end
def T4:V→PV
 | .bool b=>.bl b
 | .int k n=>.dat (.int k) n
 | .str s=>.dat .str s
 | .nilp=>.nilp
 | .nils=>.nil
 | .nilm=>.nilm
 | .nilf=>.nilf
 | .nili=>.nili
 |_=>.any
def NV(st:AF):Operand→Option PV
 | .tmp t=>some (st.get t)
 | .const v=>Kv v
 | .global _=>none
 | .func f=>some (.fn (.func f) [] [])
def Ky(st:AF):List Operand→Option (List PV)
 |[]=>some []
 |x::xs=>match NV st x,Ky st xs with
  |some v,some vs=>some (v::vs)
  |_,_=>none
def UK(st:AF):List (Nat×Operand)→Option (List (Nat×PV))
 |[]=>some []
 |(i,x)::xs=>match NV st x,UK st xs with
  |some v,some vs=>some ((i,v)::vs)
  |_,_=>none
def Xk(T:BU)(t:TypeId):Option (List PV):=(T.inf t).bind fun i=>bif I9 V.ok i.zero then some (i.zero.map T4)else none
def pick(d:TypeDesc)(n:Nat)(cs:List PV):Option PV:=
 bif Dk d then(bif zj n (GN cs)&&zk 0 n then some (.agg (Uk n cs))else none)
 else match cs with
  |v::_=>some v
  |[]=>none
def ov(st:AF):Option PV→PO
 |some v=>.val v st
 |none=>.bad
def fW(c:Bool)(st:AF):Option PV→PO
 |some v=>.Hz c v st
 |none=>.bad
def chunk(s:Sh):Nat→List PV→Option (List s.T)
 |0,_=>some []
 |n+1,cs=>match B3 s cs with
  |some (x,cs')=>(chunk s n cs').map (x:: ·)
  |none=>none
def MN(s:Sh)(l:List s.T):Nat→Nat→List PV
 |_,0=>[]
 |j,n+1=>flat s (l.getD j s.Gj)++MN s l (zf j 1) n
def kL:List V→Option Sh
 | .bool _::_=>some .bool
 | .int k _::_=>some (.int k)
 |_=>none
def gA:Sh→V→Bool
 | .bool,.bool b=> !b
 | .int k,.int k' n=>decide (k=k')&&decide (n=0)
 |_,_=>false
def dI(T:BU)(t:TypeId):Option (Sh×Nat):=
 match T.und t,T.inf t with
 |some (.array _ _),some i=>match kL i.zero with
  |some s=>bif zj 32 (GN i.zero)&&I9 (gA s) i.zero then some (s,GN i.zero)else none
  |none=>none
 |_,_=>none
def Kk(T:BU)(st:AF)(t:TypeId)(a:PV):PO:=
 match T.und t,T.inf t with
 |some d,some i=>match a with
  | .ptr id off=>match st.obj id with
   |some (.box cs)=>ov st (pick d i.size (Jm off cs))
   |some (.arr _ _ s l)=>bif zc off 0&&zc s.sz 1 then fW (decide (l.length=i.size)) st (pick d i.size (MN s l 0 i.size))else .bad
   |_=>.bad
  | .eptr id sz j off=>match st.obj id with
   |some (.arr _ _ s l)=>bif zc sz s.sz then fW (decide (j<l.length)) st (pick d i.size (Jm off (flat s (l.getD j s.Gj))))else .bad
   |_=>.bad
  | .dptr s x off=>ov st (pick d i.size (Jm off (flat s x)))
  |_=>.bad
 |_,_=>.bad
def KN:Option Obj→Bool
 |some _=>true
 |none=>false
def Ie(st:AF):PV→Bool
 | .agg _| .tup _| .any| .ub=>false
 | .ptr id _| .eptr id _ _ _| .sl id _ _ _ _| .mp id| .yl id=>KN (st.obj id)
 |_=>true
def fX(st:AF):PV→Option (List PV)
 | .agg l=>some l
 |p=>bif Ie st p then some [p]else none
def RE(T:BU)(st:AF)(t:TypeId)(a x:PV):PO:=
 match T.inf t,fX st x with
 |some i,some xs=>bif zc (GN xs) i.size&&I9 (Ie st) xs then
   match a with
   | .ptr id off=>match st.obj id with
    |some (.box cs)=>bif zj (zf off i.size) (GN cs)then .val (.tup []) (st.setObj id (.box (Ce off xs cs)))else .bad
    |some (.arr false e s l)=>bif zc off 0&&zc s.sz 1 then
      match chunk s i.size xs with
      |some y=>.Hz (decide (l.length=i.size)) (.tup []) (st.setObj id (.arr false e s y))
      |none=>.bad
     else .bad
    |_=>.bad
   | .eptr id sz j off=>match st.obj id with
    |some (.arr false e s l)=>bif zc sz s.sz&&zj (zf off i.size) sz then
      match Cg s (Ce off xs (flat s (l.getD j s.Gj)))with
      |some y=>.Hz (decide (j<l.length)) (.tup []) (st.setObj id (.arr false e s (l.set j y)))
      |none=>.bad
     else .bad
    |_=>.bad
   |_=>.bad
  else .bad
 |_,_=>.bad
def Gq(k:IntKind)(a b:Int):Int:=k.wrap (ze k.bits a&&&ze k.bits b).toNat
def U9(k:IntKind)(a b:Int):Int:=k.wrap (ze k.bits a|||ze k.bits b).toNat
def kH(k:IntKind)(a b:Int):Int:=k.wrap (ze k.bits a^^^ze k.bits b).toNat
def gT(k:IntKind)(a b:Int):Int:=k.wrap (ze k.bits a&&& ~~~ze k.bits b).toNat
def cU(op:BinOp)(k:IntKind)(a b:Int)(st:AF):PO:=
 match op with
 | .add=>.val (.dat (.int k) (k.wrap (a+b))) st
 | .sub=>.val (.dat (.int k) (k.wrap (a-b))) st
 | .mul=>.val (.dat (.int k) (k.wrap (a*b))) st
 | .quo=>.Hz (decide (b≠0)) (.dat (.int k) (k.wrap (a.tdiv b))) st
 | .rem=>.Hz (decide (b≠0)) (.dat (.int k) (a.tmod b)) st
 | .and=>.val (.dat (.int k) (Gq k a b)) st
 | .or=>.val (.dat (.int k) (U9 k a b)) st
 | .xor=>.val (.dat (.int k) (kH k a b)) st
 | .andNot=>.val (.dat (.int k) (gT k a b)) st
 | .eql=>.val (.dat .bool (a==b)) st
 | .neq=>.val (.dat .bool (a !=b)) st
 | .lss=>.val (.dat .bool (decide (a<b))) st
 | .leq=>.val (.dat .bool (decide (a≤b))) st
 | .gtr=>.val (.dat .bool (decide (a>b))) st
 | .geq=>.val (.dat .bool (decide (a≥b))) st
 |_=>.bad
def jR(op:BinOp)(k:IntKind)(a b:Int)(st:AF):PO:=
 match op with
 | .shl=>.Hz (decide (0≤b)) (.dat (.int k) (k.wrap (a*2^(min b.toNat k.bits)))) st
 | .shr=>.Hz (decide (0≤b)) (.dat (.int k) (a.fdiv (2^(min b.toNat k.bits)))) st
 |_=>.bad
def dV(op:BinOp)(x y:List UInt8)(st:AF):PO:=
 match op with
 | .add=>.Hz (decide (x.length+y.length≤4611686018427387904)) (.dat .str (x++y)) st
 | .eql=>.val (.dat .bool (x==y)) st
 | .neq=>.val (.dat .bool (!(x==y))) st
 | .lss=>.val (.dat .bool (zg x y)) st
 | .leq=>.val (.dat .bool (zg x y||x==y)) st
 | .gtr=>.val (.dat .bool (!(zg x y||x==y))) st
 | .geq=>.val (.dat .bool (!zg x y)) st
 |_=>.bad
def ZO:BinOp→Bool
 | .shl| .shr=>true
 |_=>false
def HG:PV→Option Bool
 | .bl b=>some b
 | .dat .bool b=>some b
 |_=>none
def FJ:List FK→List PV→List PV→Option Bool
 |[],[],[]=>some true
 | .int k::ks,.dat (.int k1) a::xs,.dat (.int k2) b::ys=>bif k==k1&&k==k2 then(FJ ks xs ys).map fun r=>(a:Int)==(b:Int)&&r else none
 | .str::ks,.dat .str a::xs,.dat .str b::ys=>(FJ ks xs ys).map fun r=>(a:List UInt8)==(b:List UInt8)&&r
 | .bool::ks,a::xs,b::ys=>match HG a,HG b with
  |some a,some b=>(FJ ks xs ys).map fun r=>a==b&&r
  |_,_=>none
 |_,_,_=>none
def Pa(st:AF)(ng:Bool)(x:PV):PO:=
 match x with
 | .nil=>.val (.bl (!ng)) st
 | .sl id _ _ _ _=>bif KN (st.obj id)then .val (.bl ng) st else .bad
 | .dat (.list _) l=>.ite (decide (0<l.length)) (.val (.bl ng) st) (.val .ub st)
 | .dat (.nlist _) l=>.val (.dat .bool (bif ng then decide (0<l.length)else !decide (0<l.length))) st
 |_=>.bad
def XH(op:BinOp)(x y:PV)(st:AF):PO:=
 match op,x,y with
 | .eql,x,.nil=>Pa st false x
 | .neq,x,.nil=>Pa st true x
 |_,_,_=>.bad
def eK(T:BU)(op:BinOp)(t:TypeId)(x y:PV)(st:AF):PO:=
 match x,y with
 | .dat (.int k) a,.dat (.int k') b=>bif ZO op then jR op k a b st else(bif k==k' then cU op k a b st else .bad)
 | .dat .str a,.dat .str b=>dV op a b st
 | .agg xs,.agg ys=>match T.flat t with
  |some ks=>match op,FJ ks xs ys with
   | .eql,some r=>.val (.dat .bool r) st
   | .neq,some r=>.val (.dat .bool (!r)) st
   |_,_=>.bad
  |none=>.bad
 |x,y=>match HG x,HG y,T.und t with
  |some a,some b,some .bool=>match op with
   | .eql=>.val (.dat .bool (a==b)) st
   | .neq=>.val (.dat .bool (!(a==b))) st
   |_=>.bad
  |_,_,some (.slice _)=>XH op x y st
  |_,_,_=>.bad
def jU(op:UnOp)(x:PV)(st:AF):PO:=
 match op,x with
 | .neg,.dat (.int k) n=>.val (.dat (.int k) (k.wrap (0-(n:Int)))) st
 | .not,.bl b=>.val (.bl (!b)) st
 | .not,.ub=>.val .ub st
 | .not,.dat .bool b=>.val (.dat .bool (!b)) st
 |_,_=>.bad
def Xe(T:BU)(s d:TypeId)(x:PV)(st:AF):PO:=
 match T.und s,T.und d,x with
 |some _,some (.int k),.dat (.int _) n=>.val (.dat (.int k) (k.wrap n)) st
 |some .string,some .string,.dat .str s=>.val (.dat .str s) st
 |_,_,_=>.bad
def Wq(c a b:PV)(st:AF):PO:=
 match c with
 | .bl t=>.val (bif t then a else b) st
 | .dat .bool t=>match a,b with
  | .dat .bool x,.bl false=>.val (.dat .bool (t&&x)) st
  | .bl true,.dat .bool x=>.val (.dat .bool (t||x)) st
  |_,_=>.ite t (.val a st) (.val b st)
 |_=>.bad
def RX(T:BU)(t:TypeId)(x:PV)(f:Nat)(st:AF):PO:=
 match T.und t,x with
 |some (.struct fs),.agg cs=>match fs[f]? with
  |some fd=>match T.und fd.type,T.inf fd.type with
   |some d,some i=>ov st (pick d i.size (Jm fd.offset cs))
   |_,_=>.bad
  |none=>.bad
 |_,_=>.bad
def Sy(T:BU)(t:TypeId)(x:PV)(f:Nat)(st:AF):PO:=
 match T.und t with
 |some (.struct fs)=>match fs[f]? with
  |some fd=>match T.inf fd.type with
   |some i=>bif zc i.size 0 then .bad else match x with
    | .ptr id off=>bif KN (st.obj id)then .val (.ptr id (zf off fd.offset)) st else .bad
    | .eptr id sz j off=>bif KN (st.obj id)then .val (.eptr id sz j (zf off fd.offset)) st else .bad
    | .dptr s y off=>.val (.dptr s y (zf off fd.offset)) st
    |_=>.bad
   |none=>.bad
  |none=>.bad
 |_=>.bad
def OG(T:BU)(t:TypeId)(x ix:PV)(st:AF):PO:=
 match T.und t,ix with
 |some (.slice e),.dat (.int _) i=>match T.inf e with
  |some ti=>match x with
   | .dat (.list s) l=>bif zc ti.size s.sz then .Hz (decide (0≤(i:Int))&&decide ((i:Int)<(l.length:Int))) (.dptr s (l.getD (zd i) s.Gj) 0) st else .bad
   | .sl id sz off len _=>bif zc ti.size sz&&KN (st.obj id)then .Hz (decide (0≤(i:Int))&&decide ((i:Int)<(len:Int))) (.eptr id sz (zf (zd i) off) 0) st else .bad
   |_=>.bad
  |none=>.bad
 |some (.array len e),.dat (.int _) i=>match T.inf e with
  |some ti=>match x with
   | .ptr id off=>match st.obj id with
    |some (.arr _ _ s _)=>bif zc off 0&&zc ti.size s.sz then .Hz (decide (0≤(i:Int))&&decide ((i:Int)<(len:Int))) (.eptr id s.sz (zd i) 0) st else .bad
    |some _=>.Hz (decide (0≤(i:Int))&&decide ((i:Int)<(len:Int))) (.ptr id (zf off (zl (zd i) ti.size))) st
    |none=>.bad
   | .eptr id sz j off=>bif KN (st.obj id)then .Hz (decide (0≤(i:Int))&&decide ((i:Int)<(len:Int))) (.eptr id sz j (zf off (zl (zd i) ti.size))) st else .bad
   | .dptr s y off=>.Hz (decide (0≤(i:Int))&&decide ((i:Int)<(len:Int))) (.dptr s y (zf off (zl (zd i) ti.size))) st
   |_=>.bad
  |none=>.bad
 |_,_=>.bad
def Yc(T:BU)(t:TypeId)(x ix:PV)(st:AF):PO:=OG T t (lz x) ix st
def RA(T:BU)(t:TypeId)(x ix:PV)(st:AF):PO:=
 match T.und t,x,ix with
 |some .string,.dat .str s,.dat (.int _) i=>.Hz (decide (0≤(i:Int))&&decide ((i:Int)<((s:List UInt8).length:Int))) (.dat (.int .u8) (((s:List UInt8).getD (zd i) 0).toNat:Int)) st
 |some (.array len e),.agg cs,.dat (.int _) i=>match T.und e,T.inf e with
  |some d,some ti=>fW (decide (0≤(i:Int))&&decide ((i:Int)<(len:Int))) st (pick d ti.size (Jm (zl (zd i) ti.size) cs))
  |_,_=>.bad
 |_,_,_=>.bad
def Nb(x:PV)(i:Nat)(st:AF):PO:=
 match x with
 | .tup vs=>match vs[i]? with
  |some v=>.val v st
  |none=>.bad
 |_=>.bad
def pb(x:Option PV)(Gj:Nat):Option (Bool×Nat):=
 match x with
 |none=>some (true,Gj)
 |some (.dat (.int _) n)=>some (decide (0≤(n:Int)),zd n)
 |_=>none
def has(mx:Option PV)(c:Nat):Bool:=match mx with
 |none=>true
 |some _=>decide (0<c)
def Pu(T:BU)(t:TypeId)(x:PV)(lo hi mx:Option PV)(st:AF):PO:=
 match T.und t with
 |some .string=>match x,mx with
  | .dat .str s,none=>match pb lo 0,pb hi (s:List UInt8).length with
   |some (c1,l),some (c2,h)=>.Hz (c1&&c2&&decide (l≤h)&&decide (h≤(s:List UInt8).length)) (.dat .str (((s:List UInt8).drop l).take (Nat.sub h l))) st
   |_,_=>.bad
  |_,_=>.bad
 |some (.slice e)=>match T.inf e with
  |some ti=>match x with
   | .dat (.list s) xs=>bif zc ti.size s.sz then
     match pb lo 0,pb hi xs.length,mx with
     |some (c1,l),some (c2,h),none=>.Hz (c1&&c2&&decide (l≤h)&&decide (h≤xs.length)) (.dat (.list s) ((xs.drop l).take (Nat.sub h l))) st
     |_,_,_=>.bad
    else .bad
   | .sl id sz off len cap=>bif zc ti.size sz&&KN (st.obj id)then
     match hi,mx with
     |none,some _=>.bad
     |_,_=>match pb lo 0,pb hi len,pb mx (cap.getD len)with
      |some (c1,l),some (c2,h),some (c3,m)=>.Hz (c1&&c2&&c3&&decide (l≤h)&&decide (h≤m)&&decide (m≤cap.getD len)&&has mx (cap.getD len)) (.sl id sz (zf off l) (Nat.sub h l) (some (Nat.sub m l))) st
      |_,_,_=>.bad
    else .bad
   | .nil=>match pb lo 0,pb hi 0,mx with
    |some (c1,l),some (c2,h),none=>.Hz (c1&&c2&&decide (l≤h)&&decide (h≤0)) .nil st
    |some (c1,l),some (c2,h),some q=>match hi,pb (some q) 0 with
     |some _,some (c3,m)=>.Hz (c1&&c2&&c3&&decide (l≤h)&&decide (h≤m)&&decide (m≤0)) .nil st
     |_,_=>.bad
    |_,_,_=>.bad
   |_=>.bad
  |none=>.bad
 |_=>.bad
def Xw(T:BU)(t:TypeId)(x:PV)(lo hi mx:Option PV)(st:AF):PO:=Pu T t (lz x) lo hi mx st
def pi64(n:Nat):PV:=.dat (.int .i64) (Int.ofNat n)
def P8(T:BU)(ts:Array TypeId)(args:List PV)(st:AF):PO:=
 match ts[0]?,args with
 |some t,[x]=>match T.und t,x with
  |some .string,.dat .str s=>.val (pi64 (s:List UInt8).length) st
  |some (.slice _),.dat (.list _) l=>.val (pi64 l.length) st
  |some (.slice _),.sl id _ _ len _=>bif KN (st.obj id)then .val (pi64 len) st else .bad
  |some (.slice _),.nil=>.val (pi64 0) st
  |some (.map _ _),.mp id=>match st.obj id with
   |some (.map _ _ l)=>.val (pi64 l.length) st
   |_=>.bad
  |_,_=>.bad
 |_,_=>.bad
def ZV(T:BU)(ts:Array TypeId)(args:List PV)(st:AF):PO:=P8 T ts (args.map lz) st
def gV(f:Int→Int→Int)(k:IntKind):Int→List PV→Option Int
 |x,[]=>some x
 |x,.dat (.int k') y::ys=>bif k==k' then gV f k (f x y) ys else none
 |_,_=>none
def KP(f:Int→Int→Int)(args:List PV)(st:AF):PO:=
 match args with
 | .dat (.int k) x::ys=>match gV f k x ys with
  |some z=>.val (.dat (.int k) z) st
  |none=>.bad
 |_=>.bad
def imax(x y:Int):Int:=if y>x then y else x
def Cs(x y:Int):Int:=if y<x then y else x
def KR(st:AF)(s:Sh)(x:PV):Option (Bool×List s.T):=
 match x with
 | .nil=>some (true,[])
 | .dat (.list s') l=>(DR (.list s') (.list s) l).map fun r=>(true,r)
 | .sl id sz off len _=>match st.obj id with
  |some (.arr _ _ s' l)=>bif zc sz s'.sz then(DR (.list s') (.list s) l).map fun r=>(decide (off+len≤r.length),(r.drop off).take len)else none
  |_=>none
 |_=>none
def Lb(st:AF)(s:Sh)(x:PV):Option (Bool×List s.T):=KR st s (lz x)
def fQ:Nat:=281474976710656
def OL(T:BU)(ts:Array TypeId)(args:List PV)(st:AF):PO:=
 match ts[0]?,ts[1]?,args with
 |some t,some tx,[b,x]=>match T.und t,T.und tx with
  |some (.slice e),some (.slice _)=>match T.inf e,R8 T 9 e with
   |some i,some s=>
    bif zk 0 i.bytes&&zk 0 i.size&&zc i.zero.length i.size&&zc i.size s.sz then
     match Lb st s x with
     |some (c,new)=>match b with
      | .nil=>match x with
       | .nil=>.val .nil st
       | .dat _ _=>.ite (decide (0<new.length)) (.Hz (c&&decide ((2*new.length+1000)*i.bytes≤fQ)) (.sl st.nx s.sz 0 new.length none) (st.push (.arr false e s new))) (.val .nil st)
       | .sl _ _ _ _ (some _)=>.ite (decide (0<new.length)) (.Hz (c&&decide ((2*new.length+1000)*i.bytes≤fQ)) (.sl st.nx s.sz 0 new.length none) (st.push (.arr false e s new))) (.Hz c .nil st)
       |_=>.Hz (c&&decide (0<new.length)&&decide ((2*new.length+1000)*i.bytes≤fQ)) (.sl st.nx s.sz 0 new.length none) (st.push (.arr false e s new))
      | .sl id sz off len cap=>match st.obj id with
       |some (.arr false e' s' l)=>match DR (.list s') (.list s) l with
        |some l'=>bif zc e e'&&zc sz s.sz then
          match cap with
          |none=>.Hz (c&&decide (off=0)&&decide (len=l'.length)&&decide ((2*(len+new.length)+1000)*i.bytes≤fQ)) (.sl st.nx s.sz 0 (zf len new.length) none) ((st.OC id).push (.arr false e s (l'++new)))
          |some k=>.Hz (c&&decide (len+new.length≤k)&&decide (off+k≤l'.length)) (.sl id sz off (zf len new.length) (some k)) (st.setObj id (.arr false e s (l'.take (off+len)++(new++l'.drop (off+len+new.length)))))
         else .bad
        |none=>.bad
       |_=>.bad
      |_=>.bad
     |none=>.bad
    else .bad
   |_,_=>.bad
  |_,_=>.bad
 |_,_,_=>.bad
def S1(T:BU)(ts:Array TypeId)(args:List PV)(st:AF):PO:=
 match ts[0]?,args with
 |some t,[x]=>match T.und t with
  |some (.slice e)=>match x with
   | .nil=>.val (.tup []) st
   | .sl id sz off len _=>match T.inf e,st.obj id with
    |some i,some (.arr false e' s l)=>
     bif zc sz s.sz&&zk 0 i.zero.length&&zc i.zero.length s.sz&&I9 V.one i.zero then
      match Cg s (i.zero.map T4)with
      |some z=>.Hz (decide (off+len≤l.length)) (.tup []) (st.setObj id (.arr false e' s (l.take off++(zh len z++l.drop (off+len)))))
      |none=>.bad
     else .bad
    |_,_=>.bad
   |_=>.bad
  |_=>.bad
 |_,_=>.bad
def He(T:BU)(b:Builtin)(ts:Array TypeId)(args:List PV)(st:AF):PO:=
 match b with
 | .len=>ZV T ts args st
 | .append=>OL T ts args st
 | .max=>KP imax args st
 | .min=>KP Cs args st
 | .clear=>S1 T ts args st
 |_=>.bad
def rune(s:List UInt8)(pos:Nat):Int:=(zi (bytesOf s) pos).1
def Ic(s:List UInt8)(pos:Nat):Nat:=(zi (bytesOf s) pos).2
def Sj(T:BU)(t:TypeId)(x:PV)(st:AF):PO:=
 match T.und t,x with
 |some .string,.dat .str s=>.val (.ptr st.nx 0) (st.push (.siter s 0))
 |_,_=>.bad
def VN(x:PV)(isStr:Bool)(st:AF):PO:=
 match x,isStr with
 | .ptr id 0,true=>match st.obj id with
  |some (.siter s pos)=>.ite (decide (pos<s.length)) (.val (.tup [.bl true,.dat (.int .i64) (Int.ofNat pos),.dat (.int .i32) (rune s pos)]) (st.setObj id (.siter s (zf pos (Ic s pos))))) (.val (.tup [.bl false]) st)
  |_=>.bad
 |_,_=>.bad
def Om(st:AF)(place:Nat→Option (Nat×Nat))(cells:List PV):List (Nat×PV)→Option (List PV)
 |[]=>some cells
 |(i,v)::rest=>match place i with
  |none=>none
  |some (off,size)=>match fX st v with
   |some vs=>bif zc (GN vs) size&&zj (zf off size) (GN cells)then Om st place (Ce off vs cells) rest else none
   |none=>none
def RL(T:BU)(st:AF)(t:TypeId)(parts:List (Nat×PV)):Option PV:=
 match T.inf t,T.und t with
 |some i,some (.struct fs)=>
  match fs.toList.mapM (fun f=>(T.inf f.type).map fun j=>(f.offset,j.size))with
  |some pl=>(Om st (fun i=>pl[i]?) (i.zero.map T4) parts).map .agg
  |none=>none
 |some i,some (.array _ e)=>match T.inf e with
  |some j=>(Om st (fun i=>some (i*j.size,j.size)) (i.zero.map T4) parts).map .agg
  |none=>none
 |_,_=>none
def Iq(z:List PV):Nat→List PV
 |0=>[]
 |n+1=>z++Iq z n
def Ca(st:AF):PV→Option (Bool×PV)
 | .sl id sz off len _=>match st.obj id with
  |some (.arr _ _ s l)=>bif zc sz s.sz then some (decide (off+len≤l.length),.dat (.list s) ((l.drop off).take len))else none
  |_=>none
 | .dat s x=>some (true,.dat s x)
 | .bl b=>some (true,.bl b)
 | .nil=>some (true,.nil)
 |_=>none
def Dl(st:AF):List PV→Option (Bool×List PV)
 |[]=>some (true,[])
 |v::vs=>match Ca st v,Dl st vs with
  |some (c,x),some (d,xs)=>some (c&&d,x::xs)
  |_,_=>none
def Bl(st:AF):PV→AF
 | .sl id _ _ _ _=>match st.obj id with
  |some (.arr _ e s l)=>st.setObj id (.arr true e s l)
  |_=>st
 |_=>st
def Ba:List PV→AF→AF
 |[],st=>st
 |v::vs,st=>Ba vs (Bl st v)
def OJ(T:BU)(t:TypeId)(len:Nat)(parts:List (Nat×PV))(st:AF):PO:=
 match T.und t with
 |some (.slice e)=>match T.inf e,R8 T 9 e with
  |some i,some s=>
   bif zj (zl len i.size) 16777216&&zk 0 i.zero.length&&zc i.zero.length i.size&&zc i.size s.sz then
    match Om st (fun k=>some (k*i.size,i.size)) (Iq (i.zero.map T4) len) parts with
    |some cs=>match chunk s len cs with
     |some l=>.val (.sl st.nx s.sz 0 len none) (st.push (.arr false e s l))
     |none=>match Dl st cs with
      |some (c,cs')=>match chunk s len cs' with
       |some l=>.Hz c (.sl st.nx s.sz 0 len none) ((Ba cs st).push (.arr false e s l))
       |none=>.bad
      |none=>.bad
    |none=>.bad
   else .bad
  |_,_=>.bad
 |_=>.bad
def XV(T:BU)(t:TypeId)(l c:PV)(st:AF):PO:=
 match T.und t,l,c with
 |some (.slice e),.dat (.int _) l,.dat (.int _) c=>match T.inf e,R8 T 9 e with
  |some i,some s=>
   bif zk 0 i.zero.length&&zc i.zero.length i.size&&zc i.size s.sz then
    match Cg s (i.zero.map T4)with
    |some z=>.Hz (decide (0≤(l:Int))&&decide ((l:Int)=(c:Int))&&decide (i.bytes*zd l≤fQ)&&decide ((l:Int)<9223372036854775808)) (.sl st.nx s.sz 0 (zd l) none) (st.push (.arr false e s (zh (zd l) z)))
    |none=>.bad
   else .bad
  |_,_=>.bad
 |_,_,_=>.bad
def YR(T:BU)(t:TypeId):Option Sh:=match T.und t with
 |some (.int k)=>some (.int k)
 |some .string=>some .str
 |some .bool=>some .bool
 |_=>none
def It:PV→Bool
 | .agg _=>true
 |_=>false
def jI(s:Sh)(p:PV):Option s.T:=bif It p==s.MQ then Cg s p.cells else none
def S0(T:BU)(t:TypeId)(st:AF):PO:=match T.und t with
 |some (.map kt e)=>match YR T kt,R8 T 9 e with
  |some ks,some vs=>.val (.mp st.nx) (st.push (.map ks vs []))
  |_,_=>.bad
 |_=>.bad
def Ya(st:AF)(ks vs:Sh)(m:PV):Option (List (ks.T×vs.T)):=match m with
 | .nilm=>some []
 | .mp id=>match st.obj id with
  |some (.map ks' vs' l)=>DR (.list (.pair ks' vs')) (.list (.pair ks vs)) l
  |_=>none
 |_=>none
def gS:V→Bool
 | .agg _=>true
 |_=>false
def iI(ks vs:Sh)(ok:Bool)(z:vs.T)(x:ks.T)(st:AF):List (ks.T×vs.T)→PO
 |[]=>.val (bif ok then .tup [BR vs z,.bl false]else BR vs z) st
 |(a,b)::l=>.ite (SJ ks x a) (.val (bif ok then .tup [BR vs b,.bl true]else BR vs b) st) (iI ks vs ok z x st l)
def OY(T:BU)(t:TypeId)(m k:PV)(ok:Bool)(st:AF):PO:=match T.und t with
 |some (.map kt e)=>match YR T kt,R8 T 9 e,T.inf e with
  |some ks,some vs,some i=>match Yi ks k,Ya st ks vs m,Cg vs (i.zero.map T4)with
   |some x,some l,some z=>
    bif gS i.zv==vs.MQ then bif vs.ZG then iI ks vs ok z x st l else
     (let v:=BR vs ((D1 ks vs x l).getD z)
     .val (bif ok then .tup [v,.dat .bool (D1 ks vs x l).isSome]else v) st)
    else .bad
   |_,_,_=>.bad
  |_,_,_=>.bad
 |_=>.bad
def OP(T:BU)(t:TypeId)(m k v:PV)(st:AF):PO:=match T.und t,m with
 |some (.map kt _),.mp id=>match YR T kt,st.obj id with
  |some ks,some (.map ks' vs l)=>match Yi ks k,DR (.list (.pair ks' vs)) (.list (.pair ks vs)) l,jI vs v with
   |some x,some l,some y=>.val (.tup []) (st.setObj id (.map ks vs (H4 ks vs x y l)))
   |_,_,_=>.bad
  |_,_=>.bad
 |_,_=>.bad
def OU(T:BU)(ts:Array TypeId)(args:List PV)(st:AF):PO:=match ts[0]?,args with
 |some t,[.mp id,k]=>match T.und t with
  |some (.map kt _)=>match YR T kt,st.obj id with
   |some ks,some (.map ks' vs l)=>match Yi ks k,DR (.list (.pair ks' vs)) (.list (.pair ks vs)) l with
    |some x,some l=>.val (.tup []) (st.setObj id (.map ks vs (Pq ks vs x l)))
    |_,_=>.bad
   |_,_=>.bad
  |_=>.bad
 |_,_=>.bad
abbrev IP:=BU→AF→PO
def v1(st:AF)(x:Operand)(k:PV→PO):PO:=match NV st x with|some v=>k v|none=>.bad
def RR(x:Operand):IP:=fun _ st=>ov st (NV st x)
def Yd(c a b:Operand):IP:=fun _ st=>v1 st c fun c=>v1 st a fun a=>v1 st b fun b=>Wq c a b st
def O1(t:TypeId):IP:=fun T st=>match dI T t with
 |some (s,n)=>.val (.ptr st.nx 0) (st.push (.arr false t s (zh n s.Gj)))
 |none=>match Xk T t with|some cs=>.val (.ptr st.nx 0) (st.push (.box cs))|none=>.bad
def cM(_:TypeId)(x:Operand):IP:=fun _ st=>v1 st x fun v=>match fX st v with|some cs=>bif I9 (Ie st) cs then .val (.ptr st.nx 0) (st.push (.box cs))else .bad|none=>.bad
def TG(t:TypeId)(ps:Array (Nat×Operand)):IP:=fun T st=>match UK st ps.toList with|some l=>ov st (RL T st t l)|none=>.bad
def Rv(t:TypeId)(n:Nat)(ps:Array (Nat×Operand)):IP:=fun T st=>match UK st ps.toList with|some l=>OJ T t n l st|none=>.bad
def WK(t:TypeId)(x:Operand):IP:=fun T st=>v1 st x fun a=>Kk T st t a
def S9(t:TypeId)(x y:Operand):IP:=fun T st=>v1 st x fun a=>v1 st y fun b=>RE T st t a b
def Mx(x:Operand):IP:=fun _ st=>v1 st x fun a=>match a with| .ptr id _| .eptr id _ _ _=>bif KN (st.obj id)then .val a st else .bad| .dptr .. =>.val a st|_=>.bad
def cH(T:BU)(op:BinOp)(t:TypeId)(x y:Operand)(a b:PV):Option Bool:=
 match op,a,b,T.und t with
 | .eql,.nili,.nili,some (.interface _)=>bif T7 x||T7 y then some true else none
 | .neq,.nili,.nili,some (.interface _)=>bif T7 x||T7 y then some false else none
 |_,_,_,_=>none
def bX(op:BinOp)(t:TypeId)(x y:Operand)(_:TypeId):IP:=fun T st=>v1 st x fun a=>v1 st y fun b=>match cH T op t x y a b with|some r=>.val (.bl r) st|none=>eK T op t a b st
def iG(op:UnOp)(_:TypeId)(x:Operand):IP:=fun _ st=>v1 st x fun a=>jU op a st
def XF(s d:TypeId)(x:Operand):IP:=fun T st=>v1 st x fun a=>Xe T s d a st
def WV(f:Fn)(a b:Array Operand):IP:=fun _ st=>match Ky st a.toList,Ky st b.toList with|some x,some y=>.val (.fn f x y) st|_,_=>.bad
def VT(t:TypeId)(l c:Operand):IP:=fun T st=>v1 st l fun a=>v1 st c fun b=>XV T t a b st
def o1(st:AF)(x:Option Operand)(k:Option PV→PO):PO:=match x with|none=>k none|some y=>v1 st y fun v=>k (some v)
def TT(t:TypeId)(x:Operand)(a b c:Option Operand):IP:=fun T st=>v1 st x fun v=>o1 st a fun l=>o1 st b fun h=>o1 st c fun m=>Xw T t v l h m st
def Tt(t:TypeId)(x:Operand)(f:Nat):IP:=fun T st=>v1 st x fun a=>Sy T t a f st
def Ud(t:TypeId)(x:Operand)(f:Nat):IP:=fun T st=>v1 st x fun a=>RX T t a f st
def TH(t:TypeId)(x i:Operand):IP:=fun T st=>v1 st x fun a=>v1 st i fun b=>Yc T t a b st
def T9(t:TypeId)(x i:Operand):IP:=fun T st=>v1 st x fun a=>v1 st i fun b=>RA T t a b st
def NZ(x:Operand)(i:Nat):IP:=fun _ st=>v1 st x fun a=>Nb a i st
def O6(c:Call):IP:=fun T st=>
 match Ky st c.args.toList with
 |none=>.bad
 |some args=>match c.callee with
  | .builtin b=>match b with
   | .delete=>OU T c.argTypes args st
   |_=>He T b c.argTypes args st
  |_=>.bad
def Ta(t:TypeId)(r:Option Operand):IP:=fun T st=>match r with|none=>S0 T t st|some _=>.bad
def QJ(t:TypeId)(x i:Operand)(ok:Bool):IP:=fun T st=>v1 st x fun a=>v1 st i fun b=>OY T t a b ok st
def LB(t:TypeId)(m k x:Operand):IP:=fun T st=>v1 st m fun a=>v1 st k fun b=>v1 st x fun c=>OP T t a b c st
def Ue(t:TypeId)(x:Operand):IP:=fun T st=>v1 st x fun a=>Sj T t a st
def WE(x:Operand)(isStr:Bool):IP:=fun _ st=>v1 st x fun a=>VN a isStr st
def H3:IP:=fun _ _=>.bad
def pop(o:Op):IP:=@Op.casesOn (fun _=>IP) o RR RR Yd O1 cM TG Rv LB WK S9 (fun _=>H3) (fun _=>H3) Mx bX iG XF
 (fun _ _=>H3) (fun _ _=>H3) WV Ta (fun _ _=>H3) VT TT Tt Ud TH T9 QJ LB (fun _ _ _=>H3) (fun _ _ _ _=>H3)
 Ue WE (fun _=>H3) (fun _ _ _ _=>H3) NZ O6 (fun _=>H3) (fun _=>H3) (fun _=>H3) (fun _ _=>H3) (fun _ _ _=>H3) (fun _ _=>H3)
end
theorem Kp{s:List UInt8}{i:Nat}(h:i<s.length):(bytesOf s).get! i=s.getD i 0:=by
 unfold bytesOf;show(s.toArray)[i]! =_;simp[h]
theorem Ro{s:List UInt8}{i:Nat}(h:i<s.length)(h2:(s.getD i 0).toNat<128):rune s i=((s.getD i 0).toNat:Int)∧Ic s i=1:=by
 unfold rune Ic zi;have e:=Kp h;simp only[Nat.add_zero,e,h2,if_true];simp
theorem Oq{s:List UInt8}{i:Nat}(h:i<s.length)(h2:128≤(s.getD i 0).toNat):128≤rune s i:=by
 unfold rune zi;have e:=Kp h;simp only[Nat.add_zero,e];rw[if_neg (by omega)];have hE:(128:Int)≤((Utf8.runeError:Nat):Int):=by decide
 split
 ·split
  ·rename_i hc;simp only;omega
  ·exact hE
 ·split
  ·split
   ·rename_i hc;simp only[ge_iff_le,Bool.and_eq_true,decide_eq_true_eq]at hc ⊢;omega
   ·exact hE
  ·split
   ·split
    ·rename_i hc;simp only[ge_iff_le,Bool.and_eq_true,decide_eq_true_eq]at hc ⊢;omega
    ·exact hE
   ·exact hE
end Go.Pe
namespace Go.Sp
def letter(c:Int):Bool:=(decide (97≤c)&&decide (c≤122))||(decide (65≤c)&&decide (c≤90))
def mark(c:Int):Bool:=letter c||(decide (48≤c)&&decide (c≤57))||c==95
def isName:List UInt8→Bool
 |[]=>false
 |c::s=>decide (s.length≤23)&&letter (c.toNat:Int)&&s.all fun c=>mark (c.toNat:Int)
end Go.Sp
end
section
namespace Go.Pe
open Go.Det
theorem KW(a b:List UInt8):SJ .str a b=decide (a=b):=by
 show(a==b)=_;by_cases h:a=b<;>simp[h]
theorem H9{v:Sh}(x k:List UInt8)(b:v.T):∀m:List (List UInt8×v.T),D1 .str v x (H4 .str v k b m)=if x=k then some b else D1 .str v x m
 |[]=>by
  show(bif SJ .str x k then some b else none)=_;rw[KW];by_cases h:x=k<;>simp[h,D1]
 |(a,c)::m=>by
  show D1 .str v x (bif SJ .str k a then(k,b)::m else(a,c)::H4 .str v k b m)=_;rw[KW];by_cases h:k=a
  ·subst h;simp only[decide_true,cond_true];show(bif SJ .str x k then some b else D1 .str v x m)=if x=k then some b else(bif SJ .str x k then some c else D1 .str v x m)
   rw[KW];by_cases h2:x=k<;>simp[h2]
  ·simp only[h,decide_false,cond_false];show(bif SJ .str x a then some c else D1 .str v x (H4 .str v k b m))=if x=k then some b else(bif SJ .str x a then some c else D1 .str v x m)
   rw[KW,H9 x k b m];by_cases h2:x=a
   ·subst h2;simp[Ne.symm h]
   ·simp[h2]
def Ij(m:List (List UInt8×Bool))(p:List UInt8→Prop):Prop:=∀x,(D1 .str .bool x m).getD false=true↔p x
theorem Ij.nil:Ij [] (fun _=>False):=fun x=>by simp[D1]
theorem Ij.add{m:List (List UInt8×Bool)}{p:List UInt8→Prop}(h:Ij m p)(k:List UInt8):Ij (H4 .str .bool k true m) (fun x=>x=k∨p x):=fun x=>by
 rw[H9];by_cases e:x=k
 ·simp[e]
 ·rw[if_neg e,h x];simp[e]
theorem Ij.congr{m:List (List UInt8×Bool)}{p q:List UInt8→Prop}(h:Ij m p)(e:∀x,p x↔q x):Ij m q:=fun x=>(h x).trans (e x)
end Go.Pe
end
