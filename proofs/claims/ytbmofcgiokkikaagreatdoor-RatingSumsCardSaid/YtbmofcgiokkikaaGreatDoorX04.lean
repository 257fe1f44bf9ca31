import Derived.Test.YtbmofcgiokkikaaGreatDoorX03
import Derived.Below
/- A part of a proof; no law is stated here. -/
noncomputable section
open Nat renaming beq -> zc, add -> ze, ble -> zk, blt -> zl, mul -> zm
open Int renaming toNat -> zd
open BitVec renaming ofInt -> zf
open Bool renaming and_eq_true -> zg
open Go.Op renaming bytesLess -> zh
open List renaming replicate -> zi
open Go.Utf8 renaming decode -> zj
namespace Go.Pe
open Go.Det
mutual
def Ow:Value->Option PV
 | .bool b=>some<|.bl b
 | .int k n=>some<|.dat (.int k) n
 | .string s=>some<|.dat .str s.data.toList
 | .pointer none=>some .nilp
 | .slice none 0 0=>some .nil
 | .map none=>some .nilm
 | .nilFunc=>some .nilf
 | .nilIface=>some .nili
 | .func f ⟨[]⟩ ⟨[]⟩=>some<|.fn f [] []
 | .agg ⟨cs⟩=>(eN cs).map .agg
 | .tuple ⟨cs⟩=>(eN cs).map .tup
 |_=>none
def eN:List Value->Option (List PV)
 |[]=>some []
 |v::vs=>match Ow v,eN vs with
  |some x,some xs=>some (x::xs)
  |_,_=>none
end
def Yg:V->PV
 | .bool b=>.bl b
 | .int k n=>.dat (.int k) n
 | .str s=>.dat .str s
 | .nilp=>.nilp
 | .nils=>.nil
 | .nilm=>.nilm
 | .nilf=>.nilf
 | .nili=>.nili
 |_=>.any
def RH(st:AQ):Operand->Option PV
 | .tmp t=>some<|st.get t
 | .const v=>Ow v
 | .global _=>none
 | .func f=>some<|.fn (.func f) [] []
def NA(st:AQ):List Operand->Option (List PV)
 |[]=>some []
 |x::xs=>match RH st x,NA st xs with
  |some v,some vs=>some (v::vs)
  |_,_=>none
def fX(st:AQ):List (Nat×Operand)->Option (List<|Nat×PV)
 |[]=>some []
 |(i,x)::xs=>match RH st x,fX st xs with
  |some v,some vs=>some ((i,v)::vs)
  |_,_=>none
def pS(T:Cg)(t:TypeId):Option (List PV):=(T.inf t).bind fun i=>bif Mz V.ok i.zero then some (i.zero.map Yg)else none
def pick(d:TypeDesc)(n:Nat)(cs:List PV):Option PV:=
 bif EV d then(bif zk n (EY cs)&&zl 0 n then some (.agg<|aD n cs)else none)
 else match cs with
  |v::_=>some v
  |[]=>none
def ov(st:AQ):Option PV->PO
 |some v=>.val v st
 |none=>.bad
def ovc(c:Bool)(st:AQ):Option PV->PO
 |some v=>.IV c v st
 |none=>.bad
def chunk(s:Sh):Nat->List PV->Option (List s.T)
 |0,_=>some []
 |n+1,cs=>match CG s cs with
  |some (x,cs')=>(chunk s n cs').map (x:: ·)
  |none=>none
def Qj(s:Sh)(l:List s.T):Nat->Nat->List PV
 |_,0=>[]
 |j,n+1=>flat s (l.getD j s.Iq)++Qj s l (ze j 1) n
def zsh:List V->Option Sh
 | .bool _::_=>some .bool
 | .int k _::_=>some<|.int k
 |_=>none
def isZ:Sh->V->Bool
 | .bool,.bool b=> !b
 | .int k,.int a n=>decide (k=a)&&decide (n=0)
 |_,_=>false
def Acj(T:Cg)(t:TypeId):Option (Sh×Nat):=
 match T.und t,T.inf t with
 |some (.array _ _),some i=>match zsh i.zero with
  |some s=>bif zk 32 (EY i.zero)&&Mz (isZ s) i.zero then some (s,EY i.zero)else none
  |none=>none
 |_,_=>none
def NZ(T:Cg)(st:AQ)(t:TypeId)(a:PV):PO:=
 match T.und t,T.inf t with
 |some d,some i=>match a with
  | .ptr id off=>match st.obj id with
   |some (.box cs)=>ov st<|pick d i.size<|KL off cs
   |some (.arr _ _ s l)=>bif zc off 0&&zc s.sz 1 then ovc (decide (l.length=i.size)) st (pick d i.size<|Qj s l 0 i.size)else .bad
   |some (.tbox _ cs)=>ov st<|pick d i.size<|KL off cs
   |_=>.bad
  | .eptr id sz j off=>match st.obj id with
   |some (.arr _ _ s l)=>bif zc sz s.sz then ovc (decide (j<l.length)) st (pick d i.size<|KL off<|flat s<|l.getD j s.Iq)else .bad
   |_=>.bad
  | .Bb s x off=>ov st<|pick d i.size<|KL off<|flat s x
  |_=>.bad
 |_,_=>.bad
def IU:Option Obj->Bool
 |some _=>true
 |none=>false
def KP(st:AQ):PV->Bool
 | .agg _| .tup _| .any| .ub=>false
 | .ptr id _| .eptr id _ _ _| .sl id _ _ _ _| .mp id| .yl id=>IU<|st.obj id
 |_=>true
def pcs(st:AQ):PV->Option (List PV)
 | .agg l=>some l
 |p=>bif KP st p then some [p]else none
def YA(T:Cg)(st:AQ)(t:TypeId)(a x:PV):PO:=
 match T.inf t,pcs st x with
 |some i,some xs=>bif zc (EY xs) i.size&&Mz (KP st) xs then
   match a with
   | .ptr id off=>match st.obj id with
    |some (.box cs)=>bif zk (ze off i.size) (EY cs)then .val (.tup []) (st.setObj id<|.box<|CN off xs cs)else .bad
    |some (.arr false e s l)=>bif zc off 0&&zc s.sz 1 then
      match chunk s i.size xs with
      |some y=>.IV (decide (l.length=i.size)) (.tup [])<|st.setObj id<|.arr false e s y
      |none=>.bad
     else .bad
    |some (.tbox tb cs)=>bif zk (ze off i.size) (EY cs)then .val (.tup []) (st.setObj id<|.tbox tb<|CN off xs cs)else .bad
    |_=>.bad
   | .eptr id sz j off=>match st.obj id with
    |some (.arr false e s l)=>bif zc sz s.sz&&zk (ze off i.size) sz then
      match Dv s (CN off xs<|flat s<|l.getD j s.Iq)with
      |some y=>.IV (decide (j<l.length)) (.tup [])<|st.setObj id<|.arr false e s<|l.set j y
      |none=>.bad
     else .bad
    |_=>.bad
   |_=>.bad
  else .bad
 |_,_=>.bad
def Iv(k:IntKind)(a b:Int):Int:=k.wrap (zf k.bits a&&&zf k.bits b).toNat
def dX(k:IntKind)(a b:Int):Int:=k.wrap (zf k.bits a|||zf k.bits b).toNat
def AhE(k:IntKind)(a b:Int):Int:=k.wrap (zf k.bits a^^^zf k.bits b).toNat
def Aga(k:IntKind)(a b:Int):Int:=k.wrap (zf k.bits a&&& ~~~zf k.bits b).toNat
def AdY(op:BinOp)(k:IntKind)(a b:Int)(st:AQ):PO:=
 match op with
 | .add=>.val (.dat (.int k)<|k.wrap<|a+b) st
 | .sub=>.val (.dat (.int k)<|k.wrap<|a-b) st
 | .mul=>.val (.dat (.int k)<|k.wrap<|a*b) st
 | .quo=>.IV (decide (b≠0)) (.dat (.int k)<|k.wrap<|a.tdiv b) st
 | .rem=>.IV (decide (b≠0)) (.dat (.int k)<|a.tmod b) st
 | .and=>.val (.dat (.int k)<|Iv k a b) st
 | .or=>.val (.dat (.int k)<|dX k a b) st
 | .xor=>.val (.dat (.int k)<|AhE k a b) st
 | .andNot=>.val (.dat (.int k)<|Aga k a b) st
 | .eql=>.val (.dat .bool<|a==b) st
 | .neq=>.val (.dat .bool<|a !=b) st
 | .lss=>.val (.dat .bool<|decide (a<b)) st
 | .leq=>.val (.dat .bool<|decide (a<=b)) st
 | .gtr=>.val (.dat .bool<|decide (a>b)) st
 | .geq=>.val (.dat .bool<|decide (a>=b)) st
 |_=>.bad
def psh(op:BinOp)(k:IntKind)(a b:Int)(st:AQ):PO:=
 match op with
 | .shl=>.IV (decide (0<=b)) (.dat (.int k)<|k.wrap<|a*2^(min b.toNat k.bits)) st
 | .shr=>.IV (decide (0<=b)) (.dat (.int k)<|a.fdiv<|2^(min b.toNat k.bits)) st
 |_=>.bad
def Ac2(op:BinOp)(x y:Z)(st:AQ):PO:=
 match op with
 | .add=>.IV (decide (x.length+y.length<=4611686018427387904)) (.dat .str<|x++y) st
 | .eql=>.val (.dat .bool<|x==y) st
 | .neq=>.val (.dat .bool<|!(x==y)) st
 | .lss=>.val (.dat .bool<|zh x y) st
 | .leq=>.val (.dat .bool<|zh x y||x==y) st
 | .gtr=>.val (.dat .bool<|!(zh x y||x==y)) st
 | .geq=>.val (.dat .bool<|!zh x y) st
 |_=>.bad
def AaB:BinOp->Bool
 | .shl| .shr=>true
 |_=>false
def J4:PV->Option Bool
 | .bl b=>some b
 | .dat .bool b=>some b
 |_=>none
def HV:List FK->List PV->List PV->Option Bool
 |[],[],[]=>some true
 | .int k::ks,.dat (.int e) a::xs,.dat (.int d) b::c=>bif k==e&&k==d then(HV ks xs c).map fun r=>(a:Int)==(b:Int)&&r else none
 | .str::ks,.dat .str a::xs,.dat .str b::c=>(HV ks xs c).map fun r=>(a:Z)==(b:Z)&&r
 | .bool::ks,a::xs,b::c=>match J4 a,J4 b with
  |some a,some b=>(HV ks xs c).map fun r=>a==b&&r
  |_,_=>none
 |_,_,_=>none
def Th(st:AQ)(ng:Bool)(x:PV):PO:=
 match x with
 | .nil=>.val (.bl<|!ng) st
 | .sl id _ _ _ _=>bif IU (st.obj id)then .val (.bl ng) st else .bad
 | .dat (.list _) l=>.ite (decide (0<l.length)) (.val (.bl ng) st)<|.val .ub st
 | .dat (.nlist _) l=>.val (.dat .bool<|bif ng then decide (0<l.length)else !decide (0<l.length)) st
 |_=>.bad
def pG(op:BinOp)(x y:PV)(st:AQ):PO:=
 match op,x,y with
 | .eql,x,.nil=>Th st false x
 | .neq,x,.nil=>Th st true x
 |_,_,_=>.bad
def ptrEq(T:Cg)(e:TypeId)(st:AQ)(x y:PV):Option Bool:=
 match x,y with
 | .nilp,.nilp=>some true
 | .ptr id _,.nilp=>bif IU (st.obj id)then some false else none
 | .nilp,.ptr id _=>bif IU (st.obj id)then some false else none
 | .ptr a i,.ptr b j=>bif zc a b&&IU (st.obj a)then match T.inf e with
   |some c=>bif zl 0 c.size then some (zc i j)else none
   |none=>none
  else none
 |_,_=>none
def AcM(T:Cg)(op:BinOp)(t:TypeId)(x y:PV)(st:AQ):PO:=
 match x,y with
 | .dat (.int k) a,.dat (.int c) b=>bif AaB op then psh op k a b st else(bif k==c then AdY op k a b st else .bad)
 | .dat .str a,.dat .str b=>Ac2 op a b st
 | .agg xs,.agg d=>match T.flat t with
  |some ks=>match op,HV ks xs d with
   | .eql,some r=>.val (.dat .bool r) st
   | .neq,some r=>.val (.dat .bool<|!r) st
   |_,_=>.bad
  |none=>.bad
 |x,y=>match J4 x,J4 y,T.und t with
  |some a,some b,some .bool=>match op with
   | .eql=>.val (.dat .bool<|a==b) st
   | .neq=>.val (.dat .bool<|!(a==b)) st
   |_=>.bad
  |_,_,some (.slice _)=>pG op x y st
  |_,_,some (.pointer e)=>match op,ptrEq T e st x y with
   | .eql,some r=>.val (.bl r) st
   | .neq,some r=>.val (.bl<|!r) st
   |_,_=>.bad
  |_,_,_=>.bad
def pun(op:UnOp)(x:PV)(st:AQ):PO:=
 match op,x with
 | .neg,.dat (.int k) n=>.val (.dat (.int k)<|k.wrap<|0-(n:Int)) st
 | .not,.bl b=>.val (.bl<|!b) st
 | .not,.ub=>.val .ub st
 | .not,.dat .bool b=>.val (.dat .bool<|!b) st
 |_,_=>.bad
def qG(T:Cg)(s d:TypeId)(x:PV)(st:AQ):PO:=
 match T.und s,T.und d,x with
 |some _,some<|.int k,.dat (.int _) n=>.val (.dat (.int k)<|k.wrap n) st
 |some .string,some .string,.dat .str s=>.val (.dat .str s) st
 |_,_,_=>.bad
def iN(c a b:PV)(st:AQ):PO:=
 match c with
 | .bl t=>.val (bif t then a else b) st
 | .dat .bool t=>match a,b with
  | .dat .bool x,.bl false=>.val (.dat .bool<|t&&x) st
  | .bl true,.dat .bool x=>.val (.dat .bool<|t||x) st
  |_,_=>.ite t (.val a st)<|.val b st
 |_=>.bad
def YK(T:Cg)(t:TypeId)(x:PV)(f:Nat)(st:AQ):PO:=
 match T.und t,x with
 |some (.struct fs),.agg cs=>match fs[f]? with
  |some a=>match T.und a.type,T.inf a.type with
   |some d,some i=>ov st<|pick d i.size<|KL a.offset cs
   |_,_=>.bad
  |none=>.bad
 |_,_=>.bad
def Yw(T:Cg)(t:TypeId)(x:PV)(f:Nat)(st:AQ):PO:=
 match T.und t with
 |some (.struct fs)=>match fs[f]? with
  |some a=>match T.inf a.type with
   |some i=>bif zc i.size 0 then .bad else match x with
    | .ptr id off=>bif IU (st.obj id)then .val (.ptr id<|ze off a.offset) st else .bad
    | .eptr id sz j off=>bif IU (st.obj id)then .val (.eptr id sz j<|ze off a.offset) st else .bad
    | .Bb s y off=>.val (.Bb s y<|ze off a.offset) st
    |_=>.bad
   |none=>.bad
  |none=>.bad
 |_=>.bad
def UE(T:Cg)(t:TypeId)(x b:PV)(st:AQ):PO:=
 match T.und t,b with
 |some (.slice e),.dat (.int _) i=>match T.inf e with
  |some a=>match x with
   | .dat (.list s) l=>bif zc a.size s.sz then .IV (decide (0<=(i:Int))&&decide ((i:Int)<(l.length:Int))) (.Bb s (l.getD (zd i) s.Iq) 0) st else .bad
   | .sl id sz off len _=>bif zc a.size sz&&IU (st.obj id)then .IV (decide (0<=(i:Int))&&decide ((i:Int)<(len:Int))) (.eptr id sz (ze (zd i) off) 0) st else .bad
   |_=>.bad
  |none=>.bad
 |some (.array len e),.dat (.int _) i=>match T.inf e with
  |some a=>match x with
   | .ptr id off=>match st.obj id with
    |some (.arr _ _ s _)=>bif zc off 0&&zc a.size s.sz then .IV (decide (0<=(i:Int))&&decide ((i:Int)<(len:Int))) (.eptr id s.sz (zd i) 0) st else .bad
    |some _=>.IV (decide (0<=(i:Int))&&decide ((i:Int)<(len:Int))) (.ptr id<|ze off<|zm (zd i) a.size) st
    |none=>.bad
   | .eptr id sz j off=>bif IU (st.obj id)then .IV (decide (0<=(i:Int))&&decide ((i:Int)<(len:Int))) (.eptr id sz j<|ze off<|zm (zd i) a.size) st else .bad
   | .Bb s y off=>.IV (decide (0<=(i:Int))&&decide ((i:Int)<(len:Int))) (.Bb s y<|ze off<|zm (zd i) a.size) st
   |_=>.bad
  |none=>.bad
 |_,_=>.bad
def iT(T:Cg)(t:TypeId)(x a:PV)(st:AQ):PO:=UE T t (lz x) a st
def YC(T:Cg)(t:TypeId)(x b:PV)(st:AQ):PO:=
 match T.und t,x,b with
 |some .string,.dat .str s,.dat (.int _) i=>.IV (decide (0<=(i:Int))&&decide ((i:Int)<((s:Z).length:Int))) (.dat (.int .u8) (((s:Z).getD (zd i) 0).toNat:Int)) st
 |some (.array len e),.agg cs,.dat (.int _) i=>match T.und e,T.inf e with
  |some d,some a=>ovc (decide (0<=(i:Int))&&decide ((i:Int)<(len:Int))) st<|pick d a.size<|KL (zm (zd i) a.size) cs
  |_,_=>.bad
 |_,_,_=>.bad
def Rg(x:PV)(i:Nat)(st:AQ):PO:=
 match x with
 | .tup vs=>match vs[i]? with
  |some v=>.val v st
  |none=>.bad
 |_=>.bad
def pb(x:Option PV)(Iq:Nat):Option (Bool×Nat):=
 match x with
 |none=>some (true,Iq)
 |some (.dat (.int _) n)=>some (decide (0<=(n:Int)),zd n)
 |_=>none
def has(mx:Option PV)(c:Nat):Bool:=match mx with
 |none=>true
 |some _=>decide (0<c)
def UW(T:Cg)(t:TypeId)(x:PV)(lo c mx:Option PV)(st:AQ):PO:=
 match T.und t with
 |some .string=>match x,mx with
  | .dat .str s,none=>match pb lo 0,pb c (s:Z).length with
   |some (b,l),some (a,h)=>.IV (b&&a&&decide (l<=h)&&decide (h<=(s:Z).length)) (.dat .str<|((s:Z).drop l).take<|Nat.sub h l) st
   |_,_=>.bad
  |_,_=>.bad
 |some (.slice e)=>match T.inf e with
  |some f=>match x with
   | .dat (.list s) xs=>bif zc f.size s.sz then
     match pb lo 0,pb c xs.length,mx with
     |some (b,l),some (a,h),none=>.IV (b&&a&&decide (l<=h)&&decide (h<=xs.length)) (.dat (.list s)<|(xs.drop l).take<|Nat.sub h l) st
     |_,_,_=>.bad
    else .bad
   | .sl id sz off len cap=>bif zc f.size sz&&IU (st.obj id)then
     match c,mx with
     |none,some _=>.bad
     |_,_=>match pb lo 0,pb c len,pb mx (cap.getD len)with
      |some (b,l),some (a,h),some (d,m)=>.IV (b&&a&&d&&decide (l<=h)&&decide (h<=m)&&decide (m<=cap.getD len)&&has mx (cap.getD len)) (.sl id sz (ze off l) (Nat.sub h l)<|some<|Nat.sub m l) st
      |_,_,_=>.bad
    else .bad
   | .nil=>match pb lo 0,pb c 0,mx with
    |some (b,l),some (a,h),none=>.IV (b&&a&&decide (l<=h)&&decide (h<=0)) .nil st
    |some (b,l),some (a,h),some q=>match c,pb (some q) 0 with
     |some _,some (d,m)=>.IV (b&&a&&d&&decide (l<=h)&&decide (h<=m)&&decide (m<=0)) .nil st
     |_,_=>.bad
    |_,_,_=>.bad
   |_=>.bad
  |none=>.bad
 |_=>.bad
def tB(T:Cg)(t:TypeId)(x:PV)(lo a mx:Option PV)(st:AQ):PO:=UW T t (lz x) lo a mx st
def pi64(n:Nat):PV:=.dat (.int .i64)<|Int.ofNat n
def Vr(T:Cg)(ts:Array TypeId)(args:List PV)(st:AQ):PO:=
 match ts[0]?,args with
 |some t,[x]=>match T.und t,x with
  |some .string,.dat .str s=>.val (pi64 (s:Z).length) st
  |some (.slice _),.dat (.list _) l=>.val (pi64 l.length) st
  |some (.slice _),.sl id _ _ len _=>bif IU (st.obj id)then .val (pi64 len) st else .bad
  |some (.slice _),.nil=>.val (pi64 0) st
  |some (.map _ _),.mp id=>match st.obj id with
   |some (.map _ _ l)=>.val (pi64 l.length) st
   |_=>.bad
  |_,_=>.bad
 |_,_=>.bad
def yY(T:Cg)(ts:Array TypeId)(args:List PV)(st:AQ):PO:=Vr T ts (args.map lz) st
def pmm(f:Int->Int->Int)(k:IntKind):Int->List PV->Option Int
 |x,[]=>some x
 |x,.dat (.int a) y::b=>bif k==a then pmm f k (f x y) b else none
 |_,_=>none
def O0(f:Int->Int->Int)(args:List PV)(st:AQ):PO:=
 match args with
 | .dat (.int k) x::a=>match pmm f k x a with
  |some z=>.val (.dat (.int k) z) st
  |none=>.bad
 |_=>.bad
def imax(x y:Int):Int:=if y>x then y else x
def Fa(x y:Int):Int:=if y<x then y else x
def Is(st:AQ)(s:Sh)(x:PV):Option (Bool×List s.T):=
 match x with
 | .nil=>some (true,[])
 | .dat (.list a) l=>(E4 (.list a) (.list s) l).map fun r=>(true,r)
 | .sl id sz off len _=>match st.obj id with
  |some (.arr _ _ a l)=>bif zc sz a.sz then(E4 (.list a) (.list s) l).map fun r=>(decide (off+len<=r.length),(r.drop off).take len)else none
  |_=>none
 | .dat .str l=>(E4 (.list<|.int .u8) (.list s)<|List.map (fun b:UInt8=>(b.toNat:Int)) l).map fun r=>(true,r)
 |_=>none
def P2(st:AQ)(s:Sh)(x:PV):Option (Bool×List s.T):=Is st s<|lz x
def LIM:Nat:=281474976710656
def lH:Nat:=562949953421312
def TU:TypeDesc->Bool
 | .slice _=>true
 | .string=>true
 |_=>false
def Tv(T:Cg)(ts:Array TypeId)(args:List PV)(st:AQ):PO:=
 match ts[0]?,ts[1]?,args with
 |some t,some f,[b,x]=>match T.und t,T.und f with
  |some (.slice e),some a=>bif TU a then match T.inf e,Ym T 9 e with
   |some i,some s=>
    bif zl 0 i.bytes&&zl 0 i.size&&zc i.zero.length i.size&&zc i.size s.sz then
     match P2 st s x with
     |some (c,new)=>match b with
      | .nil=>match x with
       | .nil=>.val .nil st
       | .dat _ _=>.ite (decide (0<new.length)) (.IV (c&&decide ((3*new.length+2000)*i.bytes<=lH)) (.sl st.nx s.sz 0 new.length none)<|st.push<|.arr false e s new)<|.val .nil st
       | .sl _ _ _ _ (some _)=>.ite (decide (0<new.length)) (.IV (c&&decide ((3*new.length+2000)*i.bytes<=lH)) (.sl st.nx s.sz 0 new.length none)<|st.push<|.arr false e s new)<|.IV c .nil st
       |_=>.IV (c&&decide (0<new.length)&&decide ((3*new.length+2000)*i.bytes<=lH)) (.sl st.nx s.sz 0 new.length none)<|st.push<|.arr false e s new
      | .sl id sz off len cap=>match st.obj id with
       |some (.arr false g d l)=>match E4 (.list d) (.list s) l with
        |some l'=>bif zc e g&&zc sz s.sz then
          match cap with
          |none=>.IV (c&&decide (off=0)&&decide (len=l'.length)&&decide ((3*(len+new.length)+2000)*i.bytes<=lH)) (.sl st.nx s.sz 0 (ze len new.length) none)<|(st.Gu id).push<|.arr false e s<|l'++new
          |some k=>.IV (c&&decide (len+new.length<=k)&&decide (off+k<=l'.length)) (.sl id sz off (ze len new.length)<|some k) (st.setObj id<|.arr false e s<|l'.take (off+len)++(new++l'.drop (off+len+new.length)))
         else .bad
        |none=>.bad
       |_=>.bad
      |_=>.bad
     |none=>.bad
    else .bad
   |_,_=>.bad
   else .bad
  |_,_=>.bad
 |_,_,_=>.bad
def Ya(T:Cg)(ts:Array TypeId)(args:List PV)(st:AQ):PO:=
 match ts[0]?,args with
 |some t,[x]=>match T.und t with
  |some (.slice e)=>match x with
   | .nil=>.val (.tup []) st
   | .sl id sz off len _=>match T.inf e,st.obj id with
    |some i,some (.arr false a s l)=>
     bif zc sz s.sz&&zl 0 i.zero.length&&zc i.zero.length s.sz&&Mz V.one i.zero then
      match Dv s (i.zero.map Yg)with
      |some z=>.IV (decide (off+len<=l.length)) (.tup [])<|st.setObj id<|.arr false a s<|l.take off++(zi len z++l.drop (off+len))
      |none=>.bad
     else .bad
    |_,_=>.bad
   |_=>.bad
  |_=>.bad
 |_,_=>.bad
def XC(args:List PV)(st:AQ):PO:=
 match args with
 |[.sl id sz off len none]=>bif IU (st.obj id)then .IV (decide (0<len)) (.eptr id sz off 0) st else .bad
 |_=>.bad
def Ye(l:List Int):Z:=l.map fun x=>UInt8.ofNat x.toNat
def SX(l:List Int):Bool:=l.all fun x=>decide (0<=x)&&decide (x<256)
def jJ(T:Cg)(ts:List TypeId)(args:List PV)(st:AQ):PO:=
 match ts,args with
 |[pt,_],[.eptr id _ i 0,.dat (.int .i64) n]=>match T.und pt,st.obj id with
  |some (.pointer e),some (.arr false b s l)=>match T.inf e,E4 (.list s) (.list<|.int .u8) l with
   |some c,some a=>bif zc c.size 1&&zc e b then
     .IV (decide (i=0)&&decide (0<(n:Int))&&decide (zd n<=(a:List Int).length)&&decide (zd n<=9223372036854775807)&&SX a) (.dat .str<|Ye<|(a:List Int).take<|zd n) (st.Gu id)
    else .bad
   |_,_=>.bad
  |_,_=>.bad
 |_,_=>.bad
def JB(T:Cg)(b:Builtin)(ts:Array TypeId)(args:List PV)(st:AQ):PO:=
 match b with
 | .len=>yY T ts args st
 | .append=>Tv T ts args st
 | .max=>O0 imax args st
 | .min=>O0 Fa args st
 | .clear=>Ya T ts args st
 | .unsafeSliceData=>XC args st
 | .unsafeString=>jJ T ts.toList args st
 |_=>.bad
def rune(s:Z)(pos:Nat):Int:=(zj (bytesOf s) pos).1
def KT(s:Z)(pos:Nat):Nat:=(zj (bytesOf s) pos).2
def Y1(T:Cg)(t:TypeId)(x:PV)(st:AQ):PO:=
 match T.und t,x with
 |some .string,.dat .str s=>.val (.ptr st.nx 0)<|st.push<|.siter s 0
 |_,_=>.bad
def nO(x:PV)(a:Bool)(st:AQ):PO:=
 match x,a with
 | .ptr id 0,true=>match st.obj id with
  |some (.siter s pos)=>.ite (decide (pos<s.length)) (.val (.tup [.bl true,.dat (.int .i64)<|Int.ofNat pos,.dat (.int .i32)<|rune s pos])<|st.setObj id<|.siter s<|ze pos<|KT s pos)<|.val (.tup [.bl false]) st
  |_=>.bad
 |_,_=>.bad
def S2(st:AQ)(place:Nat->Option (Nat×Nat))(cells:List PV):List (Nat×PV)->Option (List PV)
 |[]=>some cells
 |(i,v)::a=>match place i with
  |none=>none
  |some (off,size)=>match pcs st v with
   |some vs=>bif zc (EY vs) size&&zk (ze off size) (EY cells)then S2 st place (CN off vs cells) a else none
   |none=>none
def Xx(T:Cg)(st:AQ)(t:TypeId)(a:List (Nat×PV)):Option PV:=
 match T.inf t,T.und t with
 |some i,some (.struct fs)=>
  match fs.toList.mapM (fun f=>(T.inf f.type).map fun j=>(f.offset,j.size))with
  |some pl=>(S2 st (fun i=>pl[i]?) (i.zero.map Yg) a).map .agg
  |none=>none
 |some i,some (.array _ e)=>match T.inf e with
  |some j=>(S2 st (fun i=>some (i*j.size,j.size)) (i.zero.map Yg) a).map .agg
  |none=>none
 |_,_=>none
def K1(z:List PV):Nat->List PV
 |0=>[]
 |n+1=>z++K1 z n
def B4(st:AQ):PV->Option (Bool×PV)
 | .sl id sz off len _=>match st.obj id with
  |some (.arr _ _ s l)=>bif zc sz s.sz then some (decide (off+len<=l.length),.dat (.list s)<|(l.drop off).take len)else none
  |_=>none
 | .dat s x=>some (true,.dat s x)
 | .Bb s x off=>some (true,.Bb s x off)
 | .bl b=>some (true,.bl b)
 | .nil=>some (true,.nil)
 |_=>none
def Dr(st:AQ):List PV->Option (Bool×List PV)
 |[]=>some (true,[])
 |v::vs=>match B4 st v,Dr st vs with
  |some (c,x),some (d,xs)=>some (c&&d,x::xs)
  |_,_=>none
def BO(st:AQ):PV->AQ
 | .sl id _ _ _ _=>match st.obj id with
  |some (.arr _ e s l)=>st.setObj id<|.arr true e s l
  |_=>st
 |_=>st
def BB:List PV->AQ->AQ
 |[],st=>st
 |v::vs,st=>BB vs<|BO st v
def UR(T:Cg)(t:TypeId)(len:Nat)(a:List (Nat×PV))(st:AQ):PO:=
 match T.und t with
 |some (.slice e)=>match T.inf e,Ym T 9 e with
  |some i,some s=>
   bif zk (zm len i.size) 16777216&&zl 0 i.zero.length&&zc i.zero.length i.size&&zc i.size s.sz then
    match S2 st (fun k=>some (k*i.size,i.size)) (K1 (i.zero.map Yg) len) a with
    |some cs=>match chunk s len cs with
     |some l=>.val (.sl st.nx s.sz 0 len none)<|st.push<|.arr false e s l
     |none=>match Dr st cs with
      |some (c,cs')=>match chunk s len cs' with
       |some l=>.IV c (.sl st.nx s.sz 0 len none)<|(BB cs st).push<|.arr false e s l
       |none=>.bad
      |none=>.bad
    |none=>.bad
   else .bad
  |_,_=>.bad
 |_=>.bad
def kY(T:Cg)(t:TypeId)(l c:PV)(st:AQ):PO:=
 match T.und t,l,c with
 |some (.slice e),.dat (.int _) l,.dat (.int _) c=>match T.inf e,Ym T 9 e with
  |some i,some s=>
   bif zl 0 i.zero.length&&zc i.zero.length i.size&&zc i.size s.sz then
    match Dv s (i.zero.map Yg)with
    |some z=>.IV (decide (0<=(l:Int))&&decide ((l:Int)=(c:Int))&&decide (i.bytes*zd l<=LIM)&&decide ((l:Int)<9223372036854775808)) (.sl st.nx s.sz 0 (zd l) none)<|st.push<|.arr false e s<|zi (zd l) z
    |none=>.bad
   else .bad
  |_,_=>.bad
 |_,_,_=>.bad
def kSh(T:Cg)(t:TypeId):Option Sh:=match T.und t with
 |some (.int k)=>some<|.int k
 |some .string=>some .str
 |some .bool=>some .bool
 |_=>none
def Ni:PV->Bool
 | .agg _=>true
 |_=>false
def asV(s:Sh)(p:PV):Option s.T:=bif Ni p==s.RV then Dv s p.cells else none
def YL(T:Cg)(t:TypeId)(st:AQ):PO:=match T.und t with
 |some (.map a e)=>match kSh T a,Ym T 9 e with
  |some ks,some vs=>.val (.mp st.nx)<|st.push<|.map ks vs []
  |_,_=>.bad
 |_=>.bad
def nZ(st:AQ)(ks vs:Sh)(m:PV):Option (List<|ks.T×vs.T):=match m with
 | .nilm=>some []
 | .mp id=>match st.obj id with
  |some (.map b a l)=>E4 (.list<|.pair b a) (.list<|.pair ks vs) l
  |_=>none
 |_=>none
def vAg:V->Bool
 | .agg _=>true
 |_=>false
def plk(ks vs:Sh)(ok:Bool)(z:vs.T)(x:ks.T)(st:AQ):List (ks.T×vs.T)->PO
 |[]=>.val (bif ok then .tup [Cx vs z,.bl false]else Cx vs z) st
 |(a,b)::l=>.ite (YS ks x a) (.val (bif ok then .tup [Cx vs b,.bl true]else Cx vs b) st)<|plk ks vs ok z x st l
def TT(T:Cg)(t:TypeId)(m k:PV)(ok:Bool)(st:AQ):PO:=match T.und t with
 |some (.map a e)=>match kSh T a,Ym T 9 e,T.inf e with
  |some ks,some vs,some i=>match asD ks k,nZ st ks vs m,Dv vs (i.zero.map Yg)with
   |some x,some l,some z=>
    bif vAg i.zv==vs.RV then bif vs.Aaf then plk ks vs ok z x st l else
     (let v:=Cx vs ((Eh ks vs x l).getD z)
     .val (bif ok then .tup [v,.dat .bool (Eh ks vs x l).isSome]else v) st)
    else .bad
   |_,_,_=>.bad
  |_,_,_=>.bad
 |_=>.bad
def U8(T:Cg)(t:TypeId)(m k v:PV)(st:AQ):PO:=match T.und t,m with
 |some (.map b _),.mp id=>match kSh T b,st.obj id with
  |some ks,some (.map a vs l)=>match asD ks k,E4 (.list<|.pair a vs) (.list<|.pair ks vs) l,asV vs v with
   |some x,some l,some y=>.val (.tup [])<|st.setObj id<|.map ks vs<|HP ks vs x y l
   |_,_,_=>.bad
  |_,_=>.bad
 |_,_=>.bad
def Un(T:Cg)(ts:Array TypeId)(args:List PV)(st:AQ):PO:=match ts[0]?,args with
 |some t,[.mp id,k]=>match T.und t with
  |some (.map b _)=>match kSh T b,st.obj id with
   |some ks,some (.map a vs l)=>match asD ks k,E4 (.list<|.pair a vs) (.list<|.pair ks vs) l with
    |some x,some l=>.val (.tup [])<|st.setObj id<|.map ks vs<|TA ks vs x l
    |_,_=>.bad
   |_,_=>.bad
  |_=>.bad
 |_,_=>.bad
abbrev Mf:=Cg->AQ->PO
def v1(st:AQ)(x:Operand)(k:PV->PO):PO:=match RH st x with|some v=>k v|none=>.bad
def Yc(x:Operand):Mf:=fun _ st=>ov st<|RH st x
def kC(c a b:Operand):Mf:=fun _ st=>v1 st c fun c=>v1 st a fun a=>v1 st b fun b=>iN c a b st
def Abe(T:Cg)(t:TypeId):Bool:=
 match T.und t with
 |some (.struct fs)=>match fs[0]? with
  |some f=>match T.und f.type with
   |some (.pointer u)=>zc u t
   |_=>false
  |none=>false
 |_=>false
def UC(t:TypeId):Mf:=fun T st=>match Acj T t with
 |some (s,n)=>.val (.ptr st.nx 0)<|st.push<|.arr false t s<|zi n s.Iq
 |none=>match pS T t with|some cs=>.val (.ptr st.nx 0) (st.push<|bif Abe T t then .tbox t cs else .box cs)|none=>.bad
def AaS(_:TypeId)(x:Operand):Mf:=fun _ st=>v1 st x fun v=>match pcs st v with|some cs=>bif Mz (KP st) cs then .val (.ptr st.nx 0) (st.push<|.box cs)else .bad|none=>.bad
def bF(t:TypeId)(ps:Array (Nat×Operand)):Mf:=fun T st=>match fX st ps.toList with|some l=>ov st (Xx T st t l)|none=>.bad
def W6(t:TypeId)(n:Nat)(ps:Array (Nat×Operand)):Mf:=fun T st=>match fX st ps.toList with|some l=>UR T t n l st|none=>.bad
def mJ(t:TypeId)(x:Operand):Mf:=fun T st=>v1 st x fun a=>NZ T st t a
def bR(t:TypeId)(x y:Operand):Mf:=fun T st=>v1 st x fun a=>v1 st y fun b=>YA T st t a b
def Rd(x:Operand):Mf:=fun _ st=>v1 st x fun a=>match a with| .ptr id _| .eptr id _ _ _=>bif IU (st.obj id)then .val a st else .bad| .Bb .. =>.val a st|_=>.bad
def AbE(T:Cg)(op:BinOp)(t:TypeId)(x y:Operand)(a b:PV):Option Bool:=
 match op,a,b,T.und t with
 | .eql,.nili,.nili,some (.interface _)=>bif Z7 x||Z7 y then some true else none
 | .neq,.nili,.nili,some (.interface _)=>bif Z7 x||Z7 y then some false else none
 |_,_,_,_=>none
def Aa8(op:BinOp)(t:TypeId)(x y:Operand)(_:TypeId):Mf:=fun T st=>v1 st x fun a=>v1 st y fun b=>match AbE T op t x y a b with|some r=>.val (.bl r) st|none=>AcM T op t a b st
def Afm(op:UnOp)(_:TypeId)(x:Operand):Mf:=fun _ st=>v1 st x fun a=>pun op a st
def jC(s d:TypeId)(x:Operand):Mf:=fun T st=>v1 st x fun a=>qG T s d a st
def qF(f:Fn)(a b:Array Operand):Mf:=fun _ st=>match NA st a.toList,NA st b.toList with|some x,some y=>.val (.fn f x y) st|_,_=>.bad
def pL(t:TypeId)(l c:Operand):Mf:=fun T st=>v1 st l fun a=>v1 st c fun b=>kY T t a b st
def o1(st:AQ)(x:Option Operand)(k:Option PV->PO):PO:=match x with|none=>k none|some y=>v1 st y fun v=>k<|some v
def cD(t:TypeId)(x:Operand)(a b c:Option Operand):Mf:=fun T st=>v1 st x fun v=>o1 st a fun l=>o1 st b fun h=>o1 st c fun m=>tB T t v l h m st
def aY(t:TypeId)(x:Operand)(f:Nat):Mf:=fun T st=>v1 st x fun a=>Yw T t a f st
def ZM(t:TypeId)(x:Operand)(f:Nat):Mf:=fun T st=>v1 st x fun a=>YK T t a f st
def ZY(t:TypeId)(x i:Operand):Mf:=fun T st=>v1 st x fun a=>v1 st i fun b=>iT T t a b st
def ZW(t:TypeId)(x i:Operand):Mf:=fun T st=>v1 st x fun a=>v1 st i fun b=>YC T t a b st
def Sy(x:Operand)(i:Nat):Mf:=fun _ st=>v1 st x fun a=>Rg a i st
def TM(c:Call):Mf:=fun T st=>
 match NA st c.args.toList with
 |none=>.bad
 |some args=>match c.callee with
  | .builtin b=>match b with
   | .delete=>Un T c.argTypes args st
   |_=>JB T b c.argTypes args st
  |_=>.bad
def bJ(t:TypeId)(r:Option Operand):Mf:=fun T st=>match r with|none=>YL T t st|some _=>.bad
def WQ(t:TypeId)(x i:Operand)(ok:Bool):Mf:=fun T st=>v1 st x fun a=>v1 st i fun b=>TT T t a b ok st
def Pz(t:TypeId)(m k x:Operand):Mf:=fun T st=>v1 st m fun a=>v1 st k fun b=>v1 st x fun c=>U8 T t a b c st
def cR(t:TypeId)(x:Operand):Mf:=fun T st=>v1 st x fun a=>Y1 T t a st
def rF(x:Operand)(b:Bool):Mf:=fun _ st=>v1 st x fun a=>nO a b st
def Kz:Mf:=fun _ _=>.bad
def pop(o:Op):Mf:=@Op.casesOn (fun _=>Mf) o Yc Yc kC UC AaS bF W6 Pz mJ bR (fun _=>Kz) (fun _=>Kz) Rd Aa8 Afm jC
 (fun _ _=>Kz) (fun _ _=>Kz) qF bJ (fun _ _=>Kz) pL cD aY ZM ZY ZW WQ Pz (fun _ _ _=>Kz) (fun _ _ _ _=>Kz)
 cR rF (fun _=>Kz) (fun _ _ _ _=>Kz) Sy TM (fun _=>Kz) (fun _=>Kz) (fun _=>Kz) (fun _ _=>Kz) (fun _ _ _=>Kz) (fun _ _=>Kz)
theorem N5{s:Z}{i:Nat}(h:i<s.length):(bytesOf s).get! i=s.getD i 0:=by
 unfold bytesOf;show(s.toArray)[i]! =_;simp[h]
theorem Wi{s:Z}{i:Nat}(h:i<s.length)(a:(s.getD i 0).toNat<128):rune s i=((s.getD i 0).toNat:Int)/\KT s i=1:=by
 unfold rune KT zj;have e:=N5 h;simp only[Nat.add_zero,e,a,wk];simp
theorem SW{s:Z}{i:Nat}(h:i<s.length)(c:128<=(s.getD i 0).toNat):128<=rune s i:=by
 unfold rune zj;have e:=N5 h;simp only[Nat.add_zero,e];rw[wc ae];have a:(128:Int)<=((Utf8.runeError:Nat):Int):=af
 split
 ·split
  ·rename_i b;simp only;omega
  ·exact a
 ·split
  ·split
   ·rename_i b;simp only[ge_iff_le,zg,w5]at b ⊢;omega
   ·exact a
  ·split
   ·split
    ·rename_i b;simp only[ge_iff_le,zg,w5]at b ⊢;omega
    ·exact a
   ·exact a
end Go.Pe
namespace Go.Sp
def letter(c:Int):Bool:=(decide (97<=c)&&decide (c<=122))||(decide (65<=c)&&decide (c<=90))
def mark(c:Int):Bool:=letter c||(decide (48<=c)&&decide (c<=57))||c==95
def isName:Z->Bool
 |[]=>false
 |c::s=>decide (s.length<=23)&&letter (c.toNat:Int)&&s.all fun c=>mark (c.toNat:Int)
end Go.Sp
namespace Go.Pe
open Go.Det
theorem OP(a b:Z):YS .str a b=decide (a=b):=by
 show(a==b)=_;by_cases h:a=b<;>simp[h]
theorem Hr{v:Sh}(x k:Z)(b:v.T):∀m:List (Z×v.T),Eh .str v x (HP .str v k b m)=if x=k then some b else Eh .str v x m
 |[]=>by
  show(bif YS .str x k then some b else none)=_;rw[OP];by_cases h:x=k<;>simp[h,Eh]
 |(a,c)::m=>by
  show Eh .str v x (bif YS .str k a then(k,b)::m else(a,c)::HP .str v k b m)=_;rw[OP];by_cases h:k=a
  ·subst h;simp only[decide_true,we];show(bif YS .str x k then some b else Eh .str v x m)=if x=k then some b else(bif YS .str x k then some c else Eh .str v x m)
   rw[OP];by_cases d:x=k<;>simp[d]
  ·simp only[h,decide_false,wg];show(bif YS .str x a then some c else Eh .str v x<|HP .str v k b m)=if x=k then some b else(bif YS .str x a then some c else Eh .str v x m)
   rw[OP,Hr x k b m];by_cases d:x=a
   ·subst d;simp[Ne.symm h]
   ·simp[d]
def Ju(m:List (Z×Bool))(p:Z->Prop):Prop:=∀x,(Eh .str .bool x m).getD false=true↔p x
theorem Ju.nil:Ju [] (fun _=>False):=fun x=>by simp[Eh]
theorem Ju.add{m:List (Z×Bool)}{p:Z->Prop}(h:Ju m p)(k:Z):Ju (HP .str .bool k true m) (fun x=>x=k\/p x):=fun x=>by
 rw[Hr];by_cases e:x=k
 ·simp[e]
 ·rw[wc e,h x];simp[e]
theorem Ju.congr{m:List (Z×Bool)}{p q:Z->Prop}(h:Ju m p)(e:∀x,p x↔q x):Ju m q:=fun x=>(h x).trans<|e x
end Go.Pe
namespace Go.Det
section
abbrev Za:=FuncId->Option (List V->H->Option (V×H))
def LG(P:Program)(s:Za):Prop:=∀f q,s f=some q->∀(p:Pl) (h:H) (w:World) (args:List V) (args':Array Value) v h',R p h w->Gp p->Ax p args args'.toList->q args h=some (v,h')->
 Calls P f args' w fun e w'=>∃v' p',e=.returned v'/\Ad p' v v'/\Ext p h w p' h' w'
def orS(a b:Za):Za:=fun f=>match a f with
 |some q=>some q
 |none=>b f
variable {P:Program}
theorem TQ{a b:Za}(d:LG P a)(e:LG P b):LG P (orS a b):=by
 intro f q c;unfold orS at c;cases h:a f with
 |some g=>rw[h]at c;cases c;exact d f _ h
 |none=>rw[h]at c;exact e f q c
def Zs(C:Ctx)(s:Za):Ctx:={ C with spec:=s }
theorem WL{C:Ctx}(a:C.Ok P){s:Za}(h:LG P s):(Zs C s).Ok P where
 T:=a.T
 fn:=a.fn
 prim:=a.prim
 spec:=h
theorem NS{C:Ctx}(a:G5 C)(s:Za):G5 (Zs C s):=a
theorem bW{C:Ctx}(c:C.Ok P)(a:G5 C)(b:P.follows .mixedOrders=true){n:Nat}{L:CS}(h:AY C n L=true):LG P (K8 L):=zL (C':=C) c a b h
theorem AN{C:Ctx}{n:Nat}:∀ {a b:CS},AY C n a=true->AY C n b=true->AY C n (a++b)=true
 |[],b,_,h=>h
 |(f,x,v)::a,b,h,k=>by
  simp only[AY,List.cons_append,zg]at h ⊢;exact⟨h.1,AN h.2 k⟩
def Lv(C:Ctx)(n:Nat)(L:CS):Za:=fun f=>match K8 L f with
 |none=>none
 |some q=>some fun args h=>match q args h with
  |some x=>some x
  |none=>match Bi C n (.fn f args) h with
   |some [x]=>some x
   |_=>none
theorem Sq{C:Ctx}(m:C.Ok P)(d:G5 C)(l:P.follows .mixedOrders=true){n k:Nat}{L:CS}(t:AY C k L=true):LG P (Lv C n L):=by
 intro f q c p h w args args' v h' hr j b a;unfold Lv at c;cases i:K8 L f with
 |none=>rw[i]at c;cases c
 |some q0=>
  rw[i]at c;cases c;simp only at a;split at a
  case h_1=>rename_i x r;cases a;exact bW m d l t f q0 i p h w args args' v h' hr j b r
  case h_2=>
   split at a
   case h_2=>cases a
   rename_i x s;cases a;refine((JP m d l n).fn f args h _ s p w args' hr j b).mono ?_;rintro e w' ⟨v1,y,v',p',g,rfl,u,o⟩;cases List.mem_singleton.1 g;exact⟨v',p',rfl,u,o⟩
theorem Nd{p:Pl}{h:H}{w w':World}(hr:R p h w)(c:Go.RowKit.Below w.heap.size w w'):Ext p h w p h w':=by
 obtain⟨e,k,g,i,d⟩:=c;refine⟨⟨[],by simp⟩,⟨hr.len,fun b o c=>?_,hr.inj⟩,i,fun r a _=>d r a,fun r f=>.inl f,e,g,k,fun r a j=>⟨d r a,.inl j⟩⟩;obtain⟨r,m,y,g1,g2,g3⟩:=hr.obj b o c;exact⟨r,m,y,g1,by rw[d r (Array.getElem?_eq_some_iff.1 g2).1];exact g2,g3⟩
end
end Go.Det
