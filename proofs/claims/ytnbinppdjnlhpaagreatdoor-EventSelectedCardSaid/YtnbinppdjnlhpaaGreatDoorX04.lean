import Derived.Test.YtnbinppdjnlhpaaGreatDoorX03
/- A part of a proof (no law is stated here). Made by program out of texts by AI agents. -/
open Nat renaming beq → zc, add → zf, ble → zj, blt → zk, mul → zl
open Int renaming toNat → zd
open BitVec renaming ofInt → ze
open Go.Op renaming bytesLess → zg
open List renaming replicate → zh
open Go.Utf8 renaming decode → zi
section
namespace Go.Pe
open Go.Det
noncomputable section
mutual
def K0:Value→Option PV
 | .bool b=>some (.bl b)
 | .int k n=>some (.dat (.int k) n)
 | .string s=>some (.dat .str s.data.toList)
 | .pointer none=>some .nilp
 | .slice none 0 0=>some .nil
 | .map none=>some .nilm
 | .nilFunc=>some .nilf
 | .nilIface=>some .nili
 | .func f ⟨[]⟩ ⟨[]⟩=>some (.fn f [] [])
 | .agg ⟨cs⟩=>(Ve cs).map .agg
 | .tuple ⟨cs⟩=>(Ve cs).map .tup
 |_=>none
def Ve:List Value→Option (List PV)
 |[]=>some []
 |v::vs=>match K0 v,Ve vs with
  |some x,some xs=>some (x::xs)
  |_,_=>none
end
def Uz:V→PV
 | .bool b=>.bl b
 | .int k n=>.dat (.int k) n
 | .str s=>.dat .str s
 | .nilp=>.nilp
 | .nils=>.nil
 | .nilm=>.nilm
 | .nilf=>.nilf
 | .nili=>.nili
 |_=>.any
def Ow(st:AF):Operand→Option PV
 | .tmp t=>some (st.get t)
 | .const v=>K0 v
 | .global _=>none
 | .func f=>some (.fn (.func f) [] [])
def KY(st:AF):List Operand→Option (List PV)
 |[]=>some []
 |x::xs=>match Ow st x,KY st xs with
  |some v,some vs=>some (v::vs)
  |_,_=>none
def VK(st:AF):List (Nat×Operand)→Option (List (Nat×PV))
 |[]=>some []
 |(i,x)::xs=>match Ow st x,VK st xs with
  |some v,some vs=>some ((i,v)::vs)
  |_,_=>none
def Xw(T:BZ)(t:TypeId):Option (List PV):=(T.inf t).bind fun i=>bif Jz V.ok i.zero then some (i.zero.map Uz)else none
def pick(d:TypeDesc)(n:Nat)(cs:List PV):Option PV:=
 bif Dp d then(bif zj n (GQ cs)&&zk 0 n then some (.agg (Uy n cs))else none)
 else match cs with
  |v::_=>some v
  |[]=>none
def ov(st:AF):Option PV→PO
 |some v=>.val v st
 |none=>.bad
def kK(c:Bool)(st:AF):Option PV→PO
 |some v=>.HQ c v st
 |none=>.bad
def chunk(s:Sh):Nat→List PV→Option (List s.T)
 |0,_=>some []
 |n+1,cs=>match B6 s cs with
  |some (x,cs')=>(chunk s n cs').map (x:: ·)
  |none=>none
def LH(s:Sh)(l:List s.T):Nat→Nat→List PV
 |_,0=>[]
 |j,n+1=>flat s (l.getD j s.GA)++LH s l (zf j 1) n
def pC:List V→Option Sh
 | .bool _::_=>some .bool
 | .int k _::_=>some (.int k)
 |_=>none
def kN:Sh→V→Bool
 | .bool,.bool b=> !b
 | .int k,.int k' n=>decide (k=k')&&decide (n=0)
 |_,_=>false
def fH(T:BZ)(t:TypeId):Option (Sh×Nat):=
 match T.und t,T.inf t with
 |some (.array _ _),some i=>match pC i.zero with
  |some s=>bif zj 32 (GQ i.zero)&&Jz (kN s) i.zero then some (s,GQ i.zero)else none
  |none=>none
 |_,_=>none
def KS(T:BZ)(st:AF)(t:TypeId)(a:PV):PO:=
 match T.und t,T.inf t with
 |some d,some i=>match a with
  | .ptr id off=>match st.obj id with
   |some (.box cs)=>ov st (pick d i.size (Jd off cs))
   |some (.arr _ _ s l)=>bif zc off 0&&zc s.sz 1 then kK (decide (l.length=i.size)) st (pick d i.size (LH s l 0 i.size))else .bad
   |_=>.bad
  | .eptr id sz j off=>match st.obj id with
   |some (.arr _ _ s l)=>bif zc sz s.sz then kK (decide (j<l.length)) st (pick d i.size (Jd off (flat s (l.getD j s.GA))))else .bad
   |_=>.bad
  | .dptr s x off=>ov st (pick d i.size (Jd off (flat s x)))
  |_=>.bad
 |_,_=>.bad
def Ln:Option Obj→Bool
 |some _=>true
 |none=>false
def Is(st:AF):PV→Bool
 | .agg _| .tup _| .any| .ub=>false
 | .ptr id _| .eptr id _ _ _| .sl id _ _ _ _| .mp id| .yl id=>Ln (st.obj id)
 |_=>true
def kI(st:AF):PV→Option (List PV)
 | .agg l=>some l
 |p=>bif Is st p then some [p]else none
def Tf(T:BZ)(st:AF)(t:TypeId)(a x:PV):PO:=
 match T.inf t,kI st x with
 |some i,some xs=>bif zc (GQ xs) i.size&&Jz (Is st) xs then
   match a with
   | .ptr id off=>match st.obj id with
    |some (.box cs)=>bif zj (zf off i.size) (GQ cs)then .val (.tup []) (st.setObj id (.box (Cj off xs cs)))else .bad
    |some (.arr false e s l)=>bif zc off 0&&zc s.sz 1 then
      match chunk s i.size xs with
      |some y=>.HQ (decide (l.length=i.size)) (.tup []) (st.setObj id (.arr false e s y))
      |none=>.bad
     else .bad
    |_=>.bad
   | .eptr id sz j off=>match st.obj id with
    |some (.arr false e s l)=>bif zc sz s.sz&&zj (zf off i.size) sz then
      match Ck s (Cj off xs (flat s (l.getD j s.GA)))with
      |some y=>.HQ (decide (j<l.length)) (.tup []) (st.setObj id (.arr false e s (l.set j y)))
      |none=>.bad
     else .bad
    |_=>.bad
   |_=>.bad
  else .bad
 |_,_=>.bad
def EK(k:IntKind)(a b:Int):Int:=k.wrap (ze k.bits a&&&ze k.bits b).toNat
def Vn(k:IntKind)(a b:Int):Int:=k.wrap (ze k.bits a|||ze k.bits b).toNat
def oB(k:IntKind)(a b:Int):Int:=k.wrap (ze k.bits a^^^ze k.bits b).toNat
def mS(k:IntKind)(a b:Int):Int:=k.wrap (ze k.bits a&&& ~~~ze k.bits b).toNat
def gQ(op:BinOp)(k:IntKind)(a b:Int)(st:AF):PO:=
 match op with
 | .add=>.val (.dat (.int k) (k.wrap (a+b))) st
 | .sub=>.val (.dat (.int k) (k.wrap (a-b))) st
 | .mul=>.val (.dat (.int k) (k.wrap (a*b))) st
 | .quo=>.HQ (decide (b≠0)) (.dat (.int k) (k.wrap (a.tdiv b))) st
 | .rem=>.HQ (decide (b≠0)) (.dat (.int k) (a.tmod b)) st
 | .and=>.val (.dat (.int k) (EK k a b)) st
 | .or=>.val (.dat (.int k) (Vn k a b)) st
 | .xor=>.val (.dat (.int k) (oB k a b)) st
 | .andNot=>.val (.dat (.int k) (mS k a b)) st
 | .eql=>.val (.dat .bool (a==b)) st
 | .neq=>.val (.dat .bool (a !=b)) st
 | .lss=>.val (.dat .bool (decide (a<b))) st
 | .leq=>.val (.dat .bool (decide (a≤b))) st
 | .gtr=>.val (.dat .bool (decide (a>b))) st
 | .geq=>.val (.dat .bool (decide (a≥b))) st
 |_=>.bad
def nL(op:BinOp)(k:IntKind)(a b:Int)(st:AF):PO:=
 match op with
 | .shl=>.HQ (decide (0≤b)) (.dat (.int k) (k.wrap (a*2^(min b.toNat k.bits)))) st
 | .shr=>.HQ (decide (0≤b)) (.dat (.int k) (a.fdiv (2^(min b.toNat k.bits)))) st
 |_=>.bad
def iD(op:BinOp)(x y:List UInt8)(st:AF):PO:=
 match op with
 | .add=>.HQ (decide (x.length+y.length≤4611686018427387904)) (.dat .str (x++y)) st
 | .eql=>.val (.dat .bool (x==y)) st
 | .neq=>.val (.dat .bool (!(x==y))) st
 | .lss=>.val (.dat .bool (zg x y)) st
 | .leq=>.val (.dat .bool (zg x y||x==y)) st
 | .gtr=>.val (.dat .bool (!(zg x y||x==y))) st
 | .geq=>.val (.dat .bool (!zg x y)) st
 |_=>.bad
def ZX:BinOp→Bool
 | .shl| .shr=>true
 |_=>false
def HK:PV→Option Bool
 | .bl b=>some b
 | .dat .bool b=>some b
 |_=>none
def FI:List FK→List PV→List PV→Option Bool
 |[],[],[]=>some true
 | .int k::ks,.dat (.int k1) a::xs,.dat (.int k2) b::ys=>bif k==k1&&k==k2 then(FI ks xs ys).map fun r=>(a:Int)==(b:Int)&&r else none
 | .str::ks,.dat .str a::xs,.dat .str b::ys=>(FI ks xs ys).map fun r=>(a:List UInt8)==(b:List UInt8)&&r
 | .bool::ks,a::xs,b::ys=>match HK a,HK b with
  |some a,some b=>(FI ks xs ys).map fun r=>a==b&&r
  |_,_=>none
 |_,_,_=>none
def Qo(st:AF)(ng:Bool)(x:PV):PO:=
 match x with
 | .nil=>.val (.bl (!ng)) st
 | .sl id _ _ _ _=>bif Ln (st.obj id)then .val (.bl ng) st else .bad
 | .dat (.list _) l=>.ite (decide (0<l.length)) (.val (.bl ng) st) (.val .ub st)
 | .dat (.nlist _) l=>.val (.dat .bool (bif ng then decide (0<l.length)else !decide (0<l.length))) st
 |_=>.bad
def Yw(op:BinOp)(x y:PV)(st:AF):PO:=
 match op,x,y with
 | .eql,x,.nil=>Qo st false x
 | .neq,x,.nil=>Qo st true x
 |_,_,_=>.bad
def gN(T:BZ)(op:BinOp)(t:TypeId)(x y:PV)(st:AF):PO:=
 match x,y with
 | .dat (.int k) a,.dat (.int k') b=>bif ZX op then nL op k a b st else(bif k==k' then gQ op k a b st else .bad)
 | .dat .str a,.dat .str b=>iD op a b st
 | .agg xs,.agg ys=>match T.flat t with
  |some ks=>match op,FI ks xs ys with
   | .eql,some r=>.val (.dat .bool r) st
   | .neq,some r=>.val (.dat .bool (!r)) st
   |_,_=>.bad
  |none=>.bad
 |x,y=>match HK x,HK y,T.und t with
  |some a,some b,some .bool=>match op with
   | .eql=>.val (.dat .bool (a==b)) st
   | .neq=>.val (.dat .bool (!(a==b))) st
   |_=>.bad
  |_,_,some (.slice _)=>Yw op x y st
  |_,_,_=>.bad
def nW(op:UnOp)(x:PV)(st:AF):PO:=
 match op,x with
 | .neg,.dat (.int k) n=>.val (.dat (.int k) (k.wrap (0-(n:Int)))) st
 | .not,.bl b=>.val (.bl (!b)) st
 | .not,.ub=>.val .ub st
 | .not,.dat .bool b=>.val (.dat .bool (!b)) st
 |_,_=>.bad
def WG(T:BZ)(s d:TypeId)(x:PV)(st:AF):PO:=
 match T.und s,T.und d,x with
 |some _,some (.int k),.dat (.int _) n=>.val (.dat (.int k) (k.wrap n)) st
 |some .string,some .string,.dat .str s=>.val (.dat .str s) st
 |_,_,_=>.bad
def XF(c a b:PV)(st:AF):PO:=
 match c with
 | .bl t=>.val (bif t then a else b) st
 | .dat .bool t=>match a,b with
  | .dat .bool x,.bl false=>.val (.dat .bool (t&&x)) st
  | .bl true,.dat .bool x=>.val (.dat .bool (t||x)) st
  |_,_=>.ite t (.val a st) (.val b st)
 |_=>.bad
def Sn(T:BZ)(t:TypeId)(x:PV)(f:Nat)(st:AF):PO:=
 match T.und t,x with
 |some (.struct fs),.agg cs=>match fs[f]? with
  |some fd=>match T.und fd.type,T.inf fd.type with
   |some d,some i=>ov st (pick d i.size (Jd fd.offset cs))
   |_,_=>.bad
  |none=>.bad
 |_,_=>.bad
def SY(T:BZ)(t:TypeId)(x:PV)(f:Nat)(st:AF):PO:=
 match T.und t with
 |some (.struct fs)=>match fs[f]? with
  |some fd=>match T.inf fd.type with
   |some i=>bif zc i.size 0 then .bad else match x with
    | .ptr id off=>bif Ln (st.obj id)then .val (.ptr id (zf off fd.offset)) st else .bad
    | .eptr id sz j off=>bif Ln (st.obj id)then .val (.eptr id sz j (zf off fd.offset)) st else .bad
    | .dptr s y off=>.val (.dptr s y (zf off fd.offset)) st
    |_=>.bad
   |none=>.bad
  |none=>.bad
 |_=>.bad
def P6(T:BZ)(t:TypeId)(x ix:PV)(st:AF):PO:=
 match T.und t,ix with
 |some (.slice e),.dat (.int _) i=>match T.inf e with
  |some ti=>match x with
   | .dat (.list s) l=>bif zc ti.size s.sz then .HQ (decide (0≤(i:Int))&&decide ((i:Int)<(l.length:Int))) (.dptr s (l.getD (zd i) s.GA) 0) st else .bad
   | .sl id sz off len _=>bif zc ti.size sz&&Ln (st.obj id)then .HQ (decide (0≤(i:Int))&&decide ((i:Int)<(len:Int))) (.eptr id sz (zf (zd i) off) 0) st else .bad
   |_=>.bad
  |none=>.bad
 |some (.array len e),.dat (.int _) i=>match T.inf e with
  |some ti=>match x with
   | .ptr id off=>match st.obj id with
    |some (.arr _ _ s _)=>bif zc off 0&&zc ti.size s.sz then .HQ (decide (0≤(i:Int))&&decide ((i:Int)<(len:Int))) (.eptr id s.sz (zd i) 0) st else .bad
    |some _=>.HQ (decide (0≤(i:Int))&&decide ((i:Int)<(len:Int))) (.ptr id (zf off (zl (zd i) ti.size))) st
    |none=>.bad
   | .eptr id sz j off=>bif Ln (st.obj id)then .HQ (decide (0≤(i:Int))&&decide ((i:Int)<(len:Int))) (.eptr id sz j (zf off (zl (zd i) ti.size))) st else .bad
   | .dptr s y off=>.HQ (decide (0≤(i:Int))&&decide ((i:Int)<(len:Int))) (.dptr s y (zf off (zl (zd i) ti.size))) st
   |_=>.bad
  |none=>.bad
 |_,_=>.bad
def Xf(T:BZ)(t:TypeId)(x ix:PV)(st:AF):PO:=P6 T t (lz x) ix st
def Tm(T:BZ)(t:TypeId)(x ix:PV)(st:AF):PO:=
 match T.und t,x,ix with
 |some .string,.dat .str s,.dat (.int _) i=>.HQ (decide (0≤(i:Int))&&decide ((i:Int)<((s:List UInt8).length:Int))) (.dat (.int .u8) (((s:List UInt8).getD (zd i) 0).toNat:Int)) st
 |some (.array len e),.agg cs,.dat (.int _) i=>match T.und e,T.inf e with
  |some d,some ti=>kK (decide (0≤(i:Int))&&decide ((i:Int)<(len:Int))) st (pick d ti.size (Jd (zl (zd i) ti.size) cs))
  |_,_=>.bad
 |_,_,_=>.bad
def Mm(x:PV)(i:Nat)(st:AF):PO:=
 match x with
 | .tup vs=>match vs[i]? with
  |some v=>.val v st
  |none=>.bad
 |_=>.bad
def pb(x:Option PV)(GA:Nat):Option (Bool×Nat):=
 match x with
 |none=>some (true,GA)
 |some (.dat (.int _) n)=>some (decide (0≤(n:Int)),zd n)
 |_=>none
def has(mx:Option PV)(c:Nat):Bool:=match mx with
 |none=>true
 |some _=>decide (0<c)
def P3(T:BZ)(t:TypeId)(x:PV)(lo hi mx:Option PV)(st:AF):PO:=
 match T.und t with
 |some .string=>match x,mx with
  | .dat .str s,none=>match pb lo 0,pb hi (s:List UInt8).length with
   |some (c1,l),some (c2,h)=>.HQ (c1&&c2&&decide (l≤h)&&decide (h≤(s:List UInt8).length)) (.dat .str (((s:List UInt8).drop l).take (Nat.sub h l))) st
   |_,_=>.bad
  |_,_=>.bad
 |some (.slice e)=>match T.inf e with
  |some ti=>match x with
   | .dat (.list s) xs=>bif zc ti.size s.sz then
     match pb lo 0,pb hi xs.length,mx with
     |some (c1,l),some (c2,h),none=>.HQ (c1&&c2&&decide (l≤h)&&decide (h≤xs.length)) (.dat (.list s) ((xs.drop l).take (Nat.sub h l))) st
     |_,_,_=>.bad
    else .bad
   | .sl id sz off len cap=>bif zc ti.size sz&&Ln (st.obj id)then
     match hi,mx with
     |none,some _=>.bad
     |_,_=>match pb lo 0,pb hi len,pb mx (cap.getD len)with
      |some (c1,l),some (c2,h),some (c3,m)=>.HQ (c1&&c2&&c3&&decide (l≤h)&&decide (h≤m)&&decide (m≤cap.getD len)&&has mx (cap.getD len)) (.sl id sz (zf off l) (Nat.sub h l) (some (Nat.sub m l))) st
      |_,_,_=>.bad
    else .bad
   | .nil=>match pb lo 0,pb hi 0,mx with
    |some (c1,l),some (c2,h),none=>.HQ (c1&&c2&&decide (l≤h)&&decide (h≤0)) .nil st
    |some (c1,l),some (c2,h),some q=>match hi,pb (some q) 0 with
     |some _,some (c3,m)=>.HQ (c1&&c2&&c3&&decide (l≤h)&&decide (h≤m)&&decide (m≤0)) .nil st
     |_,_=>.bad
    |_,_,_=>.bad
   |_=>.bad
  |none=>.bad
 |_=>.bad
def XH(T:BZ)(t:TypeId)(x:PV)(lo hi mx:Option PV)(st:AF):PO:=P3 T t (lz x) lo hi mx st
def pi64(n:Nat):PV:=.dat (.int .i64) (Int.ofNat n)
def RA(T:BZ)(ts:Array TypeId)(args:List PV)(st:AF):PO:=
 match ts[0]?,args with
 |some t,[x]=>match T.und t,x with
  |some .string,.dat .str s=>.val (pi64 (s:List UInt8).length) st
  |some (.slice _),.dat (.list _) l=>.val (pi64 l.length) st
  |some (.slice _),.sl id _ _ len _=>bif Ln (st.obj id)then .val (pi64 len) st else .bad
  |some (.slice _),.nil=>.val (pi64 0) st
  |some (.map _ _),.mp id=>match st.obj id with
   |some (.map _ _ l)=>.val (pi64 l.length) st
   |_=>.bad
  |_,_=>.bad
 |_,_=>.bad
def aN(T:BZ)(ts:Array TypeId)(args:List PV)(st:AF):PO:=RA T ts (args.map lz) st
def lP(f:Int→Int→Int)(k:IntKind):Int→List PV→Option Int
 |x,[]=>some x
 |x,.dat (.int k') y::ys=>bif k==k' then lP f k (f x y) ys else none
 |_,_=>none
def Lf(f:Int→Int→Int)(args:List PV)(st:AF):PO:=
 match args with
 | .dat (.int k) x::ys=>match lP f k x ys with
  |some z=>.val (.dat (.int k) z) st
  |none=>.bad
 |_=>.bad
def imax(x y:Int):Int:=if y>x then y else x
def BE(x y:Int):Int:=if y<x then y else x
def K9(st:AF)(s:Sh)(x:PV):Option (Bool×List s.T):=
 match x with
 | .nil=>some (true,[])
 | .dat (.list s') l=>(DS (.list s') (.list s) l).map fun r=>(true,r)
 | .sl id sz off len _=>match st.obj id with
  |some (.arr _ _ s' l)=>bif zc sz s'.sz then(DS (.list s') (.list s) l).map fun r=>(decide (off+len≤r.length),(r.drop off).take len)else none
  |_=>none
 |_=>none
def Me(st:AF)(s:Sh)(x:PV):Option (Bool×List s.T):=K9 st s (lz x)
def jY:Nat:=281474976710656
def Ps(T:BZ)(ts:Array TypeId)(args:List PV)(st:AF):PO:=
 match ts[0]?,ts[1]?,args with
 |some t,some tx,[b,x]=>match T.und t,T.und tx with
  |some (.slice e),some (.slice _)=>match T.inf e,SE T 9 e with
   |some i,some s=>
    bif zk 0 i.bytes&&zk 0 i.size&&zc i.zero.length i.size&&zc i.size s.sz then
     match Me st s x with
     |some (c,new)=>match b with
      | .nil=>match x with
       | .nil=>.val .nil st
       | .dat _ _=>.ite (decide (0<new.length)) (.HQ (c&&decide ((2*new.length+1000)*i.bytes≤jY)) (.sl st.nx s.sz 0 new.length none) (st.push (.arr false e s new))) (.val .nil st)
       | .sl _ _ _ _ (some _)=>.ite (decide (0<new.length)) (.HQ (c&&decide ((2*new.length+1000)*i.bytes≤jY)) (.sl st.nx s.sz 0 new.length none) (st.push (.arr false e s new))) (.HQ c .nil st)
       |_=>.HQ (c&&decide (0<new.length)&&decide ((2*new.length+1000)*i.bytes≤jY)) (.sl st.nx s.sz 0 new.length none) (st.push (.arr false e s new))
      | .sl id sz off len cap=>match st.obj id with
       |some (.arr false e' s' l)=>match DS (.list s') (.list s) l with
        |some l'=>bif zc e e'&&zc sz s.sz then
          match cap with
          |none=>.HQ (c&&decide (off=0)&&decide (len=l'.length)&&decide ((2*(len+new.length)+1000)*i.bytes≤jY)) (.sl st.nx s.sz 0 (zf len new.length) none) ((st.Ph id).push (.arr false e s (l'++new)))
          |some k=>.HQ (c&&decide (len+new.length≤k)&&decide (off+k≤l'.length)) (.sl id sz off (zf len new.length) (some k)) (st.setObj id (.arr false e s (l'.take (off+len)++(new++l'.drop (off+len+new.length)))))
         else .bad
        |none=>.bad
       |_=>.bad
      |_=>.bad
     |none=>.bad
    else .bad
   |_,_=>.bad
  |_,_=>.bad
 |_,_,_=>.bad
def S0(T:BZ)(ts:Array TypeId)(args:List PV)(st:AF):PO:=
 match ts[0]?,args with
 |some t,[x]=>match T.und t with
  |some (.slice e)=>match x with
   | .nil=>.val (.tup []) st
   | .sl id sz off len _=>match T.inf e,st.obj id with
    |some i,some (.arr false e' s l)=>
     bif zc sz s.sz&&zk 0 i.zero.length&&zc i.zero.length s.sz&&Jz V.one i.zero then
      match Ck s (i.zero.map Uz)with
      |some z=>.HQ (decide (off+len≤l.length)) (.tup []) (st.setObj id (.arr false e' s (l.take off++(zh len z++l.drop (off+len)))))
      |none=>.bad
     else .bad
    |_,_=>.bad
   |_=>.bad
  |_=>.bad
 |_,_=>.bad
def Hw(T:BZ)(b:Builtin)(ts:Array TypeId)(args:List PV)(st:AF):PO:=
 match b with
 | .len=>aN T ts args st
 | .append=>Ps T ts args st
 | .max=>Lf imax args st
 | .min=>Lf BE args st
 | .clear=>S0 T ts args st
 |_=>.bad
def rune(s:List UInt8)(pos:Nat):Int:=(zi (bytesOf s) pos).1
def Io(s:List UInt8)(pos:Nat):Nat:=(zi (bytesOf s) pos).2
def Tp(T:BZ)(t:TypeId)(x:PV)(st:AF):PO:=
 match T.und t,x with
 |some .string,.dat .str s=>.val (.ptr st.nx 0) (st.push (.siter s 0))
 |_,_=>.bad
def Yl(x:PV)(isStr:Bool)(st:AF):PO:=
 match x,isStr with
 | .ptr id 0,true=>match st.obj id with
  |some (.siter s pos)=>.ite (decide (pos<s.length)) (.val (.tup [.bl true,.dat (.int .i64) (Int.ofNat pos),.dat (.int .i32) (rune s pos)]) (st.setObj id (.siter s (zf pos (Io s pos))))) (.val (.tup [.bl false]) st)
  |_=>.bad
 |_,_=>.bad
def Ot(st:AF)(place:Nat→Option (Nat×Nat))(cells:List PV):List (Nat×PV)→Option (List PV)
 |[]=>some cells
 |(i,v)::rest=>match place i with
  |none=>none
  |some (off,size)=>match kI st v with
   |some vs=>bif zc (GQ vs) size&&zj (zf off size) (GQ cells)then Ot st place (Cj off vs cells) rest else none
   |none=>none
def Sq(T:BZ)(st:AF)(t:TypeId)(parts:List (Nat×PV)):Option PV:=
 match T.inf t,T.und t with
 |some i,some (.struct fs)=>
  match fs.toList.mapM (fun f=>(T.inf f.type).map fun j=>(f.offset,j.size))with
  |some pl=>(Ot st (fun i=>pl[i]?) (i.zero.map Uz) parts).map .agg
  |none=>none
 |some i,some (.array _ e)=>match T.inf e with
  |some j=>(Ot st (fun i=>some (i*j.size,j.size)) (i.zero.map Uz) parts).map .agg
  |none=>none
 |_,_=>none
def IC(z:List PV):Nat→List PV
 |0=>[]
 |n+1=>z++IC z n
def Cb(st:AF):PV→Option (Bool×PV)
 | .sl id sz off len _=>match st.obj id with
  |some (.arr _ _ s l)=>bif zc sz s.sz then some (decide (off+len≤l.length),.dat (.list s) ((l.drop off).take len))else none
  |_=>none
 | .dat s x=>some (true,.dat s x)
 | .bl b=>some (true,.bl b)
 | .nil=>some (true,.nil)
 |_=>none
def Dq(st:AF):List PV→Option (Bool×List PV)
 |[]=>some (true,[])
 |v::vs=>match Cb st v,Dq st vs with
  |some (c,x),some (d,xs)=>some (c&&d,x::xs)
  |_,_=>none
def Bn(st:AF):PV→AF
 | .sl id _ _ _ _=>match st.obj id with
  |some (.arr _ e s l)=>st.setObj id (.arr true e s l)
  |_=>st
 |_=>st
def Ba:List PV→AF→AF
 |[],st=>st
 |v::vs,st=>Ba vs (Bn st v)
def Qy(T:BZ)(t:TypeId)(len:Nat)(parts:List (Nat×PV))(st:AF):PO:=
 match T.und t with
 |some (.slice e)=>match T.inf e,SE T 9 e with
  |some i,some s=>
   bif zj (zl len i.size) 16777216&&zk 0 i.zero.length&&zc i.zero.length i.size&&zc i.size s.sz then
    match Ot st (fun k=>some (k*i.size,i.size)) (IC (i.zero.map Uz) len) parts with
    |some cs=>match chunk s len cs with
     |some l=>.val (.sl st.nx s.sz 0 len none) (st.push (.arr false e s l))
     |none=>match Dq st cs with
      |some (c,cs')=>match chunk s len cs' with
       |some l=>.HQ c (.sl st.nx s.sz 0 len none) ((Ba cs st).push (.arr false e s l))
       |none=>.bad
      |none=>.bad
    |none=>.bad
   else .bad
  |_,_=>.bad
 |_=>.bad
def YG(T:BZ)(t:TypeId)(l c:PV)(st:AF):PO:=
 match T.und t,l,c with
 |some (.slice e),.dat (.int _) l,.dat (.int _) c=>match T.inf e,SE T 9 e with
  |some i,some s=>
   bif zk 0 i.zero.length&&zc i.zero.length i.size&&zc i.size s.sz then
    match Ck s (i.zero.map Uz)with
    |some z=>.HQ (decide (0≤(l:Int))&&decide ((l:Int)=(c:Int))&&decide (i.bytes*zd l≤jY)&&decide ((l:Int)<9223372036854775808)) (.sl st.nx s.sz 0 (zd l) none) (st.push (.arr false e s (zh (zd l) z)))
    |none=>.bad
   else .bad
  |_,_=>.bad
 |_,_,_=>.bad
def Z3(T:BZ)(t:TypeId):Option Sh:=match T.und t with
 |some (.int k)=>some (.int k)
 |some .string=>some .str
 |some .bool=>some .bool
 |_=>none
def Ix:PV→Bool
 | .agg _=>true
 |_=>false
def oD(s:Sh)(p:PV):Option s.T:=bif Ix p==s.Mo then Ck s p.cells else none
def SB(T:BZ)(t:TypeId)(st:AF):PO:=match T.und t with
 |some (.map kt e)=>match Z3 T kt,SE T 9 e with
  |some ks,some vs=>.val (.mp st.nx) (st.push (.map ks vs []))
  |_,_=>.bad
 |_=>.bad
def Wt(st:AF)(ks vs:Sh)(m:PV):Option (List (ks.T×vs.T)):=match m with
 | .nilm=>some []
 | .mp id=>match st.obj id with
  |some (.map ks' vs' l)=>DS (.list (.pair ks' vs')) (.list (.pair ks vs)) l
  |_=>none
 |_=>none
def kS:V→Bool
 | .agg _=>true
 |_=>false
def lC(ks vs:Sh)(ok:Bool)(z:vs.T)(x:ks.T)(st:AF):List (ks.T×vs.T)→PO
 |[]=>.val (bif ok then .tup [BY vs z,.bl false]else BY vs z) st
 |(a,b)::l=>.ite (NU ks x a) (.val (bif ok then .tup [BY vs b,.bl true]else BY vs b) st) (lC ks vs ok z x st l)
def PG(T:BZ)(t:TypeId)(m k:PV)(ok:Bool)(st:AF):PO:=match T.und t with
 |some (.map kt e)=>match Z3 T kt,SE T 9 e,T.inf e with
  |some ks,some vs,some i=>match Y4 ks k,Wt st ks vs m,Ck vs (i.zero.map Uz)with
   |some x,some l,some z=>
    bif kS i.zv==vs.Mo then bif vs.aS then lC ks vs ok z x st l else
     (let v:=BY vs ((Bs ks vs x l).getD z)
     .val (bif ok then .tup [v,.dat .bool (Bs ks vs x l).isSome]else v) st)
    else .bad
   |_,_,_=>.bad
  |_,_,_=>.bad
 |_=>.bad
def PN(T:BZ)(t:TypeId)(m k v:PV)(st:AF):PO:=match T.und t,m with
 |some (.map kt _),.mp id=>match Z3 T kt,st.obj id with
  |some ks,some (.map ks' vs l)=>match Y4 ks k,DS (.list (.pair ks' vs)) (.list (.pair ks vs)) l,oD vs v with
   |some x,some l,some y=>.val (.tup []) (st.setObj id (.map ks vs (E4 ks vs x y l)))
   |_,_,_=>.bad
  |_,_=>.bad
 |_,_=>.bad
def Qz(T:BZ)(ts:Array TypeId)(args:List PV)(st:AF):PO:=match ts[0]?,args with
 |some t,[.mp id,k]=>match T.und t with
  |some (.map kt _)=>match Z3 T kt,st.obj id with
   |some ks,some (.map ks' vs l)=>match Y4 ks k,DS (.list (.pair ks' vs)) (.list (.pair ks vs)) l with
    |some x,some l=>.val (.tup []) (st.setObj id (.map ks vs (PL ks vs x l)))
    |_,_=>.bad
   |_,_=>.bad
  |_=>.bad
 |_,_=>.bad
abbrev JJ:=BZ→AF→PO
def v1(st:AF)(x:Operand)(k:PV→PO):PO:=match Ow st x with|some v=>k v|none=>.bad
def Sk(x:Operand):JJ:=fun _ st=>ov st (Ow st x)
def YN(c a b:Operand):JJ:=fun _ st=>v1 st c fun c=>v1 st a fun a=>v1 st b fun b=>XF c a b st
def Pp(t:TypeId):JJ:=fun T st=>match fH T t with
 |some (s,n)=>.val (.ptr st.nx 0) (st.push (.arr false t s (zh n s.GA)))
 |none=>match Xw T t with|some cs=>.val (.ptr st.nx 0) (st.push (.box cs))|none=>.bad
def dK(_:TypeId)(x:Operand):JJ:=fun _ st=>v1 st x fun v=>match kI st v with|some cs=>bif Jz (Is st) cs then .val (.ptr st.nx 0) (st.push (.box cs))else .bad|none=>.bad
def Uh(t:TypeId)(ps:Array (Nat×Operand)):JJ:=fun T st=>match VK st ps.toList with|some l=>ov st (Sq T st t l)|none=>.bad
def RO(t:TypeId)(n:Nat)(ps:Array (Nat×Operand)):JJ:=fun T st=>match VK st ps.toList with|some l=>Qy T t n l st|none=>.bad
def Xi(t:TypeId)(x:Operand):JJ:=fun T st=>v1 st x fun a=>KS T st t a
def Uw(t:TypeId)(x y:Operand):JJ:=fun T st=>v1 st x fun a=>v1 st y fun b=>Tf T st t a b
def LY(x:Operand):JJ:=fun _ st=>v1 st x fun a=>match a with| .ptr id _| .eptr id _ _ _=>bif Ln (st.obj id)then .val a st else .bad| .dptr .. =>.val a st|_=>.bad
def eS(T:BZ)(op:BinOp)(t:TypeId)(x y:Operand)(a b:PV):Option Bool:=
 match op,a,b,T.und t with
 | .eql,.nili,.nili,some (.interface _)=>bif Ux x||Ux y then some true else none
 | .neq,.nili,.nili,some (.interface _)=>bif Ux x||Ux y then some false else none
 |_,_,_,_=>none
def dO(op:BinOp)(t:TypeId)(x y:Operand)(_:TypeId):JJ:=fun T st=>v1 st x fun a=>v1 st y fun b=>match eS T op t x y a b with|some r=>.val (.bl r) st|none=>gN T op t a b st
def kP(op:UnOp)(_:TypeId)(x:Operand):JJ:=fun _ st=>v1 st x fun a=>nW op a st
def Wz(s d:TypeId)(x:Operand):JJ:=fun T st=>v1 st x fun a=>WG T s d a st
def YD(f:Fn)(a b:Array Operand):JJ:=fun _ st=>match KY st a.toList,KY st b.toList with|some x,some y=>.val (.fn f x y) st|_,_=>.bad
def WR(t:TypeId)(l c:Operand):JJ:=fun T st=>v1 st l fun a=>v1 st c fun b=>YG T t a b st
def o1(st:AF)(x:Option Operand)(k:Option PV→PO):PO:=match x with|none=>k none|some y=>v1 st y fun v=>k (some v)
def UN(t:TypeId)(x:Operand)(a b c:Option Operand):JJ:=fun T st=>v1 st x fun v=>o1 st a fun l=>o1 st b fun h=>o1 st c fun m=>XH T t v l h m st
def UK(t:TypeId)(x:Operand)(f:Nat):JJ:=fun T st=>v1 st x fun a=>SY T t a f st
def TP(t:TypeId)(x:Operand)(f:Nat):JJ:=fun T st=>v1 st x fun a=>Sn T t a f st
def Us(t:TypeId)(x i:Operand):JJ:=fun T st=>v1 st x fun a=>v1 st i fun b=>Xf T t a b st
def UA(t:TypeId)(x i:Operand):JJ:=fun T st=>v1 st x fun a=>v1 st i fun b=>Tm T t a b st
def Oq(x:Operand)(i:Nat):JJ:=fun _ st=>v1 st x fun a=>Mm a i st
def Qa(c:Call):JJ:=fun T st=>
 match KY st c.args.toList with
 |none=>.bad
 |some args=>match c.callee with
  | .builtin b=>match b with
   | .delete=>Qz T c.argTypes args st
   |_=>Hw T b c.argTypes args st
  |_=>.bad
def UJ(t:TypeId)(r:Option Operand):JJ:=fun T st=>match r with|none=>SB T t st|some _=>.bad
def R4(t:TypeId)(x i:Operand)(ok:Bool):JJ:=fun T st=>v1 st x fun a=>v1 st i fun b=>PG T t a b ok st
def Mj(t:TypeId)(m k x:Operand):JJ:=fun T st=>v1 st m fun a=>v1 st k fun b=>v1 st x fun c=>PN T t a b c st
def Uu(t:TypeId)(x:Operand):JJ:=fun T st=>v1 st x fun a=>Tp T t a st
def XT(x:Operand)(isStr:Bool):JJ:=fun _ st=>v1 st x fun a=>Yl a isStr st
def Ie:JJ:=fun _ _=>.bad
def pop(o:Op):JJ:=@Op.casesOn (fun _=>JJ) o Sk Sk YN Pp dK Uh RO Mj Xi Uw (fun _=>Ie) (fun _=>Ie) LY dO kP Wz
 (fun _ _=>Ie) (fun _ _=>Ie) YD UJ (fun _ _=>Ie) WR UN UK TP Us UA R4 Mj (fun _ _ _=>Ie) (fun _ _ _ _=>Ie)
 Uu XT (fun _=>Ie) (fun _ _ _ _=>Ie) Oq Qa (fun _=>Ie) (fun _=>Ie) (fun _=>Ie) (fun _ _=>Ie) (fun _ _ _=>Ie) (fun _ _=>Ie)
end
theorem KV{s:List UInt8}{i:Nat}(h:i<s.length):(bytesOf s).get! i=s.getD i 0:=by
 unfold bytesOf;show(s.toArray)[i]! =_;simp[h]
theorem QY{s:List UInt8}{i:Nat}(h:i<s.length)(h2:(s.getD i 0).toNat<128):rune s i=((s.getD i 0).toNat:Int)∧Io s i=1:=by
 unfold rune Io zi;have e:=KV h;simp only[Nat.add_zero,e,h2,if_true];simp
theorem Ov{s:List UInt8}{i:Nat}(h:i<s.length)(h2:128≤(s.getD i 0).toNat):128≤rune s i:=by
 unfold rune zi;have e:=KV h;simp only[Nat.add_zero,e];rw[if_neg (by omega)];have hE:(128:Int)≤((Utf8.runeError:Nat):Int):=by decide
 split
 ·split
  ·rename_i hc;simp only;omega
  ·exact hE
 ·split
  ·split
   ·rename_i hc;simp only[ge_iff_le,Bool.and_eq_true,decide_eq_true_eq]at hc ⊢;omega
   ·exact hE
  ·split
   ·split
    ·rename_i hc;simp only[ge_iff_le,Bool.and_eq_true,decide_eq_true_eq]at hc ⊢;omega
    ·exact hE
   ·exact hE
end Go.Pe
namespace Go.Sp
def letter(c:Int):Bool:=(decide (97≤c)&&decide (c≤122))||(decide (65≤c)&&decide (c≤90))
def mark(c:Int):Bool:=letter c||(decide (48≤c)&&decide (c≤57))||c==95
def isName:List UInt8→Bool
 |[]=>false
 |c::s=>decide (s.length≤23)&&letter (c.toNat:Int)&&s.all fun c=>mark (c.toNat:Int)
end Go.Sp
end
section
namespace Go.Pe
open Go.Det
theorem Lr(a b:List UInt8):NU .str a b=decide (a=b):=by
 show(a==b)=_;by_cases h:a=b<;>simp[h]
theorem K8(k:IntKind)(a b:Int):NU (.int k) a b=decide (a=b):=by
 show(a==b)=_;by_cases h:a=b<;>simp[h]
theorem Il{v:Sh}(x k:List UInt8)(b:v.T):∀m:List (List UInt8×v.T),Bs .str v x (E4 .str v k b m)=if x=k then some b else Bs .str v x m
 |[]=>by
  show(bif NU .str x k then some b else none)=_;rw[Lr];by_cases h:x=k<;>simp[h,Bs]
 |(a,c)::m=>by
  show Bs .str v x (bif NU .str k a then(k,b)::m else(a,c)::E4 .str v k b m)=_;rw[Lr];by_cases h:k=a
  ·subst h;simp only[decide_true,cond_true];show(bif NU .str x k then some b else Bs .str v x m)=if x=k then some b else(bif NU .str x k then some c else Bs .str v x m)
   rw[Lr];by_cases h2:x=k<;>simp[h2]
  ·simp only[h,decide_false,cond_false];show(bif NU .str x a then some c else Bs .str v x (E4 .str v k b m))=if x=k then some b else(bif NU .str x a then some c else Bs .str v x m)
   rw[Lr,Il x k b m];by_cases h2:x=a
   ·subst h2;simp[Ne.symm h]
   ·simp[h2]
theorem Iq{v:Sh}{q:IntKind}(x k:Int)(b:v.T):∀m:List (Int×v.T),Bs (.int q) v x (E4 (.int q) v k b m)=if x=k then some b else Bs (.int q) v x m
 |[]=>by
  show(bif NU (.int q) x k then some b else none)=_;rw[K8];by_cases h:x=k<;>simp[h,Bs]
 |(a,c)::m=>by
  show Bs (.int q) v x (bif NU (.int q) k a then(k,b)::m else(a,c)::E4 (.int q) v k b m)=_;rw[K8];by_cases h:k=a
  ·subst h;simp only[decide_true,cond_true];show(bif NU (.int q) x k then some b else Bs (.int q) v x m)=if x=k then some b else(bif NU (.int q) x k then some c else Bs (.int q) v x m)
   rw[K8];by_cases h2:x=k<;>simp[h2]
  ·simp only[h,decide_false,cond_false];show(bif NU (.int q) x a then some c else Bs (.int q) v x (E4 (.int q) v k b m))=if x=k then some b else(bif NU (.int q) x a then some c else Bs (.int q) v x m)
   rw[K8,Iq x k b m];by_cases h2:x=a
   ·subst h2;simp[Ne.symm h]
   ·simp[h2]
def IE(m:List (List UInt8×Bool))(p:List UInt8→Prop):Prop:=∀x,(Bs .str .bool x m).getD false=true↔p x
theorem IE.nil:IE [] (fun _=>False):=fun x=>by simp[Bs]
theorem IE.add{m:List (List UInt8×Bool)}{p:List UInt8→Prop}(h:IE m p)(k:List UInt8):IE (E4 .str .bool k true m) (fun x=>x=k∨p x):=fun x=>by
 rw[Il];by_cases e:x=k
 ·simp[e]
 ·rw[if_neg e,h x];simp[e]
theorem IE.congr{m:List (List UInt8×Bool)}{p q:List UInt8→Prop}(h:IE m p)(e:∀x,p x↔q x):IE m q:=fun x=>(h x).trans (e x)
def FO(m:List (Int×Bool))(p:Int→Prop):Prop:=∀x:Int,(Bs (.int .i64) .bool x m).getD false=true↔p x
theorem FO.nil:FO [] (fun _=>False):=fun x=>by simp[Bs]
theorem FO.add{m:List (Int×Bool)}{p:Int→Prop}(h:FO m p)(k:Int):FO (E4 (.int .i64) .bool k true m) (fun x=>x=k∨p x):=fun x=>by
 rw[Iq];by_cases e:x=k
 ·simp[e]
 ·rw[if_neg e,h x];simp[e]
theorem FO.congr{m:List (Int×Bool)}{p q:Int→Prop}(h:FO m p)(e:∀x,p x↔q x):FO m q:=fun x=>(h x).trans (e x)
end Go.Pe
end
