import Derived.Test.YtlapcggejnojjaaGreatDoorX03
import Derived.Below
/- A part of a proof (no law is stated here). Made by program out of texts by AI agents. -/
open Nat renaming beq → zc, add → zf, ble → zk, blt → zl, mul → zm
open Int renaming toNat → zd
open BitVec renaming ofInt → ze
open Bool renaming and_eq_true → zg
open Go.Op renaming bytesLess → zh
open List renaming replicate → zi
open Go.Utf8 renaming decode → zj
section
namespace Go.Pe
open Go.Det
noncomputable section
mutual
def Kc:Value→Option PV
 | .bool b=>some (.bl b)
 | .int k n=>some (.dat (.int k) n)
 | .string s=>some (.dat .str s.data.toList)
 | .pointer none=>some .nilp
 | .slice none 0 0=>some .nil
 | .map none=>some .nilm
 | .nilFunc=>some .nilf
 | .nilIface=>some .nili
 | .func f ⟨[]⟩ ⟨[]⟩=>some (.fn f [] [])
 | .agg ⟨cs⟩=>(Un cs).map .agg
 | .tuple ⟨cs⟩=>(Un cs).map .tup
 |_=>none
def Un:List Value→Option (List PV)
 |[]=>some []
 |v::vs=>match Kc v,Un vs with
  |some x,some xs=>some (x::xs)
  |_,_=>none
end
def Sb:V→PV
 | .bool b=>.bl b
 | .int k n=>.dat (.int k) n
 | .str s=>.dat .str s
 | .nilp=>.nilp
 | .nils=>.nil
 | .nilm=>.nilm
 | .nilf=>.nilf
 | .nili=>.nili
 |_=>.any
def M0(st:AD):Operand→Option PV
 | .tmp t=>some (st.get t)
 | .const v=>Kc v
 | .global _=>none
 | .func f=>some (.fn (.func f) [] [])
def Kf(st:AD):List Operand→Option (List PV)
 |[]=>some []
 |x::xs=>match M0 st x,Kf st xs with
  |some v,some vs=>some (v::vs)
  |_,_=>none
def TG(st:AD):List (Nat×Operand)→Option (List (Nat×PV))
 |[]=>some []
 |(i,x)::xs=>match M0 st x,TG st xs with
  |some v,some vs=>some ((i,v)::vs)
  |_,_=>none
def Vt(T:BA)(t:TypeId):Option (List PV):=(T.inf t).bind fun i=>bif IX V.ok i.zero then some (i.zero.map Sb)else none
def pick(d:TypeDesc)(n:Nat)(cs:List PV):Option PV:=
 bif CS d then(bif zk n (Em cs)&&zl 0 n then some (.agg (Ps n cs))else none)
 else match cs with
  |v::_=>some v
  |[]=>none
def ov(st:AD):Option PV→PO
 |some v=>.val v st
 |none=>.bad
def bR(c:Bool)(st:AD):Option PV→PO
 |some v=>.G9 c v st
 |none=>.bad
def chunk(s:Sh):Nat→List PV→Option (List s.T)
 |0,_=>some []
 |n+1,cs=>match BW s cs with
  |some (x,cs')=>(chunk s n cs').map (x:: ·)
  |none=>none
def Mi(s:Sh)(l:List s.T):Nat→Nat→List PV
 |_,0=>[]
 |j,n+1=>flat s (l.getD j s.FC)++Mi s l (zf j 1) n
def fO:List V→Option Sh
 | .bool _::_=>some .bool
 | .int k _::_=>some (.int k)
 |_=>none
def bM:Sh→V→Bool
 | .bool,.bool b=> !b
 | .int k,.int k' n=>decide (k=k')&&decide (n=0)
 |_,_=>false
def Zy(T:BA)(t:TypeId):Option (Sh×Nat):=
 match T.und t,T.inf t with
 |some (.array _ _),some i=>match fO i.zero with
  |some s=>bif zk 32 (Em i.zero)&&IX (bM s) i.zero then some (s,Em i.zero)else none
  |none=>none
 |_,_=>none
def Kb(T:BA)(st:AD)(t:TypeId)(a:PV):PO:=
 match T.und t,T.inf t with
 |some d,some i=>match a with
  | .ptr id off=>match st.obj id with
   |some (.box cs)=>ov st (pick d i.size (HG off cs))
   |some (.arr _ _ s l)=>bif zc off 0&&zc s.sz 1 then bR (decide (l.length=i.size)) st (pick d i.size (Mi s l 0 i.size))else .bad
   |_=>.bad
  | .eptr id sz j off=>match st.obj id with
   |some (.arr _ _ s l)=>bif zc sz s.sz then bR (decide (j<l.length)) st (pick d i.size (HG off (flat s (l.getD j s.FC))))else .bad
   |_=>.bad
  | .dptr s x off=>ov st (pick d i.size (HG off (flat s x)))
  |_=>.bad
 |_,_=>.bad
def Kp:Option Obj→Bool
 |some _=>true
 |none=>false
def HH(st:AD):PV→Bool
 | .agg _| .tup _| .any| .ub=>false
 | .ptr id _| .eptr id _ _ _| .sl id _ _ _ _| .mp id| .yl id=>Kp (st.obj id)
 |_=>true
def bN(st:AD):PV→Option (List PV)
 | .agg l=>some l
 |p=>bif HH st p then some [p]else none
def Q9(T:BA)(st:AD)(t:TypeId)(a x:PV):PO:=
 match T.inf t,bN st x with
 |some i,some xs=>bif zc (Em xs) i.size&&IX (HH st) xs then
   match a with
   | .ptr id off=>match st.obj id with
    |some (.box cs)=>bif zk (zf off i.size) (Em cs)then .val (.tup []) (st.setObj id (.box (BP off xs cs)))else .bad
    |some (.arr false e s l)=>bif zc off 0&&zc s.sz 1 then
      match chunk s i.size xs with
      |some y=>.G9 (decide (l.length=i.size)) (.tup []) (st.setObj id (.arr false e s y))
      |none=>.bad
     else .bad
    |_=>.bad
   | .eptr id sz j off=>match st.obj id with
    |some (.arr false e s l)=>bif zc sz s.sz&&zk (zf off i.size) sz then
      match Dc s (BP off xs (flat s (l.getD j s.FC)))with
      |some y=>.G9 (decide (j<l.length)) (.tup []) (st.setObj id (.arr false e s (l.set j y)))
      |none=>.bad
     else .bad
    |_=>.bad
   |_=>.bad
  else .bad
 |_,_=>.bad
def FV(k:IntKind)(a b:Int):Int:=k.wrap (ze k.bits a&&&ze k.bits b).toNat
def TV(k:IntKind)(a b:Int):Int:=k.wrap (ze k.bits a|||ze k.bits b).toNat
def eO(k:IntKind)(a b:Int):Int:=k.wrap (ze k.bits a^^^ze k.bits b).toNat
def cK(k:IntKind)(a b:Int):Int:=k.wrap (ze k.bits a&&& ~~~ze k.bits b).toNat
def Zu(op:BinOp)(k:IntKind)(a b:Int)(st:AD):PO:=
 match op with
 | .add=>.val (.dat (.int k) (k.wrap (a+b))) st
 | .sub=>.val (.dat (.int k) (k.wrap (a-b))) st
 | .mul=>.val (.dat (.int k) (k.wrap (a*b))) st
 | .quo=>.G9 (decide (b≠0)) (.dat (.int k) (k.wrap (a.tdiv b))) st
 | .rem=>.G9 (decide (b≠0)) (.dat (.int k) (a.tmod b)) st
 | .and=>.val (.dat (.int k) (FV k a b)) st
 | .or=>.val (.dat (.int k) (TV k a b)) st
 | .xor=>.val (.dat (.int k) (eO k a b)) st
 | .andNot=>.val (.dat (.int k) (cK k a b)) st
 | .eql=>.val (.dat .bool (a==b)) st
 | .neq=>.val (.dat .bool (a !=b)) st
 | .lss=>.val (.dat .bool (decide (a<b))) st
 | .leq=>.val (.dat .bool (decide (a≤b))) st
 | .gtr=>.val (.dat .bool (decide (a>b))) st
 | .geq=>.val (.dat .bool (decide (a≥b))) st
 |_=>.bad
def fG(op:BinOp)(k:IntKind)(a b:Int)(st:AD):PO:=
 match op with
 | .shl=>.G9 (decide (0≤b)) (.dat (.int k) (k.wrap (a*2^(min b.toNat k.bits)))) st
 | .shr=>.G9 (decide (0≤b)) (.dat (.int k) (a.fdiv (2^(min b.toNat k.bits)))) st
 |_=>.bad
def ZN(op:BinOp)(x y:List UInt8)(st:AD):PO:=
 match op with
 | .add=>.G9 (decide (x.length+y.length≤4611686018427387904)) (.dat .str (x++y)) st
 | .eql=>.val (.dat .bool (x==y)) st
 | .neq=>.val (.dat .bool (!(x==y))) st
 | .lss=>.val (.dat .bool (zh x y)) st
 | .leq=>.val (.dat .bool (zh x y||x==y)) st
 | .gtr=>.val (.dat .bool (!(zh x y||x==y))) st
 | .geq=>.val (.dat .bool (!zh x y)) st
 |_=>.bad
def Yb:BinOp→Bool
 | .shl| .shr=>true
 |_=>false
def Hv:PV→Option Bool
 | .bl b=>some b
 | .dat .bool b=>some b
 |_=>none
def Fj:List FK→List PV→List PV→Option Bool
 |[],[],[]=>some true
 | .int k::ks,.dat (.int k1) a::xs,.dat (.int k2) b::ys=>bif k==k1&&k==k2 then(Fj ks xs ys).map fun r=>(a:Int)==(b:Int)&&r else none
 | .str::ks,.dat .str a::xs,.dat .str b::ys=>(Fj ks xs ys).map fun r=>(a:List UInt8)==(b:List UInt8)&&r
 | .bool::ks,a::xs,b::ys=>match Hv a,Hv b with
  |some a,some b=>(Fj ks xs ys).map fun r=>a==b&&r
  |_,_=>none
 |_,_,_=>none
def OI(st:AD)(ng:Bool)(x:PV):PO:=
 match x with
 | .nil=>.val (.bl (!ng)) st
 | .sl id _ _ _ _=>bif Kp (st.obj id)then .val (.bl ng) st else .bad
 | .dat (.list _) l=>.ite (decide (0<l.length)) (.val (.bl ng) st) (.val .ub st)
 | .dat (.nlist _) l=>.val (.dat .bool (bif ng then decide (0<l.length)else !decide (0<l.length))) st
 |_=>.bad
def VG(op:BinOp)(x y:PV)(st:AD):PO:=
 match op,x,y with
 | .eql,x,.nil=>OI st false x
 | .neq,x,.nil=>OI st true x
 |_,_,_=>.bad
def bG(T:BA)(op:BinOp)(t:TypeId)(x y:PV)(st:AD):PO:=
 match x,y with
 | .dat (.int k) a,.dat (.int k') b=>bif Yb op then fG op k a b st else(bif k==k' then Zu op k a b st else .bad)
 | .dat .str a,.dat .str b=>ZN op a b st
 | .agg xs,.agg ys=>match T.flat t with
  |some ks=>match op,Fj ks xs ys with
   | .eql,some r=>.val (.dat .bool r) st
   | .neq,some r=>.val (.dat .bool (!r)) st
   |_,_=>.bad
  |none=>.bad
 |x,y=>match Hv x,Hv y,T.und t with
  |some a,some b,some .bool=>match op with
   | .eql=>.val (.dat .bool (a==b)) st
   | .neq=>.val (.dat .bool (!(a==b))) st
   |_=>.bad
  |_,_,some (.slice _)=>VG op x y st
  |_,_,_=>.bad
def eH(op:UnOp)(x:PV)(st:AD):PO:=
 match op,x with
 | .neg,.dat (.int k) n=>.val (.dat (.int k) (k.wrap (0-(n:Int)))) st
 | .not,.bl b=>.val (.bl (!b)) st
 | .not,.ub=>.val .ub st
 | .not,.dat .bool b=>.val (.dat .bool (!b)) st
 |_,_=>.bad
def Vh(T:BA)(s d:TypeId)(x:PV)(st:AD):PO:=
 match T.und s,T.und d,x with
 |some _,some (.int k),.dat (.int _) n=>.val (.dat (.int k) (k.wrap n)) st
 |some .string,some .string,.dat .str s=>.val (.dat .str s) st
 |_,_,_=>.bad
def Wc(c a b:PV)(st:AD):PO:=
 match c with
 | .bl t=>.val (bif t then a else b) st
 | .dat .bool t=>match a,b with
  | .dat .bool x,.bl false=>.val (.dat .bool (t&&x)) st
  | .bl true,.dat .bool x=>.val (.dat .bool (t||x)) st
  |_,_=>.ite t (.val a st) (.val b st)
 |_=>.bad
def QT(T:BA)(t:TypeId)(x:PV)(f:Nat)(st:AD):PO:=
 match T.und t,x with
 |some (.struct fs),.agg cs=>match fs[f]? with
  |some fd=>match T.und fd.type,T.inf fd.type with
   |some d,some i=>ov st (pick d i.size (HG fd.offset cs))
   |_,_=>.bad
  |none=>.bad
 |_,_=>.bad
def RN(T:BA)(t:TypeId)(x:PV)(f:Nat)(st:AD):PO:=
 match T.und t with
 |some (.struct fs)=>match fs[f]? with
  |some fd=>match T.inf fd.type with
   |some i=>bif zc i.size 0 then .bad else match x with
    | .ptr id off=>bif Kp (st.obj id)then .val (.ptr id (zf off fd.offset)) st else .bad
    | .eptr id sz j off=>bif Kp (st.obj id)then .val (.eptr id sz j (zf off fd.offset)) st else .bad
    | .dptr s y off=>.val (.dptr s y (zf off fd.offset)) st
    |_=>.bad
   |none=>.bad
  |none=>.bad
 |_=>.bad
def OM(T:BA)(t:TypeId)(x ix:PV)(st:AD):PO:=
 match T.und t,ix with
 |some (.slice e),.dat (.int _) i=>match T.inf e with
  |some ti=>match x with
   | .dat (.list s) l=>bif zc ti.size s.sz then .G9 (decide (0≤(i:Int))&&decide ((i:Int)<(l.length:Int))) (.dptr s (l.getD (zd i) s.FC) 0) st else .bad
   | .sl id sz off len _=>bif zc ti.size sz&&Kp (st.obj id)then .G9 (decide (0≤(i:Int))&&decide ((i:Int)<(len:Int))) (.eptr id sz (zf (zd i) off) 0) st else .bad
   |_=>.bad
  |none=>.bad
 |some (.array len e),.dat (.int _) i=>match T.inf e with
  |some ti=>match x with
   | .ptr id off=>match st.obj id with
    |some (.arr _ _ s _)=>bif zc off 0&&zc ti.size s.sz then .G9 (decide (0≤(i:Int))&&decide ((i:Int)<(len:Int))) (.eptr id s.sz (zd i) 0) st else .bad
    |some _=>.G9 (decide (0≤(i:Int))&&decide ((i:Int)<(len:Int))) (.ptr id (zf off (zm (zd i) ti.size))) st
    |none=>.bad
   | .eptr id sz j off=>bif Kp (st.obj id)then .G9 (decide (0≤(i:Int))&&decide ((i:Int)<(len:Int))) (.eptr id sz j (zf off (zm (zd i) ti.size))) st else .bad
   | .dptr s y off=>.G9 (decide (0≤(i:Int))&&decide ((i:Int)<(len:Int))) (.dptr s y (zf off (zm (zd i) ti.size))) st
   |_=>.bad
  |none=>.bad
 |_,_=>.bad
def UF(T:BA)(t:TypeId)(x ix:PV)(st:AD):PO:=OM T t (lz x) ix st
def Q7(T:BA)(t:TypeId)(x ix:PV)(st:AD):PO:=
 match T.und t,x,ix with
 |some .string,.dat .str s,.dat (.int _) i=>.G9 (decide (0≤(i:Int))&&decide ((i:Int)<((s:List UInt8).length:Int))) (.dat (.int .u8) (((s:List UInt8).getD (zd i) 0).toNat:Int)) st
 |some (.array len e),.agg cs,.dat (.int _) i=>match T.und e,T.inf e with
  |some d,some ti=>bR (decide (0≤(i:Int))&&decide ((i:Int)<(len:Int))) st (pick d ti.size (HG (zm (zd i) ti.size) cs))
  |_,_=>.bad
 |_,_,_=>.bad
def Lt(x:PV)(i:Nat)(st:AD):PO:=
 match x with
 | .tup vs=>match vs[i]? with
  |some v=>.val v st
  |none=>.bad
 |_=>.bad
def pb(x:Option PV)(FC:Nat):Option (Bool×Nat):=
 match x with
 |none=>some (true,FC)
 |some (.dat (.int _) n)=>some (decide (0≤(n:Int)),zd n)
 |_=>none
def has(mx:Option PV)(c:Nat):Bool:=match mx with
 |none=>true
 |some _=>decide (0<c)
def NT(T:BA)(t:TypeId)(x:PV)(lo hi mx:Option PV)(st:AD):PO:=
 match T.und t with
 |some .string=>match x,mx with
  | .dat .str s,none=>match pb lo 0,pb hi (s:List UInt8).length with
   |some (c1,l),some (c2,h)=>.G9 (c1&&c2&&decide (l≤h)&&decide (h≤(s:List UInt8).length)) (.dat .str (((s:List UInt8).drop l).take (Nat.sub h l))) st
   |_,_=>.bad
  |_,_=>.bad
 |some (.slice e)=>match T.inf e with
  |some ti=>match x with
   | .dat (.list s) xs=>bif zc ti.size s.sz then
     match pb lo 0,pb hi xs.length,mx with
     |some (c1,l),some (c2,h),none=>.G9 (c1&&c2&&decide (l≤h)&&decide (h≤xs.length)) (.dat (.list s) ((xs.drop l).take (Nat.sub h l))) st
     |_,_,_=>.bad
    else .bad
   | .sl id sz off len cap=>bif zc ti.size sz&&Kp (st.obj id)then
     match hi,mx with
     |none,some _=>.bad
     |_,_=>match pb lo 0,pb hi len,pb mx (cap.getD len)with
      |some (c1,l),some (c2,h),some (c3,m)=>.G9 (c1&&c2&&c3&&decide (l≤h)&&decide (h≤m)&&decide (m≤cap.getD len)&&has mx (cap.getD len)) (.sl id sz (zf off l) (Nat.sub h l) (some (Nat.sub m l))) st
      |_,_,_=>.bad
    else .bad
   | .nil=>match pb lo 0,pb hi 0,mx with
    |some (c1,l),some (c2,h),none=>.G9 (c1&&c2&&decide (l≤h)&&decide (h≤0)) .nil st
    |some (c1,l),some (c2,h),some q=>match hi,pb (some q) 0 with
     |some _,some (c3,m)=>.G9 (c1&&c2&&c3&&decide (l≤h)&&decide (h≤m)&&decide (m≤0)) .nil st
     |_,_=>.bad
    |_,_,_=>.bad
   |_=>.bad
  |none=>.bad
 |_=>.bad
def WV(T:BA)(t:TypeId)(x:PV)(lo hi mx:Option PV)(st:AD):PO:=NT T t (lz x) lo hi mx st
def pi64(n:Nat):PV:=.dat (.int .i64) (Int.ofNat n)
def Qr(T:BA)(ts:Array TypeId)(args:List PV)(st:AD):PO:=
 match ts[0]?,args with
 |some t,[x]=>match T.und t,x with
  |some .string,.dat .str s=>.val (pi64 (s:List UInt8).length) st
  |some (.slice _),.dat (.list _) l=>.val (pi64 l.length) st
  |some (.slice _),.sl id _ _ len _=>bif Kp (st.obj id)then .val (pi64 len) st else .bad
  |some (.slice _),.nil=>.val (pi64 0) st
  |some (.map _ _),.mp id=>match st.obj id with
   |some (.map _ _ l)=>.val (pi64 l.length) st
   |_=>.bad
  |_,_=>.bad
 |_,_=>.bad
def XP(T:BA)(ts:Array TypeId)(args:List PV)(st:AD):PO:=Qr T ts (args.map lz) st
def cB(f:Int→Int→Int)(k:IntKind):Int→List PV→Option Int
 |x,[]=>some x
 |x,.dat (.int k') y::ys=>bif k==k' then cB f k (f x y) ys else none
 |_,_=>none
def KQ(f:Int→Int→Int)(args:List PV)(st:AD):PO:=
 match args with
 | .dat (.int k) x::ys=>match cB f k x ys with
  |some z=>.val (.dat (.int k) z) st
  |none=>.bad
 |_=>.bad
def imax(x y:Int):Int:=if y>x then y else x
def Dr(x y:Int):Int:=if y<x then y else x
def Km(st:AD)(s:Sh)(x:PV):Option (Bool×List s.T):=
 match x with
 | .nil=>some (true,[])
 | .dat (.list s') l=>(DQ (.list s') (.list s) l).map fun r=>(true,r)
 | .sl id sz off len _=>match st.obj id with
  |some (.arr _ _ s' l)=>bif zc sz s'.sz then(DQ (.list s') (.list s) l).map fun r=>(decide (off+len≤r.length),(r.drop off).take len)else none
  |_=>none
 |_=>none
def LN(st:AD)(s:Sh)(x:PV):Option (Bool×List s.T):=Km st s (lz x)
def bP:Nat:=281474976710656
def N8(T:BA)(ts:Array TypeId)(args:List PV)(st:AD):PO:=
 match ts[0]?,ts[1]?,args with
 |some t,some tx,[b,x]=>match T.und t,T.und tx with
  |some (.slice e),some (.slice _)=>match T.inf e,Rj T 9 e with
   |some i,some s=>
    bif zl 0 i.bytes&&zl 0 i.size&&zc i.zero.length i.size&&zc i.size s.sz then
     match LN st s x with
     |some (c,new)=>match b with
      | .nil=>match x with
       | .nil=>.val .nil st
       | .dat _ _=>.ite (decide (0<new.length)) (.G9 (c&&decide ((2*new.length+1000)*i.bytes≤bP)) (.sl st.nx s.sz 0 new.length none) (st.push (.arr false e s new))) (.val .nil st)
       | .sl _ _ _ _ (some _)=>.ite (decide (0<new.length)) (.G9 (c&&decide ((2*new.length+1000)*i.bytes≤bP)) (.sl st.nx s.sz 0 new.length none) (st.push (.arr false e s new))) (.G9 c .nil st)
       |_=>.G9 (c&&decide (0<new.length)&&decide ((2*new.length+1000)*i.bytes≤bP)) (.sl st.nx s.sz 0 new.length none) (st.push (.arr false e s new))
      | .sl id sz off len cap=>match st.obj id with
       |some (.arr false e' s' l)=>match DQ (.list s') (.list s) l with
        |some l'=>bif zc e e'&&zc sz s.sz then
          match cap with
          |none=>.G9 (c&&decide (off=0)&&decide (len=l'.length)&&decide ((2*(len+new.length)+1000)*i.bytes≤bP)) (.sl st.nx s.sz 0 (zf len new.length) none) ((st.NX id).push (.arr false e s (l'++new)))
          |some k=>.G9 (c&&decide (len+new.length≤k)&&decide (off+k≤l'.length)) (.sl id sz off (zf len new.length) (some k)) (st.setObj id (.arr false e s (l'.take (off+len)++(new++l'.drop (off+len+new.length)))))
         else .bad
        |none=>.bad
       |_=>.bad
      |_=>.bad
     |none=>.bad
    else .bad
   |_,_=>.bad
  |_,_=>.bad
 |_,_,_=>.bad
def Q4(T:BA)(ts:Array TypeId)(args:List PV)(st:AD):PO:=
 match ts[0]?,args with
 |some t,[x]=>match T.und t with
  |some (.slice e)=>match x with
   | .nil=>.val (.tup []) st
   | .sl id sz off len _=>match T.inf e,st.obj id with
    |some i,some (.arr false e' s l)=>
     bif zc sz s.sz&&zl 0 i.zero.length&&zc i.zero.length s.sz&&IX V.one i.zero then
      match Dc s (i.zero.map Sb)with
      |some z=>.G9 (decide (off+len≤l.length)) (.tup []) (st.setObj id (.arr false e' s (l.take off++(zi len z++l.drop (off+len)))))
      |none=>.bad
     else .bad
    |_,_=>.bad
   |_=>.bad
  |_=>.bad
 |_,_=>.bad
def Gt(T:BA)(b:Builtin)(ts:Array TypeId)(args:List PV)(st:AD):PO:=
 match b with
 | .len=>XP T ts args st
 | .append=>N8 T ts args st
 | .max=>KQ imax args st
 | .min=>KQ Dr args st
 | .clear=>Q4 T ts args st
 |_=>.bad
def rune(s:List UInt8)(pos:Nat):Int:=(zj (bytesOf s) pos).1
def HI(s:List UInt8)(pos:Nat):Nat:=(zj (bytesOf s) pos).2
def Rp(T:BA)(t:TypeId)(x:PV)(st:AD):PO:=
 match T.und t,x with
 |some .string,.dat .str s=>.val (.ptr st.nx 0) (st.push (.siter s 0))
 |_,_=>.bad
def WH(x:PV)(isStr:Bool)(st:AD):PO:=
 match x,isStr with
 | .ptr id 0,true=>match st.obj id with
  |some (.siter s pos)=>.ite (decide (pos<s.length)) (.val (.tup [.bl true,.dat (.int .i64) (Int.ofNat pos),.dat (.int .i32) (rune s pos)]) (st.setObj id (.siter s (zf pos (HI s pos))))) (.val (.tup [.bl false]) st)
  |_=>.bad
 |_,_=>.bad
def NF(st:AD)(place:Nat→Option (Nat×Nat))(cells:List PV):List (Nat×PV)→Option (List PV)
 |[]=>some cells
 |(i,v)::rest=>match place i with
  |none=>none
  |some (off,size)=>match bN st v with
   |some vs=>bif zc (Em vs) size&&zk (zf off size) (Em cells)then NF st place (BP off vs cells) rest else none
   |none=>none
def Q2(T:BA)(st:AD)(t:TypeId)(parts:List (Nat×PV)):Option PV:=
 match T.inf t,T.und t with
 |some i,some (.struct fs)=>
  match fs.toList.mapM (fun f=>(T.inf f.type).map fun j=>(f.offset,j.size))with
  |some pl=>(NF st (fun i=>pl[i]?) (i.zero.map Sb) parts).map .agg
  |none=>none
 |some i,some (.array _ e)=>match T.inf e with
  |some j=>(NF st (fun i=>some (i*j.size,j.size)) (i.zero.map Sb) parts).map .agg
  |none=>none
 |_,_=>none
def HX(z:List PV):Nat→List PV
 |0=>[]
 |n+1=>z++HX z n
def Cm(st:AD):PV→Option (Bool×PV)
 | .sl id sz off len _=>match st.obj id with
  |some (.arr _ _ s l)=>bif zc sz s.sz then some (decide (off+len≤l.length),.dat (.list s) ((l.drop off).take len))else none
  |_=>none
 | .dat s x=>some (true,.dat s x)
 | .bl b=>some (true,.bl b)
 | .nil=>some (true,.nil)
 |_=>none
def EI(st:AD):List PV→Option (Bool×List PV)
 |[]=>some (true,[])
 |v::vs=>match Cm st v,EI st vs with
  |some (c,x),some (d,xs)=>some (c&&d,x::xs)
  |_,_=>none
def A9(st:AD):PV→AD
 | .sl id _ _ _ _=>match st.obj id with
  |some (.arr _ e s l)=>st.setObj id (.arr true e s l)
  |_=>st
 |_=>st
def AZ:List PV→AD→AD
 |[],st=>st
 |v::vs,st=>AZ vs (A9 st v)
def OD(T:BA)(t:TypeId)(len:Nat)(parts:List (Nat×PV))(st:AD):PO:=
 match T.und t with
 |some (.slice e)=>match T.inf e,Rj T 9 e with
  |some i,some s=>
   bif zk (zm len i.size) 16777216&&zl 0 i.zero.length&&zc i.zero.length i.size&&zc i.size s.sz then
    match NF st (fun k=>some (k*i.size,i.size)) (HX (i.zero.map Sb) len) parts with
    |some cs=>match chunk s len cs with
     |some l=>.val (.sl st.nx s.sz 0 len none) (st.push (.arr false e s l))
     |none=>match EI st cs with
      |some (c,cs')=>match chunk s len cs' with
       |some l=>.G9 c (.sl st.nx s.sz 0 len none) ((AZ cs st).push (.arr false e s l))
       |none=>.bad
      |none=>.bad
    |none=>.bad
   else .bad
  |_,_=>.bad
 |_=>.bad
def WR(T:BA)(t:TypeId)(l c:PV)(st:AD):PO:=
 match T.und t,l,c with
 |some (.slice e),.dat (.int _) l,.dat (.int _) c=>match T.inf e,Rj T 9 e with
  |some i,some s=>
   bif zl 0 i.zero.length&&zc i.zero.length i.size&&zc i.size s.sz then
    match Dc s (i.zero.map Sb)with
    |some z=>.G9 (decide (0≤(l:Int))&&decide ((l:Int)=(c:Int))&&decide (i.bytes*zd l≤bP)&&decide ((l:Int)<9223372036854775808)) (.sl st.nx s.sz 0 (zd l) none) (st.push (.arr false e s (zi (zd l) z)))
    |none=>.bad
   else .bad
  |_,_=>.bad
 |_,_,_=>.bad
def Xx(T:BA)(t:TypeId):Option Sh:=match T.und t with
 |some (.int k)=>some (.int k)
 |some .string=>some .str
 |some .bool=>some .bool
 |_=>none
def Jn:PV→Bool
 | .agg _=>true
 |_=>false
def eX(s:Sh)(p:PV):Option s.T:=bif Jn p==s.MV then Dc s p.cells else none
def Q3(T:BA)(t:TypeId)(st:AD):PO:=match T.und t with
 |some (.map kt e)=>match Xx T kt,Rj T 9 e with
  |some ks,some vs=>.val (.mp st.nx) (st.push (.map ks vs []))
  |_,_=>.bad
 |_=>.bad
def VI(st:AD)(ks vs:Sh)(m:PV):Option (List (ks.T×vs.T)):=match m with
 | .nilm=>some []
 | .mp id=>match st.obj id with
  |some (.map ks' vs' l)=>DQ (.list (.pair ks' vs')) (.list (.pair ks vs)) l
  |_=>none
 |_=>none
def cM:V→Bool
 | .agg _=>true
 |_=>false
def cI(ks vs:Sh)(ok:Bool)(z:vs.T)(x:ks.T)(st:AD):List (ks.T×vs.T)→PO
 |[]=>.val (bif ok then .tup [Bz vs z,.bl false]else Bz vs z) st
 |(a,b)::l=>.ite (Nh ks x a) (.val (bif ok then .tup [Bz vs b,.bl true]else Bz vs b) st) (cI ks vs ok z x st l)
def ON(T:BA)(t:TypeId)(m k:PV)(ok:Bool)(st:AD):PO:=match T.und t with
 |some (.map kt e)=>match Xx T kt,Rj T 9 e,T.inf e with
  |some ks,some vs,some i=>match Zm ks k,VI st ks vs m,Dc vs (i.zero.map Sb)with
   |some x,some l,some z=>
    bif cM i.zv==vs.MV then bif vs.YS then cI ks vs ok z x st l else
     (let v:=Bz vs ((Dz ks vs x l).getD z)
     .val (bif ok then .tup [v,.dat .bool (Dz ks vs x l).isSome]else v) st)
    else .bad
   |_,_,_=>.bad
  |_,_,_=>.bad
 |_=>.bad
def Oj(T:BA)(t:TypeId)(m k v:PV)(st:AD):PO:=match T.und t,m with
 |some (.map kt _),.mp id=>match Xx T kt,st.obj id with
  |some ks,some (.map ks' vs l)=>match Zm ks k,DQ (.list (.pair ks' vs)) (.list (.pair ks vs)) l,eX vs v with
   |some x,some l,some y=>.val (.tup []) (st.setObj id (.map ks vs (FE ks vs x y l)))
   |_,_,_=>.bad
  |_,_=>.bad
 |_,_=>.bad
def OO(T:BA)(ts:Array TypeId)(args:List PV)(st:AD):PO:=match ts[0]?,args with
 |some t,[.mp id,k]=>match T.und t with
  |some (.map kt _)=>match Xx T kt,st.obj id with
   |some ks,some (.map ks' vs l)=>match Zm ks k,DQ (.list (.pair ks' vs)) (.list (.pair ks vs)) l with
    |some x,some l=>.val (.tup []) (st.setObj id (.map ks vs (Pb ks vs x l)))
    |_,_=>.bad
   |_,_=>.bad
  |_=>.bad
 |_,_=>.bad
abbrev IN:=BA→AD→PO
def v1(st:AD)(x:Operand)(k:PV→PO):PO:=match M0 st x with|some v=>k v|none=>.bad
def QS(x:Operand):IN:=fun _ st=>ov st (M0 st x)
def VF(c a b:Operand):IN:=fun _ st=>v1 st c fun c=>v1 st a fun a=>v1 st b fun b=>Wc c a b st
def N5(t:TypeId):IN:=fun T st=>match Zy T t with
 |some (s,n)=>.val (.ptr st.nx 0) (st.push (.arr false t s (zi n s.FC)))
 |none=>match Vt T t with|some cs=>.val (.ptr st.nx 0) (st.push (.box cs))|none=>.bad
def Zn(_:TypeId)(x:Operand):IN:=fun _ st=>v1 st x fun v=>match bN st v with|some cs=>bif IX (HH st) cs then .val (.ptr st.nx 0) (st.push (.box cs))else .bad|none=>.bad
def Sf(t:TypeId)(ps:Array (Nat×Operand)):IN:=fun T st=>match TG st ps.toList with|some l=>ov st (Q2 T st t l)|none=>.bad
def Qs(t:TypeId)(n:Nat)(ps:Array (Nat×Operand)):IN:=fun T st=>match TG st ps.toList with|some l=>OD T t n l st|none=>.bad
def Vj(t:TypeId)(x:Operand):IN:=fun T st=>v1 st x fun a=>Kb T st t a
def Ta(t:TypeId)(x y:Operand):IN:=fun T st=>v1 st x fun a=>v1 st y fun b=>Q9 T st t a b
def K5(x:Operand):IN:=fun _ st=>v1 st x fun a=>match a with| .ptr id _| .eptr id _ _ _=>bif Kp (st.obj id)then .val a st else .bad| .dptr .. =>.val a st|_=>.bad
def Y0(T:BA)(op:BinOp)(t:TypeId)(x y:Operand)(a b:PV):Option Bool:=
 match op,a,b,T.und t with
 | .eql,.nili,.nili,some (.interface _)=>bif SW x||SW y then some true else none
 | .neq,.nili,.nili,some (.interface _)=>bif SW x||SW y then some false else none
 |_,_,_,_=>none
def Zh(op:BinOp)(t:TypeId)(x y:Operand)(_:TypeId):IN:=fun T st=>v1 st x fun a=>v1 st y fun b=>match Y0 T op t x y a b with|some r=>.val (.bl r) st|none=>bG T op t a b st
def cQ(op:UnOp)(_:TypeId)(x:Operand):IN:=fun _ st=>v1 st x fun a=>eH op a st
def UX(s d:TypeId)(x:Operand):IN:=fun T st=>v1 st x fun a=>Vh T s d a st
def VQ(f:Fn)(a b:Array Operand):IN:=fun _ st=>match Kf st a.toList,Kf st b.toList with|some x,some y=>.val (.fn f x y) st|_,_=>.bad
def Vg(t:TypeId)(l c:Operand):IN:=fun T st=>v1 st l fun a=>v1 st c fun b=>WR T t a b st
def o1(st:AD)(x:Option Operand)(k:Option PV→PO):PO:=match x with|none=>k none|some y=>v1 st y fun v=>k (some v)
def SS(t:TypeId)(x:Operand)(a b c:Option Operand):IN:=fun T st=>v1 st x fun v=>o1 st a fun l=>o1 st b fun h=>o1 st c fun m=>WV T t v l h m st
def Sx(t:TypeId)(x:Operand)(f:Nat):IN:=fun T st=>v1 st x fun a=>RN T t a f st
def SI(t:TypeId)(x:Operand)(f:Nat):IN:=fun T st=>v1 st x fun a=>QT T t a f st
def SA(t:TypeId)(x i:Operand):IN:=fun T st=>v1 st x fun a=>v1 st i fun b=>UF T t a b st
def Ti(t:TypeId)(x i:Operand):IN:=fun T st=>v1 st x fun a=>v1 st i fun b=>Q7 T t a b st
def Nv(x:Operand)(i:Nat):IN:=fun _ st=>v1 st x fun a=>Lt a i st
def N6(c:Call):IN:=fun T st=>
 match Kf st c.args.toList with
 |none=>.bad
 |some args=>match c.callee with
  | .builtin b=>match b with
   | .delete=>OO T c.argTypes args st
   |_=>Gt T b c.argTypes args st
  |_=>.bad
def S7(t:TypeId)(r:Option Operand):IN:=fun T st=>match r with|none=>Q3 T t st|some _=>.bad
def P6(t:TypeId)(x i:Operand)(ok:Bool):IN:=fun T st=>v1 st x fun a=>v1 st i fun b=>ON T t a b ok st
def MA(t:TypeId)(m k x:Operand):IN:=fun T st=>v1 st m fun a=>v1 st k fun b=>v1 st x fun c=>Oj T t a b c st
def Di(t:TypeId)(x:Operand):IN:=fun T st=>v1 st x fun a=>Rp T t a st
def Vs(x:Operand)(isStr:Bool):IN:=fun _ st=>v1 st x fun a=>WH a isStr st
def HA:IN:=fun _ _=>.bad
def pop(o:Op):IN:=@Op.casesOn (fun _=>IN) o QS QS VF N5 Zn Sf Qs MA Vj Ta (fun _=>HA) (fun _=>HA) K5 Zh cQ UX
 (fun _ _=>HA) (fun _ _=>HA) VQ S7 (fun _ _=>HA) Vg SS Sx SI SA Ti P6 MA (fun _ _ _=>HA) (fun _ _ _ _=>HA)
 Di Vs (fun _=>HA) (fun _ _ _ _=>HA) Nv N6 (fun _=>HA) (fun _=>HA) (fun _=>HA) (fun _ _=>HA) (fun _ _ _=>HA) (fun _ _=>HA)
end
theorem JU{s:List UInt8}{i:Nat}(h:i<s.length):(bytesOf s).get! i=s.getD i 0:=by
 unfold bytesOf;show(s.toArray)[i]! =_;simp[h]
theorem Qe{s:List UInt8}{i:Nat}(h:i<s.length)(h2:(s.getD i 0).toNat<128):rune s i=((s.getD i 0).toNat:Int)∧HI s i=1:=by
 unfold rune HI zj;have e:=JU h;simp only[Nat.add_zero,e,h2,if_true];simp
theorem ND{s:List UInt8}{i:Nat}(h:i<s.length)(h2:128≤(s.getD i 0).toNat):128≤rune s i:=by
 unfold rune zj;have e:=JU h;simp only[Nat.add_zero,e];rw[if_neg (by omega)];have hE:(128:Int)≤((Utf8.runeError:Nat):Int):=by decide
 split
 ·split
  ·rename_i hc;simp only;omega
  ·exact hE
 ·split
  ·split
   ·rename_i hc;simp only[ge_iff_le,zg,decide_eq_true_eq]at hc ⊢;omega
   ·exact hE
  ·split
   ·split
    ·rename_i hc;simp only[ge_iff_le,zg,decide_eq_true_eq]at hc ⊢;omega
    ·exact hE
   ·exact hE
end Go.Pe
namespace Go.Sp
def letter(c:Int):Bool:=(decide (97≤c)&&decide (c≤122))||(decide (65≤c)&&decide (c≤90))
def mark(c:Int):Bool:=letter c||(decide (48≤c)&&decide (c≤57))||c==95
def isName:List UInt8→Bool
 |[]=>false
 |c::s=>decide (s.length≤23)&&letter (c.toNat:Int)&&s.all fun c=>mark (c.toNat:Int)
end Go.Sp
end
section
namespace Go.Pe
open Go.Det
theorem Ko(k:IntKind)(a b:Int):Nh (.int k) a b=decide (a=b):=by
 show(a==b)=_;by_cases h:a=b<;>simp[h]
theorem HF{v:Sh}{q:IntKind}(x k:Int)(b:v.T):∀m:List (Int×v.T),Dz (.int q) v x (FE (.int q) v k b m)=if x=k then some b else Dz (.int q) v x m
 |[]=>by
  show(bif Nh (.int q) x k then some b else none)=_;rw[Ko];by_cases h:x=k<;>simp[h,Dz]
 |(a,c)::m=>by
  show Dz (.int q) v x (bif Nh (.int q) k a then(k,b)::m else(a,c)::FE (.int q) v k b m)=_;rw[Ko];by_cases h:k=a
  ·subst h;simp only[decide_true,cond_true];show(bif Nh (.int q) x k then some b else Dz (.int q) v x m)=if x=k then some b else(bif Nh (.int q) x k then some c else Dz (.int q) v x m)
   rw[Ko];by_cases h2:x=k<;>simp[h2]
  ·simp only[h,decide_false,cond_false];show(bif Nh (.int q) x a then some c else Dz (.int q) v x (FE (.int q) v k b m))=if x=k then some b else(bif Nh (.int q) x a then some c else Dz (.int q) v x m)
   rw[Ko,HF x k b m];by_cases h2:x=a
   ·subst h2;simp[Ne.symm h]
   ·simp[h2]
def MW(m:List (Int×Bool))(p:Int→Prop):Prop:=∀x:Int,(Dz (.int .i64) .bool x m).getD false=true↔p x
theorem MW.nil:MW [] (fun _=>False):=fun x=>by simp[Dz]
theorem MW.add{m:List (Int×Bool)}{p:Int→Prop}(h:MW m p)(k:Int):MW (FE (.int .i64) .bool k true m) (fun x=>x=k∨p x):=fun x=>by
 rw[HF];by_cases e:x=k
 ·simp[e]
 ·rw[if_neg e,h x];simp[e]
theorem MW.congr{m:List (Int×Bool)}{p q:Int→Prop}(h:MW m p)(e:∀x,p x↔q x):MW m q:=fun x=>(h x).trans (e x)
end Go.Pe
end
section
namespace Go.Det
noncomputable section
abbrev TP:=FuncId→Option (List V→H→Option (V×H))
def Kd(P:Program)(s:TP):Prop:=∀f q,s f=some q→∀(p:Pl) (h:H) (w:World) (args:List V) (args':Array Value) v h',R p h w→Gp p→Al p args args'.toList→q args h=some (v,h')→
 Calls P f args' w fun e w'=>∃v' p',e=.returned v'∧Aa p' v v'∧Ext p h w p' h' w'
def bW(a b:TP):TP:=fun f=>match a f with
 |some q=>some q
 |none=>b f
variable {P:Program}
theorem QO{a b:TP}(ha:Kd P a)(hb:Kd P b):Kd P (bW a b):=by
 intro f q hq;unfold bW at hq;cases h:a f with
 |some q'=>rw[h]at hq;cases hq;exact ha f _ h
 |none=>rw[h]at hq;exact hb f q hq
def Sk(C:Ctx)(s:TP):Ctx:={ C with spec:=s }
theorem QC{C:Ctx}(hC:C.Ok P){s:TP}(h:Kd P s):(Sk C s).Ok P where
 T:=hC.T
 fn:=hC.fn
 prim:=hC.prim
 spec:=h
theorem J0{C:Ctx}(hce:Ez C)(s:TP):Ez (Sk C s):=hce
theorem NR{C:Ctx}(hC:C.Ok P)(hce:Ez C)(hm:P.follows .mixedOrders=true){n:Nat}{L:Ff}(h:Bu C n L=true):Kd P (EO L):=Yg (C':=C) hC hce hm h
theorem B0{C:Ctx}{n:Nat}:∀ {a b:Ff},Bu C n a=true→Bu C n b=true→Bu C n (a++b)=true
 |[],b,_,h=>h
 |(f,x,v)::a,b,h,k=>by
  simp only[Bu,List.cons_append,zg]at h ⊢;exact⟨h.1,B0 h.2 k⟩
def OP(C:Ctx)(n:Nat)(L:Ff):TP:=fun f=>match EO L f with
 |none=>none
 |some q=>some fun args h=>match q args h with
  |some x=>some x
  |none=>match AY C n (.fn f args) h with
   |some [x]=>some x
   |_=>none
theorem TD{C:Ctx}(hC:C.Ok P)(hce:Ez C)(hm:P.follows .mixedOrders=true){n k:Nat}{L:Ff}(ha:Bu C k L=true):Kd P (OP C n L):=by
 intro f q hq p h w args args' v h' hr hg hargs hqr;unfold OP at hq;cases hL:EO L f with
 |none=>rw[hL]at hq;cases hq
 |some q0=>
  rw[hL]at hq;cases hq;simp only at hqr;split at hqr
  case h_1=>rename_i x hx;cases hqr;exact NR hC hce hm ha f q0 hL p h w args args' v h' hr hg hargs hx
  case h_2=>
   split at hqr
   case h_2=>cases hqr
   rename_i x he;cases hqr;refine((Ga hC hce hm n).fn f args h _ he p w args' hr hg hargs).mono ?_;rintro e w' ⟨v1,h1,v',p',hmem,rfl,k1,k2⟩;cases List.mem_singleton.1 hmem;exact⟨v',p',rfl,k1,k2⟩
theorem T7{p:Pl}{h:H}{w w':World}(hr:R p h w)(hb:Go.RowKit.Below w.heap.size w w'):Ext p h w p h w':=by
 obtain⟨h1,h2,h3,h4,h5⟩:=hb;refine⟨⟨[],by simp⟩,⟨hr.len,fun b o hb=>?_,hr.inj⟩,h4,fun r hlt _=>h5 r hlt,fun r hi=>.inl hi,h1,h3,h2,fun r hlt hl=>⟨h5 r hlt,.inl hl⟩⟩;obtain⟨r,m,y,g1,g2,g3⟩:=hr.obj b o hb;exact⟨r,m,y,g1,by rw[h5 r (Array.getElem?_eq_some_iff.1 g2).1];exact g2,g3⟩
end
end Go.Det
end
