import Derived.Test.YtlohiljbghionaaGreatDoorX13
import Derived.Test.YtlohiljbghionaaGreatDoorX09
import Derived.Test.YtlohiljbghionaaGreatDoorX12
import Derived.Test.YtlohiljbghionaaGreatDoorX10
import Derived.Test.YtlohiljbghionaaGreatDoorX11
/- A part of a proof (no law is stated here). Made by program out of texts by AI agents. -/
noncomputable section
open Go.IntKind renaming wrap -> zc, i64 -> ze
open Go.Pe.Ends renaming tt -> zd, leaf -> zg, ff -> zo, eq -> zw, ite -> ya, Ah -> yi
open Go.Pe.Sh renaming str -> zf, list -> zi, bool -> zk, int -> zm, pair -> zx
open Bool renaming and_eq_true -> zh, true_and -> yx
open Go.Lib renaming decDigits -> zj, decDigits_length -> yo
open Int renaming toNat_natCast -> zl, eq_ofNat_of_zero_le -> zr, tmod -> zy, mul_le_mul_of_nonneg_left -> z6, lt_of_lt_of_le -> z8, natCast_pow -> yb, natCast_nonneg -> yg, tdiv -> yj, ofNat_lt -> yq, natAbs_natCast -> yr, tmod_eq_emod_of_nonneg -> yt, mul_zero -> y8, add_zero -> y9, mul_add -> qd, add_assoc -> qe, le_of_lt -> qi
open Go.Sp renaming vI -> zn, CS -> zp, rN -> yk, rW -> ym, AS -> yn, first -> yy, Df -> qg
open List renaming length_append -> zq, drop_eq_nil_of_le -> zt, take_of_length_le -> zu, length_drop -> zz, length_cons -> yc, length_flatten -> yf, length_pos_iff -> yp, take -> yz, length_eq_zero_iff -> y7, length -> qc, drop -> qj
open Nat renaming sub -> z7, add_sub_cancel -> yh, le_refl -> yv, mod_lt -> qf, add -> qh
open Go.Pe.Ad renaming of -> yd
open Go.Pe.PV renaming agg -> ye
open Rat renaming div_def -> yu
open UInt8 renaming ofNat -> yw
namespace Go.Sp
theorem Nu.CR{i j:Nat}{a b:Z}{p q:Rat}(d:Nu i a p)(c:Nu j b q):Nu (i+j+1) (Sp.CR a b) (p+q):=⟨by unfold Sp.CR;rw[d.rat,c.rat],d.z.add c.z⟩
theorem Nu.J6{i j:Nat}{a b:Z}{p q:Rat}(d:Nu i a p)(c:Nu j b q):Nu (i+j+1) (Sp.J6 a b) (p-q):=⟨by unfold Sp.J6;rw[d.rat,c.rat],d.z.sub c.z⟩
theorem Nu.Ka{i j:Nat}{a b:Z}{p q:Rat}(d:Nu i a p)(c:Nu j b q):Nu (i+j) (Sp.Ka a b) (p*q):=⟨by unfold Sp.Ka;rw[d.rat,c.rat],d.z.mul c.z⟩
theorem Nu.KK{i j:Nat}{a b:Z}{p q:Rat}(d:Nu i a p)(c:Nu j b q)(h0:q≠0):Nu (i+j) (Sp.KK a b) (p/q):=⟨by unfold Sp.KK;rw[d.rat,c.rat],d.z.div c.z h0⟩
theorem Ww{q:Rat}{k:Nat}(h:Hf k q):Hf k (q.floor:Rat):=by
 obtain⟨a,b⟩:=h;have c:=q.den_pos;unfold Hf;rw[Rat.num_intCast,Rat.den_intCast,Rat.floor_def];refine⟨Nat.lt_of_le_of_lt (Int.natAbs_ediv_le_natAbs _ _) a,by omega⟩
def bU(w:Z):Nat:=max (A8<|AA w).length (S5 w).length
def Yw(n:Int):Bool:=decide (n.natAbs<9223372036854775808)
def XH(n:Int):Z:=AU ((n:Int):Rat)
def CY(n m:Int):Int:=if n=0 then 12 else if m<n then 5 else 0
end Go.Sp
namespace Go.Pe
open Go.Det
def nC:Am:=⟨[i64,i64],fun _=>true,[i64],fun i=>Sp.CY i.1 i.2,false⟩
def RN:Am:=⟨[.str,i64,i64,.str],fun i=>decide (qc (α:=UInt8) i.2.2.2<=1000000),[.bool],fun i=>Sp.ES i.1 i.2.1 i.2.2.2 i.2.2.1,false⟩
def pE:Am:=⟨[i64],fun n=>Sp.Yw n,[.str],fun n=>Sp.XH n,false⟩
def AcO:AV:=X7 [(50,Hd),(51,G3)]
def AcX:AV:=X7 [(134,Yx),(135,fR)]
def ZG:AV:=X7 [(80,TL)]
def zY:AV:=X7 [(97,Ii),(96,PA)]
end Go.Pe
namespace Go.Sp
def Dr(q:Rat):Int:= -(-q).floor
theorem H7{q:Rat}{n:Int}:Dr q<=n↔q<=(n:Rat):=by
 unfold Dr;have h:=Rat.le_floor_iff (x:= -n) (a:= -q);rw[Rat.intCast_neg]at h;constructor
 ·intro k;have:=h.1 (by omega);exact Rat.neg_le_neg_iff.1 this
 ·intro k;have:=h.2<|Rat.neg_le_neg k;omega
theorem Tn{q:Rat}{n:Int}:n<Dr q↔(n:Rat)<q:=by
 have:=H7 (q:=q) (n:=n);constructor
 ·intro h;exact Rat.not_le.1 fun k=>by have:=this.2 k;omega
 ·intro h;have h':¬Dr q<=n:=fun k=>Rat.not_le.2 h<|this.1 k
  omega
theorem ceil_add_one(q:Rat):Dr (q+1)=Dr q+1:=by
 have b:Dr (q+1)<=Dr q+1:=by
  rw[H7,Rat.intCast_add,show((1:Int):Rat)=1 from rfl];exact Rat.add_le_add_right.2<|H7.1<|Int.le_refl _
 have a:Dr q<=Dr (q+1)-1:=by
  rw[H7,Rat.intCast_sub,show((1:Int):Rat)=1 from rfl];have:=H7.1<|Int.le_refl<|Dr<|q+1;grind
 omega
def Vq(p h n r:Rat):Int:=max 1<|Dr<|(p-h+n)/(n+r)
def Sa(p h n r:Rat):Int:=if p-(h+r)<=0 then 1 else 1+Dr ((p-(h+r))/(n+r))
theorem dL{p h n r:Rat}(b:0<n+r):(p-h+n)/(n+r)=(p-(h+r))/(n+r)+1:=by
 have e:p-h+n=(p-(h+r))+(n+r):=by grind
 have c:(n+r)/(n+r)=1:=by
  have:=Rat.mul_div_cancel (a:=1)<|Rat.ne_of_gt b;rwa [Rat.one_mul]at this
 rw[e,yu,Rat.add_mul, <-yu, <-yu,c]
theorem Ya{a b:Rat}(c:0<b)(d:a<=0):a/b<=0:=by
 refine Rat.le_of_mul_le_mul_right ?_ c;rw[Rat.div_mul_cancel<|Rat.ne_of_gt c,Rat.zero_mul];exact d
theorem QO{a b:Rat}(c:0<b)(d:0<a):0<a/b:=by
 rw[yu];exact Rat.mul_pos d<|Rat.inv_pos.2 c
theorem vL{p h n r:Rat}(a:0<n+r):Vq p h n r=Sa p h n r:=by
 unfold Vq Sa;rw[dL a,ceil_add_one];split
 ·next k=>
  have:=H7.2<|show(p-(h+r))/(n+r)<=((0:Int):Rat)from Ya a k;omega
 ·next k=>
  have:=Tn.2<|show((0:Int):Rat)<(p-(h+r))/(n+r)from QO a<|Rat.not_le.1 k;omega
def rT(p h n r:Rat):Rat:=if p<=h+r then p*h/(h+r)else h+(p-(h+r))*n/(n+r)
abbrev BW:=B0×B0×B0×List BM×List BM
abbrev Io:=B0×Int
abbrev BX:=B0×B0×B0×B0×List Io
abbrev Ct:=B0×List Int
abbrev AT:=List BX×List Ct×List BW
def BI(a:B0)(lo b:Int):Int:=if At a≠0 then At a else if Au a<(lo:Rat)\/(b:Rat)<Au a then 3 else 0
def ZA(seen:List B0):List BM->Int
 |[]=>0
 |w::l=>if isName w.1=false then 8 else if has seen w.1=true then 9 else if At w.2≠0 then At w.2 else if Au w.2<0 then 3 else ZA (w.1::seen) l
def NL(l:List BM):Int:=if 16<l.length then 5 else ZA [] l
def RX:Option B0->List BM->Int
 |_,[]=>0
 |none,p::l=>RX (some p.2) l
 |some y,p::l=>if E0 p.2 y<0 then 11 else RX (some p.2) l
def Mh(l:BW):Int:=first [Cj (!isName l.1) 8,BI l.2.1 1 10000,BI l.2.2.1 1 10000,B2 l.2.2.2.1]
def JL(l:BW):Int:=if Mh l≠0 then Mh l else if RX none l.2.2.2.1≠0 then RX none l.2.2.2.1 else NL l.2.2.2.2
def fF:List Io->Int
 |[]=>0
 |o::l=>if isName o.1=false then 8 else if o.2<0\/10<o.2 then 3 else fF l
def Uf(s:BX):Int:=first [BI s.1 (-10000) 10000,BI s.2.1 (-10000) 10000,BI s.2.2.1 0 10000,BI s.2.2.2.1 0 10000,Cj (decide (16<s.2.2.2.2.length)) 5]
def K5(s:BX):Int:=if Uf s≠0 then Uf s else fF s.2.2.2.2
def I4:List BX->Int
 |[]=>0
 |s::l=>if K5 s≠0 then K5 s else I4 l
def Er(l:List Int):Bool:=l.any fun n=>decide (n<1)||decide (10000<n)
def FV(n:Int)(seen:List B0):List Ct->Int
 |[]=>0
 |t::l=>if isName t.1=false then 8 else if has seen t.1=true then 9 else if (t.2.length:Int)≠n then 2 else if Er t.2=true then 3 else FV n (t.1::seen) l
def LN(seen:List B0):List BW->Int
 |[]=>0
 |l::r=>if JL l≠0 then JL l else if has seen l.1=true then 9 else LN (l.1::seen) r
def NN(c:AT):Int:=if c.2.2=[]then 12 else if 8<c.2.2.length then 5 else LN [] c.2.2
def Ut(c:AT):Int:=if c.2.1=[]then 12 else if 8<c.2.1.length then 5 else if FV (c.1.length:Int) [] c.2.1≠0 then FV (c.1.length:Int) [] c.2.1 else NN c
def NU(c:AT):Int:=if c.1=[]then 12 else if 36<c.1.length then 5 else if I4 c.1≠0 then I4 c.1 else Ut c
def IA(l:List BM)(n m:Nat):Bool:=l.all fun p=>decide (p.1.length<=n)&&decide (p.2.length<=m)
def BB(l:BW):Bool:=decide (l.1.length<=40)&&decide (l.2.1.length<=20)&&decide (l.2.2.1.length<=20)&&decide (l.2.2.2.1.length<=70)&&decide (l.2.2.2.2.length<=20)&&IA l.2.2.2.1 20 20&&IA l.2.2.2.2 40 20
def BY(s:BX):Bool:=decide (s.1.length<=20)&&decide (s.2.1.length<=20)&&decide (s.2.2.1.length<=20)&&decide (s.2.2.2.1.length<=20)&&decide (s.2.2.2.2.length<=20)
def Ds(t:Ct):Bool:=decide (t.1.length<=40)&&decide (t.2.length<=40)
def He(c:AT):Bool:=decide (c.1.length<=38)&&decide (c.2.1.length<=10)&&decide (c.2.2.length<=10)&&c.1.all BY&&c.2.1.all Ds&&c.2.2.all BB
def P2(l:BW):Bool:=decide (l.2.1.length<=20)&&decide (l.2.2.1.length<=20)&&decide (l.2.2.2.1.length<=70)&&IA l.2.2.2.1 20 20&&l.2.2.2.2.all fun p=>decide (p.2.length<=20)
def AcW(t:Ct):Bool:=decide (t.2.length<=4611686018427387904)
def sU(c:AT):Bool:=decide (c.1.length<=38)&&decide (c.2.1.length<=10)&&decide (c.2.2.length<=10)&&c.1.all BY&&c.2.1.all AcW&&c.2.2.all P2
def Bu(c:AT)(h:Int):BX:=c.1.getD h.toNat ([],[],[],[],[])
def G6(c:AT)(t h:Int):Int:=(c.2.1.getD t.toNat ([],[])).2.getD h.toNat 0
def Cw(c:AT)(l:Int):BW:=c.2.2.getD l.toNat ([],[],[],[],[])
def KO(i n:Int):Bool:=decide (i<0)||decide (n<=i)
def J8(c:AT)(b:Bool):Int:=if NU c≠0 then NU c else if b=true then 10 else 0
def VH(c:AT)(t:Int):Bool:=KO t (c.2.1.length:Int)
def K0(c:AT)(h:Int):Bool:=KO h (c.1.length:Int)
def cT(c:AT)(l:Int):Bool:=KO l (c.2.2.length:Int)
def Mw(c:AT)(t h:Int):Int:=J8 c<|VH c t||K0 c h
def Ew(c:AT)(t h l:Int):Int:=J8 c<|VH c t||(K0 c h||cT c l)
def AdS(c:AT)(h l:Int):Int:=J8 c<|K0 c h||cT c l
def plV(s:BX)(n:Int):Rat:=let p:=(n:Rat)+(Au s.1+Au s.2.1+Au s.2.2.1);if p<0 then 0 else p
def El(c:AT)(t h:Int):Rat:=plV (Bu c h)<|G6 c t h
def Nk(c:AT)(t h l:Int):Int:=Vq (El c t h) (Au (Cw c l).2.1) (Au (Cw c l).2.2.1)<|Au (Bu c h).2.2.2.1
def Tw(c:AT)(t h l:Int):Rat:=rT (El c t h) (Au (Cw c l).2.1) (Au (Cw c l).2.2.1)<|Au (Bu c h).2.2.2.1
def fC(c:AT)(t h:Int):B0:=fI (Mw c t h)<|El c t h
def fH(c:AT)(t h:Int):Int:=fB (Mw c t h)<|El c t h
def WL(c:AT)(t h l:Int):Int:=if Ew c t h l≠0 then 0 else Nk c t h l
def Z6(c:AT)(t h l:Int):B0:=fI (Ew c t h l)<|Tw c t h l
def YT(c:AT)(t h l:Int):Int:=fB (Ew c t h l)<|Tw c t h l
def NK(c:AT)(t h:Int):B0:=AU<|El c t h
def efR(c:AT)(t h l:Int):B0:=AU<|Tw c t h l
def zF:Ak:=((0,CW 0),(1,CW 1))
def iF(n:Int):Ak:=((n,CW n),(1,CW 1))
def lO(c:AT)(t h:Int):Ak:=Ci (iF<|G6 c t h)<|Ci (Ci (Ci zF<|Fk (Bu c h).1)<|Fk (Bu c h).2.1)<|Fk (Bu c h).2.2.1
def Of(c:AT)(t h:Int):Ak:=if P4 (lO c t h)<0 then zF else lO c t h
def Ik(c:AT)(h:Int):Ak:=Fk (Bu c h).2.2.2.1
def G2(c:AT)(l:Int):Ak:=Fk (Cw c l).2.1
def LF(c:AT)(l:Int):Ak:=Fk (Cw c l).2.2.1
def qI(c:AT)(t h l:Int):Ak:=if FZ (Of c t h) (Ci (G2 c l)<|Ik c h)<=0 then KN (LW (Of c t h)<|G2 c l) (Ci (G2 c l)<|Ik c h)else Ci (G2 c l)<|KN (LW (NW (Of c t h)<|Ci (G2 c l)<|Ik c h)<|LF c l)<|Ci (LF c l)<|Ik c h
def AeO(c:AT)(t h:Int):Int:=nS<|Of c t h
def Afg(c:AT)(t h:Int):List Int:=nW<|Of c t h
def AeI(c:AT)(t h:Int):Int:=dS<|Of c t h
def AeR(c:AT)(t h:Int):List Int:=dW<|Of c t h
def AeU(c:AT)(t h l:Int):Int:=nS<|qI c t h l
def AeB(c:AT)(t h l:Int):List Int:=nW<|qI c t h l
def AeX(c:AT)(t h l:Int):Int:=dS<|qI c t h l
def AeN(c:AT)(t h l:Int):List Int:=dW<|qI c t h l
def TO(l:List (Int×Int)):Bool:=l.any fun p=>KO p.1 p.2
def K4(c:AT)(l:List (Int×Int)):Int:=J8 c<|TO l
def Y2(c:AT)(t h:Int):Bool:=He c&&decide (Mw c t h=0)
def bD(c:AT)(t h l:Int):Bool:=He c&&decide (Ew c t h l=0)
def okO(c:AT)(h l:Int):Bool:=He c&&decide (AdS c h l=0)
def fD(l:BW):Bool:=decide (l.2.2.2.2.length<=4398046511104)
def smS(s:BX):Bool:=decide (s.2.2.2.2.length<=5864062014805)
def zO(c:AT):Bool:=decide (c.1.length<=1599289640401)&&decide (c.2.1.length<=3518437208883)&&decide (c.2.2.length<=1466015503701)&&c.1.all smS&&c.2.2.all fD
def GO(n:Int):Bool:=decide (-100000<n)&&decide (n<100000)
def J4(s:B0)(l:List B0):Int:=if isName s=false then 8 else if has l s=true then 9 else 0
end Go.Sp
namespace Go.Pe
open Sp
open Go.Det
abbrev BB:Sh:=.pair .str<|.pair .str<|.pair .str<|.pair (.list CE)<|.list CE
abbrev qK:Sh:=.pair .str i64
abbrev BY:Sh:=.pair .str<|.pair .str<|.pair .str<|.pair .str<|.list qK
abbrev Ds:Sh:=.pair .str AdQ
abbrev BF:Sh:=.pair (.list BY)<|.pair (.list Ds)<|.list BB
def aT:Am:=⟨[.str],fun _=>true,[.bool],fun s=>Sp.isName s,false⟩
def Wx:Am:=⟨[.str,i64,i64],fun i=>decide (qc (α:=UInt8) i.1<=1000000)&&GO i.2.1&&GO i.2.2,[i64],fun i=>BI i.1 i.2.1 i.2.2,false⟩
def AbN:Am:=⟨[.list CE],fun l=>IA l 40 20,[i64],fun l=>NL l,false⟩
def cLv:Am:=⟨[BB],fun l=>Sp.BB l,[i64],fun l=>JL l,false⟩
def bX:Am:=⟨[BY],fun s=>Sp.BY s,[i64],fun s=>K5 s,false⟩
def cCo:Am:=⟨[BF],fun c=>He c,[i64],fun c=>NU c,false⟩
def Abe:Am:=⟨[BB],fun l=>P2 l,[i64],fun l=>JL l,false⟩
def AdA:Am:=⟨[BF],fun c=>sU c,[i64],fun c=>NU c,false⟩
def Y6:Am:=⟨[BB],fun _=>true,[.bool],fun l=>Sp.BB l,false⟩
def wK:Am:=⟨[BF],fun _=>true,[.bool],fun c=>He c,false⟩
def J3:Am:=⟨[BF],fun c=>zO c,[BF],fun c=>c,false⟩
def oU:Am:=⟨[BB],fun l=>fD l,[BB],fun l=>l,false⟩
def Un:Am:=⟨[BF,.list<|.pair i64 i64],fun i=>He i.1&&decide (qc (α:=Int×Int) i.2<=1000),[i64],fun i=>K4 i.1 i.2,false⟩
def cPl:Am:=⟨[BF,i64,i64],fun i=>Y2 i.1 i.2.1 i.2.2,[AB],fun i=>((AeO i.1 i.2.1 i.2.2,Afg i.1 i.2.1 i.2.2),(AeI i.1 i.2.1 i.2.2,AeR i.1 i.2.1 i.2.2)),false⟩
def cEf:Am:=⟨[BF,i64,i64,i64],fun i=>bD i.1 i.2.1 i.2.2.1 i.2.2.2,[AB],fun i=>((AeU i.1 i.2.1 i.2.2.1 i.2.2.2,AeB i.1 i.2.1 i.2.2.1 i.2.2.2),(AeX i.1 i.2.1 i.2.2.1 i.2.2.2,AeN i.1 i.2.1 i.2.2.1 i.2.2.2)),false⟩
def Zc:Am:=⟨[BF,i64,i64],fun i=>He i.1,[.str,i64],fun i=>(fC i.1 i.2.1 i.2.2,fH i.1 i.2.1 i.2.2),false⟩
def Aae:Am:=⟨[BF,i64,i64,i64],fun i=>He i.1,[i64,i64],fun i=>(WL i.1 i.2.1 i.2.2.1 i.2.2.2,Ew i.1 i.2.1 i.2.2.1 i.2.2.2),false⟩
def AcD:Am:=⟨[BF,i64,i64,i64],fun i=>He i.1,[.str,i64],fun i=>(Z6 i.1 i.2.1 i.2.2.1 i.2.2.2,YT i.1 i.2.1 i.2.2.1 i.2.2.2),false⟩
def Abn:Am:=⟨[BF,i64,i64],fun i=>Y2 i.1 i.2.1 i.2.2,[.str],fun i=>NK i.1 i.2.1 i.2.2,false⟩
def Xy:Am:=⟨[BF,i64,i64,i64],fun i=>bD i.1 i.2.1 i.2.2.1 i.2.2.2,[i64],fun i=>Nk i.1 i.2.1 i.2.2.1 i.2.2.2,false⟩
def Ad1:Am:=⟨[BF,i64,i64,i64],fun i=>bD i.1 i.2.1 i.2.2.1 i.2.2.2,[.str],fun i=>Sp.efR i.1 i.2.1 i.2.2.1 i.2.2.2,false⟩
def Ue:Am:=⟨[.str,.list .str],fun i=>decide (qc (α:=Z) i.2<=1000),[i64],fun i=>J4 i.1 i.2,false⟩
def Adx:AV:=X7 [(122,Fc),(55,NH),(56,V7),(103,cF),(51,G3)]
def tG:AV:=X7 [(52,aT),(50,Hd),(51,G3),(122,Fc),(55,NH),(115,gT)]
def vW:AV:=X7 [(52,aT),(50,Hd),(51,G3),(53,Wx),(54,Lz),(55,NH),(56,V7),(57,AbN)]
def tM:AV:=X7 [(52,aT),(50,Hd),(51,G3),(53,Wx)]
def LA:AV:=X7 [(63,nC),(64,bX),(52,aT),(50,Hd),(51,G3),(13,cLv)]
def sP:AV:=X7 [(15,cCo),(51,G3)]
def E1:AV:=X7 []
def AdL:AV:=X7 [(62,Fc),(36,Sc),(97,Ii),(96,PA)]
def uP:AV:=X7 [(58,aT)]
def Re:AV:=X7 [(58,aT),(59,Wx),(60,Lz),(36,Sc),(61,Ue),(62,Fc),(38,MN)]
def rU:AV:=X7 [(59,Wx),(58,aT)]
def E6:AV:=X7 [(67,bX),(61,Ue),(14,Abe)]
def Q9:AV:=X7 [(11,Y6)]
def BU:AV:=WY [(10,[2])] [(10,[(2,[(1,BF)])])] [(10,[(18,[1,2,3,8]),(16,[1,2,3,8]),(14,[1,2,3,7]),(12,[1,2,3,7]),(9,[1,2,3,4,5,6]),(7,[1,2,3,4,5,6]),(5,[1,2,3,4]),(3,[1,2,3,4]),(2,[1,2,3])])] [(12,oU)]
end Go.Pe
namespace Go.Sp
def ceI(a:Ak):AG:=Cn<|Et (Cn a.1) a.2
def ceS(a:Ak):Int:=(ceI a).1
def ceW(a:Ak):List Int:=(ceI a).2
def eE(s:B0):Bool:=H5 s&&decide (s.length<=20)&&Du s&&decide (0<=BC s)&&decide (BC s<1000000000)
def rL(c:AT):Int:=(c.2.1.length:Int)
def wJ(c:AT):Int:=(c.1.length:Int)
def nLv(c:AT):Int:=(c.2.2.length:Int)
def Mc(a e bad b:Int):Bool:=if bad≠0 then decide (a=0)&&decide (e=bad)else decide (e=0)&&decide (a=b)
end Go.Sp
namespace Go.Pe
open Sp
open Go.Det
abbrev AdT:Sh:=.pair i64<|.pair i64 i64
def Aak:Am:=⟨[AB],fun a=>zp (a:Ak),[AY],fun a=>(Sp.ceS a,Sp.ceW a),false⟩
def Yj:Am:=⟨[.str],fun s=>eE s,[i64,.bool],fun s=>(BC s,true),false⟩
def mQ:Am:=⟨[AY],fun _=>true,[i64,.bool],fun a=>((a:AG).1,decide ((a:AG).2=[])),false⟩
def zP:Am:=⟨[BF,i64],fun _=>true,[.pair i64 i64],fun i=>(i.2,rL i.1),false⟩
def jM:Am:=⟨[BF,i64],fun _=>true,[.pair i64 i64],fun i=>(i.2,wJ i.1),false⟩
def aL:Am:=⟨[BF,i64],fun _=>true,[.pair i64 i64],fun i=>(i.2,Sp.nLv i.1),false⟩
def Aaf:Am:=⟨[i64,i64],fun _=>true,[.bool],fun i=>KO i.1 i.2,false⟩
def Zm:Am:=⟨[i64,i64,i64,i64],fun _=>true,[.bool],fun i=>Mc i.1 i.2.1 i.2.2.1 i.2.2.2,false⟩
def OI:Am:=⟨[BF,AdT],fun i=>zO i.1,[.bool],fun _=>true,false⟩
def AcK:AV:=X7 [(137,nJ),(142,iA),(143,RP)]
def Tz:AV:=WY [(72,[2])] [(72,[(2,[(3,BF),(7,BY)])])] [(72,[(2,[1,2,3,6,7])])] [(55,NH),(103,cF),(75,RR),(115,gT)]
def kF:AV:=WY [(79,[4,6])] [(79,[(4,[(10,AB),(11,AB),(12,AB),(13,AB),(14,AB)])])] [(79,[(4,[8,10,11,12,13,14]),(6,[8,10,11,12,13,14])])] [(72,cPl),(55,NH),(56,V7),(75,RR),(74,lG),(102,gV),(76,pO)]
def XV:AV:=WY [(18,[6,7])] [(18,[(6,[(4,BF),(12,AB),(13,AB),(14,AB)])])] [(18,[(6,[1,2,4,8,9,12,13,14]),(7,[8,9,15])])] [(69,zP),(70,jM),(73,aL),(68,Un),(71,Y5),(72,cPl),(79,cEf),(55,NH),(75,RR),(74,lG),(76,pO),(77,Aak),(78,mQ)]
def uV:AV:=X7 [(148,SG),(149,Ox)]
def Acv:AV:=X7 [(35,pE),(33,RL),(36,Sc)]
def AaA:AV:=X7 [(24,Abn),(33,RL),(37,iX),(34,Ws),(82,zS),(36,Sc),(38,MN),(84,YO),(85,Y9),(83,Yj)]
def S3:AV:=WY [(4,[2,10])] [(4,[(2,[(2,BF),(3,AdT),(5,BF)])])] [(4,[(2,[2,3,5]),(10,[2,3,5,6,7,8,9,10,11,12])])] [(8,Yt),(10,J3),(9,wK),(17,Zc),(18,Aae),(19,AcD),(16,cCo),(22,RN),(21,Aaf),(20,G3),(23,Zm),(24,Abn),(25,Xy),(26,Ad1)]
section
open List Int Prod
namespace T21
def T(i n:Int):Tr:=tree E1 false 9 21<|Ae ([zm ze,zm ze]) (i,n)
theorem Ai(i n:Int):T i n=.di (i<0) (.leaf (.bl true) []) (.leaf (.dat zk<|decide (i>=n)) []):=by kernel_rfl
end T21
namespace T20
def T(b:Bool)(e:Int):Tr:=tree E1 false 9 20<|Ae ([zk,zm ze]) (b,e)
theorem Ai(b:Bool)(e:Int):T b e=.ite b (.leaf (.dat i64 e) []) (.leaf (.dat i64 (0:Int)) []):=by kernel_rfl
end T20
namespace T23
def T(h e b w:Int):Tr:=tree E1 false 9 23<|Ae ([zm ze,zm ze,zm ze,zm ze]) (h,e,b,w)
theorem Ai(h e b w:Int):T h e b w=.ite (b !=0) (.ite (h==0) (.leaf (.dat zk<|e==b) [])<|.leaf (.bl false) []) (.ite (e==0) (.leaf (.dat zk<|h==w) [])<|.leaf (.bl false) []):=by kernel_rfl
end T23
namespace T4
def T(c:AT)(a:Int×Int×Int):Tr:=tree S3 false 9 4<|Ae ([BF,zx i64<|zx i64 i64]) (c,a)
def L1(v2:AT)(v3:Int×Int×Int)(v5:AT):Tr:=re ((T ([],([],[])) (0,(0,0))).L)<|Aw 139 [(2,PV.Bx BF v2 0),(3,PV.Bx (zx i64<|zx i64 i64) v3 0),(5,PV.Bx BF v5 0)] [] 0
theorem Ai(c:AT)(a:Int×Int×Int):T c a=.ck (zO c) (L1 c a c):=by kernel_rfl
def L2(v2:AT)(v3:Int×Int×Int)(v5:AT)(e:Z)(d f v9:Int)(b:Z)(c a:Int):Tr:=re ((stepT S3<|L1 ([],([],[])) (0,(0,0)) ([],([],[]))).L.R.L.R.L.L.L.L.L.L.L.L)<|Aw 139 [(2,PV.Bx BF v2 0),(3,PV.Bx (zx i64<|zx i64 i64) v3 0),(5,PV.Bx BF v5 0),(6,.dat zf e),(7,.dat i64 d),(8,.dat i64 f),(9,.dat i64 v9),(10,.dat zf b),(11,.dat i64 c),(12,.dat i64 a)] [] 0
theorem Al(v2:AT)(v3:Int×Int×Int)(v5:AT):stepT S3 (L1 v2 v3 v5)=let a:=fst<|snd v3;let b':=snd<|snd v3;let g:Tr:=.ck true<|.leaf (.dat zk true) [];let d:=Ew v2 (fst v3) a b';let c:=WL v2 (fst v3) a b';let e:=Z6 v2 (fst v3) a b';let f:=YT v2 (fst v3) a b';let h':=fC v2 (fst v3) a;let b:=fH v2 (fst v3) a;.ck true (.ite false g<|.ck true<|.ite (!He v5) g<|.ck (He v2)<|.ck (He v2)<|.ck (He v2)<|.ck (He v5)<|.ite (NU v5==0) (.ck true<|.ite (KO (fst v3) (↑(length<|fst<|snd v2):Int)) (.ck true<|L2 v2 v3 v5 h' b c d e f<|Cj true 10)<|.ck true<|.ck true<|L2 v2 v3 v5 h' b c d e f<|Cj (KO a (↑(length<|fst v2):Int)) 10)<|L2 v2 v3 v5 h' b c d e f<|NU v5):=by kernel_rfl
theorem AH(v2:AT)(v3:Int×Int×Int)(v5:AT)(h:Z)(g e v9:Int)(b:Z)(c a:Int):stepT S3 (L2 v2 v3 v5 h g e v9 b c a)=let d:=fst<|snd v3;let b':Tr:=.leaf (.bl false) [];let f:=snd<|snd v3;let i:=decide (0<=1000000);let k:=bD v5 (fst v3) d f;let l:=Sp.efR v5 (fst v3) d f;let j:=NK v5 (fst v3) d;.ite (a !=0) (.ck i<|.ite (ES h g [] a) (.ck true<|.ite (Mc e v9 a 0) (.ck i<|.leaf (.dat zk<|ES b c [] a) []) b') b') (.ck (Y2 v5 (fst v3) d)<|.cd (length j<=1000000)<|.ite (!ES h g j 0) b'<|.ck true<|.ite (KO f (↑(length<|snd<|snd v2):Int)) (.ck true<|.ite (Mc e v9 10 0) (.ck i<|.leaf (.dat zk<|ES b c [] 10) []) b')<|.ck k<|.ck true<|.ite (Mc e v9 0<|Nk v5 (fst v3) d f) (.ck k<|.cd (length l<=1000000)<|.leaf (.dat zk<|ES b c l 0) []) b'):=by kernel_rfl
end T4
namespace T83
def T(s:Z):Tr:=tree uV false 9 83<|Ae ([zf]) s
def L1(v5 c:Int)(b:Bool)(a:List Int):Tr:=re ((T []).L.R.R.L)<|Aw 62 [(4,.ptr 0 0),(5,.dat i64 v5),(6,.dat i64 c)] [(0,.box [.dat zk b,.dat (zi i64) a])] 1
theorem Ai(s:Z):T s=let a:Tr:=.leaf (.tup [.dat i64 (0:Int),.bl false]) [];.cd (length s<=1000000) (.ite (!H5 s) a<|.di ((length s:Int)>20) a<|.ck (Du s)<|L1 0 (zc .i64<|(↑(length<|D9 s):Int)-1) (Gy s)<|D9 s):=by kernel_rfl
theorem Al(v5 b:Int)(d:Bool)(a:List Int):stepT uV (L1 v5 b d a)=let c:Tr:=.leaf (.tup [.dat i64 (0:Int),.bl false]) [];let e:=0-getD a (toNat b) 0;let h:=decide (v5<(-9223372036));let h':=zc .i64<|b-1;let g:=decide (v5>9223372036);let i:=L1 (zc .i64<|zc .i64 (v5*1000000000)+zc .i64 e) h' d a;let j:=L1 (zc .i64<|zc .i64 (v5*1000000000)+getD a (toNat b) 0) h' d a;let f:Tr:=.ite (v5==(-9223372036)) (.di (zc .i64 e<(-854775808)) c i) i;let b':Tr:=.ite (v5==(-9223372036)) (.di (getD a (toNat b) 0<(-854775808)) c j) j;.di (b>=0) (.ck (decide (0<=b)&&decide (b<(length a:Int)))<|.ite d (.ite g c<|.ite h c<|.ite (v5==9223372036) (.di (zc .i64 e>854775807) c f) f)<|.ite g c<|.ite h c<|.ite (v5==9223372036) (.di (getD a (toNat b) 0>854775807) c b') b') (.leaf (.tup [.dat i64 v5,.bl true]) []):=by kernel_rfl
end T83
namespace T24
def T(c:AT)(t h:Int):Tr:=tree Acv false 9 24<|Ae ([BF,zm ze,zm ze]) (c,t,h)
theorem Ai(c:AT)(t h:Int):T c t h=let a:=getD (fst c) (toNat h) ([],[],[],[],[]);let e:=snd<|getD (fst<|snd c) (toNat t) ([],[]);let b:=CR (fst<|snd a)<|fst<|snd<|snd a;let d:=getD e (toNat h) 0;let b':=CR (XH d)<|CR (fst a) b;.ck (decide (0<=h)&&decide (h<(↑(length<|fst c):Int))) (.ck (decide (0<=t)&&decide (t<(↑(length<|fst<|snd c):Int)))<|.ck (decide (0<=h)&&decide (h<(↑(length e):Int)))<|.ck (Yw d)<|.ck (Bj (fst<|snd a)&&Bj (fst<|snd<|snd a))<|.ck (Bj (fst a)&&Bj b)<|.ck (Bj (XH d)&&Bj (CR (fst a) b))<|.ck (Bj b'&&Ep [(48:UInt8)])<|.di (E0 b' [(48:UInt8)]>=0) (.leaf (.dat zf b') [])<|.leaf (.dat zf [(48:UInt8)]) []):=by kernel_rfl
end T24
namespace T25
def T(c:AT)(t h l:Int):Tr:=tree AaA false 9 25<|Ae ([BF,zm ze,zm ze,zm ze]) (c,t,h,l)
theorem Ai(c:AT)(t h l:Int):T c t h l=let b:=fst<|snd<|snd<|snd<|getD (fst c) (toNat h) ([],[],[],[],[]);let a:=snd<|getD (snd<|snd c) (toNat l) ([],[],[],[],[]);let b':=CR (fst a) b;let g:=CR (fst<|snd a) b;let d:=J6 (NK c t h) b';let e:=KK d g;let f:=M6<|GD e;.ck (decide (0<=l)&&decide (l<(↑(length<|snd<|snd c):Int))) (.ck (decide (0<=h)&&decide (h<(↑(length<|fst c):Int)))<|.ck (Y2 c t h)<|.ck (Bj (fst a)&&Bj b)<|.ck (Bj (NK c t h)&&Ep b')<|.cd (length d<=1000000)<|.di (EU d<=0) (.leaf (.dat i64 (1:Int)) [])<|.ck (Bj (fst<|snd a)&&Bj b)<|.ck (Bj d&&eP g)<|.cd (length e<=1000000)<|.ck (Bj<|GD e)<|.cd (length f<=1000000)<|.ck (eE<|GD f)<|.leaf (.dat i64<|zc .i64<|1+BC (GD f)) []):=by kernel_rfl
end T25
namespace T26
def T(c:AT)(t h l:Int):Tr:=tree AaA false 9 26<|Ae ([BF,zm ze,zm ze,zm ze]) (c,t,h,l)
theorem Ai(c:AT)(t h l:Int):T c t h l=let a:=snd<|getD (snd<|snd c) (toNat l) ([],[],[],[],[]);let b':=fst<|snd<|snd<|snd<|getD (fst c) (toNat h) ([],[],[],[],[]);let b:=NK c t h;let d:=CR (fst a) b';let e:=fst<|snd a;let g:=Ka (J6 b d) e;let f:=CR e b';let h':=Bj b&&Ep d;.ck (decide (0<=l)&&decide (l<(↑(length<|snd<|snd c):Int))) (.ck (decide (0<=h)&&decide (h<(↑(length<|fst c):Int)))<|.ck (Y2 c t h)<|.ck (Bj (fst a)&&Bj b')<|.ck h'<|.di (E0 b d<=0) (.ck (Bj b&&Bj (fst a))<|.ck (Bj (Ka b<|fst a)&&eP d)<|.leaf (.dat zf<|KK (Ka b<|fst a) d) [])<|.ck h'<|.ck (Bj (J6 b d)&&Bj e)<|.ck (Bj e&&Bj b')<|.ck (Bj g&&eP f)<|.ck (Bj (fst a)&&Bj (KK g f))<|.leaf (.dat zf<|CR (fst a)<|KK g f) []):=by kernel_rfl
end T26
namespace T69
def T(c:AT)(n:Int):Tr:=tree E1 false 9 69<|Ae ([BF,zm ze]) (c,n)
theorem Ai(c:AT)(n:Int):T c n=.leaf (ye [.dat i64 n,.dat i64 (↑(length<|fst<|snd c):Int)]) []:=by kernel_rfl
end T69
namespace T70
def T(c:AT)(n:Int):Tr:=tree E1 false 9 70<|Ae ([BF,zm ze]) (c,n)
theorem Ai(c:AT)(n:Int):T c n=.leaf (ye [.dat i64 n,.dat i64 (↑(length<|fst c):Int)]) []:=by kernel_rfl
end T70
namespace T73
def T(c:AT)(n:Int):Tr:=tree E1 false 9 73<|Ae ([BF,zm ze]) (c,n)
theorem Ai(c:AT)(n:Int):T c n=.leaf (ye [.dat i64 n,.dat i64 (↑(length<|snd<|snd c):Int)]) []:=by kernel_rfl
end T73
namespace T77
def T(a:Ak):Tr:=tree AcK false 9 77<|Ae ([AB]) a
theorem Ai(a:Ak):T a=let b:=((Eg<|fst a,Em<|fst a),fst<|snd a,snd<|snd a);.ck (Sp.C6<|fst a) (.ck (zp b)<|.ck (Sp.C6 (Sp.flS b,Sp.flW b))<|.leaf (ye [.dat i64<|Eg (Sp.flS b,Sp.flW b),.dat wU<|Em (Sp.flS b,Sp.flW b)]) []):=by kernel_rfl
end T77
namespace T78
def T(a:AG):Tr:=tree E1 false 9 78<|Ae ([AY]) a
theorem Ai(a:AG):T a=.leaf (.tup [.dat i64<|fst a,.dat zk !decide (0<length (snd a))]) []:=by kernel_rfl
end T78
namespace T72
def T(c:AT)(t h:Int):Tr:=tree Tz false 9 72<|Ae ([BF,zm ze,zm ze]) (c,t,h)
def L1(v1 v2:Int)(v3:AT)(b:BX)(c a:Int):Tr:=re ((T ([],([],[])) 0 0).L)<|Aw 38 [(1,.dat i64 v1),(2,.dat i64 v2),(3,PV.Bx BF v3 0),(6,.ptr 0 0),(7,PV.Bx BY b 0)] [(0,.box [.dat i64 c,.nil,.dat i64 a,.nil])] 1
theorem Ai(c:AT)(t h:Int):T c t h=.ck (decide (0<=h)&&decide (h<(↑(length<|fst c):Int))) (L1 t h c ((getD (fst c) (toNat h) ([],[],[],[],[]))) 0 0):=by kernel_rfl
def L2(v1 v2:Int)(v3:AT)(k:BX)(l b:Int)(g:Nat)(i j n:Int)(d:List Int)(c:Int)(f:List Int)(m e:Int)(o1:List Z)(h:Int)(a:Int):Tr:=re ((stepT Tz<|L1 v1 v2 v3 k l b).L.L.L.L)<|Aw 22 [(1,PV.fn (Go.Fn.func 55) [] []),(4,.ptr 2 0),(5,.ptr 3 0),(9,.sl 1 1 0 g none),(10,.dat i64 i),(11,.dat i64 j)] [(3,.box [.dat i64 n,.dat wU d,.dat i64 c,.dat wU f]),(2,.box [.dat i64 m,.nil,.dat i64 e,.nil]),(1,.arr false 27 zf o1),(0,.box [.dat i64 h,.nil,.dat i64 a,.nil])] 4
theorem Al(v1 v2:Int)(v3:AT)(b:BX)(c a:Int):stepT Tz (L1 v1 v2 v3 b c a)=.ck (decide (0<=v1)&&decide (v1<(↑(length<|fst<|snd v3):Int))) (.ck (decide (0<=v2)&&decide (v2<(↑(length<|snd<|getD (fst<|snd v3) (toNat v1) ([],[])):Int)))<|.ck true<|.ck true<|L2 v1 v2 v3 b c a 3 3 0 0 (CW 0) 1 (CW 1) 0 0 ([fst b,fst<|snd b,fst<|snd<|snd b]) c a):=by kernel_rfl
theorem AH(v1 v2:Int)(v3:AT)(m:BX)(n d:Int)(j:Nat)(i a p:Int)(f:List Int)(e:Int)(g:List Int)(o c:Int)(o1:List Z)(k:Int)(b:Int):stepT Tz (L2 v1 v2 v3 m n d j i a p f e g o c o1 k b)=let b':=((p,f),e,g);let q:=snd<|getD (fst<|snd v3) (toNat v1) ([],[]);let r:=getD o1 (toNat a) [];let h:=((getD q (toNat v2) 0,CW<|getD q (toNat v2) 0),1,CW 1);let l:=Fk r;.di (a<i) (.ck (decide (0<=a)&&decide (a<(↑j:Int)))<|.cd (toNat a<length o1)<|.ck (Eu r)<|.ck (zp b'&&zp l)<|L2 v1 v2 v3 m n d j i (zc .i64<|a+1) (UP b' l) (Wu b' l) (U3 b' l) (UH b' l) o c o1 k b) (.ck (zp h&&zp b')<|.ck (Sp.C6<|fst<|Ci h b')<|.di (P4 (Ci h b')<0) (.ck true<|.leaf (ye [.dat i64 (0:Int),.dat wU<|CW 0,.dat i64 (1:Int),.dat wU<|CW 1]) [])<|.leaf (ye [.dat i64<|UP h b',.dat wU<|Wu h b',.dat i64<|U3 h b',.dat wU<|UH h b']) []):=by kernel_rfl
end T72
namespace T17
def T(c:AT)(t h:Int):Tr:=tree XV false 9 17<|Ae ([BF,zm ze,zm ze]) (c,t,h)
theorem Ai(c:AT)(t h:Int):T c t h=let a:=Of c t h;.ck true (.ck true<|.ck (decide (2<=2)&&true&&(He c&&decide (2<=1000)))<|.ite (K4 c [(t,rL c),(h,wJ c)] !=0) (.leaf (.tup [.dat zf [],.dat i64<|K4 c [(t,rL c),(h,wJ c)]]) [])<|.ck (Y2 c t h)<|.ck (qg a)<|.leaf (.tup [.dat zf<|PI a,.dat i64<|Pu a]) []):=by kernel_rfl
end T17
namespace T79
def T(c:AT)(t h l:Int):Tr:=tree kF false 9 79<|Ae ([BF,zm ze,zm ze,zm ze]) (c,t,h,l)
def L1(d e b f c:Ak)(g a:Int):Tr:=re ((T ([],([],[])) 0 0 0).L.L.L.L.L.L.L)<|Aw 60 [(8,.ptr 0 0),(10,PV.Bx AB d 0),(11,PV.Bx AB e 0),(12,PV.Bx AB b 0),(13,PV.Bx AB f 0),(14,PV.Bx AB c 0)] [(0,.box [.dat i64 g,.nil,.dat i64 a,.nil])] 1
theorem Ai(c:AT)(t h l:Int):T c t h l=let a:=snd<|getD (snd<|snd c) (toNat l) ([],[],[],[],[]);let b':=fst<|snd<|snd<|snd<|getD (fst c) (toNat h) ([],[],[],[],[]);let b:=Fk<|fst a;.ck (decide (0<=l)&&decide (l<(↑(length<|snd<|snd c):Int))) (.ck (decide (0<=h)&&decide (h<(↑(length<|fst c):Int)))<|.ck (Eu b')<|.ck (Y2 c t h)<|.ck (Eu<|fst a)<|.ck (Eu<|fst<|snd a)<|.ck (zp b&&zp (Fk b'))<|L1 ((Fk b')) ((Of c t h)) b ((Fk<|fst<|snd a)) ((Ci b<|Fk b')) 0 0):=by kernel_rfl
def L2(d e b f c:Ak)(g a:Int):Tr:=re ((stepT kF<|L1 ((0,[]),(0,[])) ((0,[]),(0,[])) ((0,[]),(0,[])) ((0,[]),(0,[])) ((0,[]),(0,[])) 0 0).L.R)<|Aw 60 [(8,.ptr 0 0),(10,PV.Bx AB d 0),(11,PV.Bx AB e 0),(12,PV.Bx AB b 0),(13,PV.Bx AB f 0),(14,PV.Bx AB c 0)] [(0,.box [.dat i64 g,.nil,.dat i64 a,.nil])] 1
theorem Al(e b c g a:Ak)(h d:Int):stepT kF (L1 e b c g a h d)=let f:=LW b c;.ck (qg b&&qg a) (.di (FZ b a<=0) (.ck (zp b&&zp c)<|.ck (zp f&&zp a&&decide (zn (fst a)≠0))<|.leaf (ye [.dat i64<|zN f a,.dat wU<|yU f a,.dat i64<|yS f a,.dat wU<|yM f a]) [])<|L2 e b c g a h d):=by kernel_rfl
theorem AH(d e a b c:Ak)(i g:Int):stepT kF (L2 d e a b c i g)=let b':=NW e c;let h:=Ci b d;let f:=KN (LW b' b) h;.ck (zp e&&zp c) (.ck (zp b'&&zp b)<|.ck (zp b&&zp d)<|.ck (zp (LW b' b)&&zp h&&decide (zn (fst h)≠0))<|.ck (zp a&&zp f)<|.leaf (ye [.dat i64<|UP a f,.dat wU<|Wu a f,.dat i64<|U3 a f,.dat wU<|UH a f]) []):=by kernel_rfl
end T79
namespace T18
def T(c:AT)(t h l:Int):Tr:=tree XV false 9 18<|Ae ([BF,zm ze,zm ze,zm ze]) (c,t,h,l)
def L1(v1 v2:Int)(v4:AT)(d v9:Int)(a c b:Ak):Tr:=re ((T ([],([],[])) 0 0 0).L.L.L.L.R.L.L.L.L.L)<|Aw 69 [(1,.dat i64 v1),(2,.dat i64 v2),(4,PV.Bx BF v4 0),(8,.dat i64 d),(9,.dat i64 v9),(12,PV.Bx AB a 0),(13,PV.Bx AB c 0),(14,PV.Bx AB b 0)] [] 0
theorem Ai(c:AT)(t h l:Int):T c t h l=let a:=snd<|getD (snd<|snd c) (toNat l) ([],[],[],[],[]);let b':=fst<|snd<|snd<|snd<|getD (fst c) (toNat h) ([],[],[],[],[]);.ck true (.ck true<|.ck true<|.ck (decide (3<=3)&&true&&(He c&&decide (3<=1000)))<|.ite (K4 c [(t,rL c),(h,wJ c),(l,Sp.nLv c)] !=0) (.leaf (.tup [.dat i64 (0:Int),.dat i64<|K4 c [(t,rL c),(h,wJ c),(l,Sp.nLv c)]]) [])<|.ck (decide (0<=l)&&decide (l<(↑(length<|snd<|snd c):Int)))<|.ck (decide (0<=h)&&decide (h<(↑(length<|fst c):Int)))<|.ck (Eu b')<|.ck (Eu<|fst a)<|.ck (Eu<|fst<|snd a)<|L1 t h c 0 0 ((Fk b')) ((Fk<|fst a))<|(Fk<|fst<|snd a)):=by kernel_rfl
def L2(b v9 a:Int):Tr:=re ((stepT XV<|L1 0 0 ([],([],[])) 0 0 ((0,[]),(0,[])) ((0,[]),(0,[])) ((0,[]),(0,[]))).L.L.L.L.L.L.L)<|Aw 69 [(8,.dat i64 b),(9,.dat i64 v9),(15,.dat i64 a)] [] 0
theorem Al(v1 v2:Int)(v4:AT)(f v9:Int)(b c a:Ak):stepT XV (L1 v1 v2 v4 f v9 b c a)=let e:=NW (Of v4 v1 v2) c;let b':=Ci a b;let d:=Ci e a;.ck (Y2 v4 v1 v2) (.ck (zp (Of v4 v1 v2)&&zp c)<|.ck (zp e&&zp a)<|.ck (zp a&&zp b)<|.ck (zp d&&zp b'&&decide (zn (fst b')≠0))<|.ck (zp<|KN d b')<|.ck true<|L2 f v9<|Sp.ceS<|KN d b'):=by kernel_rfl
theorem AH(b v9 a:Int):stepT XV (L2 b v9 a)=.leaf (.tup [.dat i64<|imax 1 a,.dat i64 (0:Int)]) []:=by kernel_rfl
end T18
namespace T19
def T(c:AT)(t h l:Int):Tr:=tree XV false 9 19<|Ae ([BF,zm ze,zm ze,zm ze]) (c,t,h,l)
theorem Ai(c:AT)(t h l:Int):T c t h l=let a:=qI c t h l;.ck true (.ck true<|.ck true<|.ck (decide (3<=3)&&true&&(He c&&decide (3<=1000)))<|.ite (K4 c [(t,rL c),(h,wJ c),(l,Sp.nLv c)] !=0) (.leaf (.tup [.dat zf [],.dat i64<|K4 c [(t,rL c),(h,wJ c),(l,Sp.nLv c)]]) [])<|.ck (bD c t h l)<|.ck (qg a)<|.leaf (.tup [.dat zf<|PI a,.dat i64<|Pu a]) []):=by kernel_rfl
end T19
namespace T123
def T(l:List BM):Tr:=tree XT1 false 9 123<|Ae ([zi CE]) l
def L1(a:List BM)(b c:Int):Tr:=re ((T []).L.L.L.R)<|Aw 66 [(5,.nil),(23,.dat (zi CE) a),(24,.dat i64 b),(25,.dat i64 c)] [] 0
theorem Ai(l:List BM):T l=let a:=(length l:Int);.ck true (.ck true<|.ck (decide (2<=2)&&true&&decide (2<=1000000))<|.ite (yy [Cj (a==0) 12,Cj (decide (a>64)) 5] !=0) (.leaf (.tup [.nil,.dat i64<|yy [Cj (a==0) 12,Cj (decide (a>64)) 5]]) [])<|L1 l a 0):=by kernel_rfl
def L2(c:Nat)(a:List BM)(d b:Int)(e:List (Ak×Ak)):Tr:=re ((stepT XT1<|L1 [] 0 0).L.L.L.R.L.L.R.L)<|Aw 66 [(5,.sl 0 8 0 c none),(23,.dat (zi CE) a),(24,.dat i64 d),(25,.dat i64 b)] [(0,.arr false 209 (zx AB AB) e)] 1
theorem Al(c:List BM)(d a:Int):stepT XT1 (L1 c d a)=let b:=getD c (toNat a) ([],[]);.di (a<d) (.ck (decide (0<=a)&&decide (a<(length c:Int)))<|.ck (decide (2<=2)&&true&&(decide (2<=1000)&&List.all [fst b,snd b] fun s=>decide (length s<=1000000)))<|.ite (Fb [fst b,snd b] !=0) (.leaf (.tup [.nil,.dat i64<|Fb [fst b,snd b]]) [])<|.ck (Eu<|fst b)<|.ck (Eu<|snd b)<|.di (a>0) .fail<|.ck (decide (1<=1)&&decide (0<1)&&decide ((3*1+2000)*128<=562949953421312))<|L2 1 c d (zc .i64<|a+1)<|[((Fk<|fst b),(Vu<|snd b,VZ<|snd b),SH<|snd b,Sy<|snd b)]) (.leaf (.tup [.nil,.dat i64 (0:Int)]) []):=by kernel_rfl
theorem AH(c:Nat)(d:List BM)(e a:Int)(f:List (Ak×Ak)):stepT XT1 (L2 c d e a f)=let b:=getD d (toNat a) ([],[]);let j:=zc .i64<|a-1;let b':=fst<|getD f (toNat j) (((0,[]),0,[]),(0,[]),0,[]);let g:=Fk<|fst b;let i:Tr:=.ck (decide (1<=1)&&true&&decide (c=length f)&&decide ((3*(c+1)+2000)*128<=562949953421312))<|L2 (qh c 1) d e (zc .i64<|a+1)<|f++[(g,(Vu<|snd b,VZ<|snd b),SH<|snd b,Sy<|snd b)];let h:=((fst b'),fst<|snd b',snd<|snd b');.di (a<e) (.ck (decide (0<=a)&&decide (a<(length d:Int)))<|.ck (decide (2<=2)&&true&&(decide (2<=1000)&&List.all [fst b,snd b] fun s=>decide (length s<=1000000)))<|.ite (Fb [fst b,snd b] !=0) (.leaf (.tup [.nil,.dat i64<|Fb [fst b,snd b]]) [])<|.ck (Eu<|fst b)<|.ck (Eu<|snd b)<|.di (a>0) (.ck (decide (0<=zc .i64 (a-1))&&decide (zc .i64 (a-1)<(↑c:Int)))<|.cd (toNat j<length f)<|.ck (qg g&&qg h)<|.di (FZ g h<=0) (.leaf (.tup [.nil,.dat i64 (11:Int)]) []) i) i) (.leaf (.tup [.sl 0 8 0 c none,.dat i64 (0:Int)])<|[(0,.arr false 209 (zx AB AB) f)]):=by kernel_rfl
end T123
namespace T54
def T(l:List BM):Tr:=tree XT2 false 9 54<|Ae ([zi CE]) l
theorem Ai(l:List BM):T l=.ck (decide (length l<=1000)&&J5 1000000 l) (.leaf (.dat i64<|B2 l) []):=by kernel_rfl
end T54
namespace T60
def T(l:List BM):Tr:=tree XT4 false 9 60<|Ae ([zi CE]) l
def L1(v0:List BM)(v3:Int):Tr:=re ((T []).R.R)<|Aw 55 [(0,.dat (zi CE) v0),(3,.dat i64 v3)] [] 0
theorem Ai(l:List BM):T l=.ite ((length l:Int)==0) (.leaf (.dat i64 (12:Int)) []) (.di ((length l:Int)>64) (.leaf (.dat i64 (5:Int)) [])<|L1 l 0):=by kernel_rfl
theorem Al(v0:List BM)(v3:Int):stepT XT4 (L1 v0 v3)=let a:=getD v0 (toNat v3) ([],[]);let b':=L1 v0<|zc .i64<|v3+1;let h:=fst<|getD v0 (toNat<|zc .i64<|v3-1) ([],[]);let d:=(length v0:Int);let c:Tr:=.ite (At (snd a) !=0) (.leaf (.dat i64<|At<|snd a) []) b';let e:Tr:=.ite (At (fst a) !=0) (.leaf (.dat i64<|At<|fst a) []) b';let b:=decide (0<=v3)&&decide (v3<d);let g:=decide (0<=zc .i64 (v3-1))&&decide (zc .i64 (v3-1)<d);let h':Tr:=.ite true (.leaf (.dat i64 (11:Int)) []) b';let f:=decide (E0 h (fst a)>=0);let i:=Bj h&&Ep (fst a);.di (v3<d) (.ck b<|.cd (length (fst a)<=1000000)<|.ite (At (fst a)==0) (.ck b<|.cd (length (snd a)<=1000000)<|.ite (At (snd a)==0) (.di (v3>0) (.ck g<|.ck b<|.ck i<|.ite f h' c) c) c)<|.ite (At (fst a)==0) (.di (v3>0) (.ck g<|.ck b<|.ck i<|.ite f h' e) e) e) (.leaf (.dat i64 (0:Int)) []):=by kernel_rfl
end T60
namespace T103
def T(n:Int):Tr:=tree qM false 9 103<|Ae ([zm ze]) n
theorem Ai(n:Int):T n=.ck true (.ck true<|.leaf (ye [.dat i64 n,.dat wU<|Sp.CW n,.dat i64 (1:Int),.dat wU<|Sp.CW 1]) []):=by kernel_rfl
end T103
namespace T174
def T(s t:Z):Tr:=tree XX0 false 9 174<|Ae ([zf,zf]) (s,t)
theorem Ai(s t:Z):T s t=let a:=(length t:Int);let b':=decide (toNat a<=length s);.di ((length s:Int)>=a) (.ck (decide (0<=a)&&decide (0<=toNat a)&&b')<|.ite (take (toNat a) s==t) (.ck (decide (0<=a)&&true&&b'&&decide (length s<=length s))<|.leaf (.dat zf<|take (z7 (length s)<|toNat a)<|drop (toNat a) s) [])<|.leaf (.dat zf s) []) (.leaf (.dat zf s) []):=by kernel_rfl
end T174
namespace T210
def T(a:AG):Tr:=tree XX1 false 9 210<|Ae ([AY]) a
theorem Ai(a:AG):T a=let c:=BA<|Ag<|zn a;let b:=(↑(length c):Int);let b':=getD c (toNat<|zc .i64<|b-1) 0;.ck (Sp.C6 a) (.ite (b==0) (.leaf (.dat i64 (0:Int)) [])<|.ck (decide (0<=zc .i64 (b-1))&&decide (zc .i64 (b-1)<b))<|.ck (Sp.u64 b')<|.leaf (.dat i64<|zc .i64<|zc .i64 (64*zc .i64 (b-1))+FD b') []):=by kernel_rfl
end T210
namespace T184
def T(a:AG):Tr:=tree AcY false 9 184<|Ae ([AY]) a
theorem Ai(a:AG):T a=.ck (Bc a) (.di (Pt a>1800) (.ck (Bc a)<|.ck (Tq (AX<|zn a) [(45:UInt8)])<|.leaf (.dat zk<|decide ((↑(length<|A8<|AX<|zn a):Int)>600)) [])<|.leaf (.bl false) []):=by kernel_rfl
end T184
namespace T134
def T(a:Ak):Tr:=tree XX2 false 9 134<|Ae ([AB]) a
theorem Ai(a:Ak):T a=.ck (Bc<|fst a) (.ite (EF<|fst a) (.leaf (.bl true) [])<|.ck (Bc<|snd a)<|.leaf (.dat zk<|EF<|snd a) []):=by kernel_rfl
end T134
namespace T135
def T(a:Ak):Tr:=tree XX2 false 9 135<|Ae ([AB]) a
theorem Ai(a:Ak):T a=let b:=zn<|fst a;.ck true (.ite (C5<|snd a) (.ck (Bc<|fst a)<|.leaf (.dat zf<|AX b) [])<|.ck (Bc<|fst a)<|.cd (length (AX b)+1<=4611686018427387904)<|.ck (Bc<|snd a)<|.cd (length (AX b++[(47:UInt8)])+length (AX<|zn<|snd a)<=4611686018427387904)<|.leaf (.dat zf<|AX b++[(47:UInt8)]++AX (zn<|snd a)) []):=by kernel_rfl
end T135
namespace T171
def T(l:List Z):Tr:=tree XX3 false 9 171<|Ae ([zi zf]) l
def L1(c:List Z)(a b:Int):Tr:=re ((T []))<|Aw 18 [(6,.dat (zi zf) c),(7,.dat i64 a),(8,.dat i64 b)] [] 0
theorem Ai(l:List Z):T l=L1 l ((length l:Int)) 0:=by kernel_rfl
theorem Al(b:List Z)(c a:Int):stepT XX3 (L1 b c a)=let d:=getD b (toNat a) [];.di (a<c) (.ck (decide (0<=a)&&decide (a<(length b:Int)))<|.cd (length d<=1000000)<|.ite (At d !=0) (.leaf (.dat i64<|At d) [])<|L1 b c<|zc .i64<|a+1) (.leaf (.dat i64 (0:Int)) []):=by kernel_rfl
end T171
namespace T115
def T(a:Ak):Tr:=tree XX3 false 9 115<|Ae ([AB]) a
theorem Ai(a:Ak):T a=.ck (Sp.C6<|fst a) (.leaf (.dat i64<|Ir<|fst a) []):=by kernel_rfl
end T115
end
namespace T185
variable {Q:PV->Ob->Prop}
theorem Ar(neg:Bool)(V:Nat)(h0:0<V)(h:Small V)(hG:(Cv (V+1) V).length<=1000000)(b:Exit neg (Cv (V+1) V) Q):Ends Rg (L1 neg (BA (V:Int)) 1 [1000000000000000000]) Q:=by
 have d:V % 10^18<10^18:=qf _ (by decide);have k:∀s,s=(if V/10^18=0 then zj (V % 10^18)else Gz 18<|V % 10^18)->[s]++(if V/10^18=0 then[]else Cv V<|V/10^18)=Cv (V+1) V:=by
  rintro s rfl;have i:Cv (V+1) V=if V<10^18 then[zj V]else Gz 18 (V % 10^18)::Cv V (V/10^18):=rfl
  rw[i];by_cases c:V<10^18
  ·rw[wd c,wd (by omega),wd (by omega),Nat.mod_eq_of_lt c];rfl
  ·rw[wc c,wc (by omega),wc<|by omega];rfl
 have next:∀s,s=(if V/10^18=0 then zj (V % 10^18)else Gz 18<|V % 10^18)->Ends Rg (L2 neg (BA ((V/10^18:Nat):Int)) 1 1 [s] [1000000000000000000]) Q:=
  fun s j=>A2 neg _ hG b V (V/10^18) [s] (by omega) (h.le<|Nat.div_le_self _ _)<|k s j
 refine yi (Al ..) (zd (w4 (by have:=JX h0;omega))<|zd (Ab rfl h.div) ?_);rw[WA,Vc];rcases Nat.eq_zero_or_pos (V % 10^18)with f|f
 ·have q0:V/10^18≠0:=by omega
  rw[f,show((0:Nat):Int)=0 from rfl,Mf];refine zo rfl (zd (w4 (by have:=JX (V:=V/10^18) (by omega);omega))<|zd rfl (zd rfl (zd rfl (next _ ?_))));have hp:=Sx 0 (by decide);rw[Lib.decDigits_one<|by omega]at hp;rw[wc q0,f, <-hp];rfl
 ·rw[Vn (r:=((V % 10^18:Nat):Int)) (by omega)<|by omega];have g:List.getD [((V % 10^18:Nat):Int)] 0 0=((V % 10^18:Nat):Int):=rfl;rw[g,M7];have m:=TR d;have e:((V % 10^18:Nat):Int)<1000000000000000000:=by omega
  have l:0<(zj<|V % 10^18).length:=by
   rw[yo,Lib.nDigits];split<;>omega
  refine zd rfl (zd rfl (zd (Ab (Ab (w4<|yg _)<|w4 e) rfl) ?_));rw[wr _ (by omega)<|by omega];by_cases q0:V/10^18=0
  ·rw[q0];refine zo (by rw[show((0:Nat):Int)=0 from rfl,Mf];rfl)<|zd rfl ?_;have:=next _ rfl;rw[wd q0,q0]at this;exact this
  ·have a:=Sx _ d;refine zd (w4 (by have:=JX (V:=V/10^18) (by omega);omega)) (zd (Ab (ad (by omega)<|by omega) rfl)<|zd (w4 ?_)<|zd rfl (next _ ?_))
   ·rw[<-zq,a];unfold Gz;rw[zq,List.length_replicate];omega
   ·rw[wc q0];exact a
end T185
theorem AaG(n:Nat):(18446744073709551616:Nat)^n<=10^(20*n):=by
 rw[Nat.pow_mul];exact Nat.pow_le_pow_left (by decide) n
theorem dJ{V k:Nat}(h:(V:Int)<(Ao:Int)^k):V<18446744073709551616^k:=by
 rw[<-So k]at h;exact yq.mp h
theorem cY{V k:Nat}(h:(V:Int)<(Ao:Int)^k)(c:1<=k):(zj V).length<=20*k:=by
 rw[yo];obtain⟨j,b⟩:∃j,20*k=j+1:=⟨20*k-1,by omega⟩;have a:=Nat.lt_of_lt_of_le (dJ h)<|AaG k;rw[b]at a ⊢;exact NZ j V a
theorem HS{V:Nat}(h:Small V):(zj V).length<=180000:=cY (k:=9000) h.h (by decide)
theorem MU:∀(f v:Nat) (s:Z),s∈Cv f v->0<s.length
 |0,v,s,h=>by cases h
 |f+1,v,s,h=>by
  have b:Cv (f+1) v=if v<10^18 then[zj v]else Gz 18 (v % 10^18)::Cv f (v/10^18):=rfl
  have a:∀r,0<(zj r).length:=fun r=>by rw[yo,Lib.nDigits];split<;>omega
  rw[b]at h;split at h
  ·rw[List.mem_singleton]at h;subst h;exact a _
  ·rcases List.mem_cons.1 h with rfl|h
   ·unfold Gz;rw[zq];have:=a<|v % 10^18;omega
   ·exact MU f _ s h
theorem Pb:∀(l:List Z),(∀s∈l,0<s.length)->l.length<=l.flatten.length
 |[],_=>yv _
 |s::l,h=>by
  have b:=Pb l fun x a=>h x<|List.mem_cons_of_mem _ a
  have c:=h s<|List.mem_cons_self ..;rw[List.flatten_cons,zq,yc];omega
theorem dU{V:Nat}(h:0<V):AX (-(V:Int))=45::zj V:=Lib.itoa_neg V h
theorem xN(a:Af A6 213 VW):C9 Rg:=Aa xQ<|Aa (T179.ok FT)<|Aa Ry<|Aa a<|Aa bV AI
namespace T185
variable {Q:PV->Ob->Prop}
theorem dZ(neg:Bool){V:Nat}(f:Small V)(b:∀ob,Q (.dat .str (if neg=true then 45::zj V else zj V)) ob):Exit neg (Cv (V+1) V) Q:=by
 have a:=MU (V+1) V;have d:=Jd (V+1) V (by omega);have k:=HS f;have j:=Pb _ a;have hr:(Cv (V+1) V).flatten.length=(zj V).length:=by
  rw[<-d,yf,yf,List.map_reverse,List.sum_reverse]
 have e:0<(Cv (V+1) V).length:=by
  have g:Cv (V+1) V=if V<10^18 then[zj V]else Gz 18 (V % 10^18)::Cv V (V/10^18):=rfl
  rw[g];split<;>simp
 generalize Cv (V+1) V=G at*;unfold Exit;refine ya (fun c=>zd rfl (zd rfl ?_))<|fun c=>?_
 ·rw[wd c]at b;rw[wr _ (by omega)<|by omega];exact Fh G (45::zj V) (by rw[yc];omega) (by omega) b G.length [45] _ 1 (yv _) rfl rfl (by decide) (by rw[List.take_length,d];rfl)
 ·rw[wc<|by rw[c];decide]at b;rw[wr _ (by omega)<|by omega];obtain⟨i,h⟩:∃i,i+1=G.length:=⟨G.length-1,by omega⟩;exact FX G (zj V) (by omega) (by omega) b i h _ (by omega) (a _<|List.getElem_mem _) d
theorem ok(b:Af A6 213 VW):Af A6 185 AbZ:=by
 refine Gf (X:=Rg) rfl (xN b) (d:=9) (by kernel_rfl) (by kernel_rfl) (by kernel_rfl) (fun(a:Int×List Int) f=>?_) (Bb<|by kernel_rfl);have f:Bc a=true:=f;have j:=(B3 f).1;have hr:=(Ed j).1;refine zw (Ai a)<|ya (fun c=>zd (D7 hr.1 hr.2)<|zg<|yd rfl rfl ?_)<|fun c=>zd j ?_
 ·have c:a.2=[]:=by simpa using c
  show AX a.1=AX (zn a);rw[Bo c]
 ·have c:a.2≠[]:=by rintro k;rw[k]at c;simp at c
  have o:=bounds f;have e:(9223372036854775808:Int)<=Ag (zn a):=by
   obtain⟨_,i⟩:=Ed j;obtain⟨s,w⟩:=a;rcases i with i|⟨_,_,l⟩
   ·exact wh i c
   ·rw[WO c,Aj];have l:9223372036854775808<=As w:=l;split<;>omega
  obtain⟨V,p⟩:=zr<|AK<|zn a;have g:=Aj<|zn a;rw[p]at o e g ⊢;have h:Small V:=⟨o⟩;have t:=HS h;have hp:0<V:=by omega
  have r:=Pb _<|MU (V+1) V;have q:=Jd (V+1) V (by omega);have m:(Cv (V+1) V).flatten.length=(zj V).length:=by
   rw[<-q,yf,yf,List.map_reverse,List.sum_reverse]
  refine Ar _ V hp h (by omega)<|dZ _ h fun ob=>yd rfl rfl ?_;show(if decide (zn a<0)=true then 45::zj V else zj V)=AX (zn a);by_cases n:zn a<0
  ·rw[wd<|w4 n,show zn a= -(V:Int)from by omega,dU hp]
  ·rw[wc (by simpa using n),show zn a=(V:Int)from by omega,M7]
end T185
theorem Xb{k:Nat}{n d:Int}(a:d≠0)(c:Ag n<(Ao:Int)^k)(b:Ag d<(Ao:Int)^k):Lx k (Rat.divInt n d):=by
 unfold Lx;rw[Rat.num_divInt,Rat.den_divInt,wc a];constructor
 ·refine Int.lt_of_le_of_lt XA ?_;rw[JS];have:Ag d.sign=1:=by rw[Aj,Int.natAbs_sign_of_ne_zero a];rfl
  rw[this,Int.one_mul];exact c
 ·refine Int.lt_of_le_of_lt ?_ b;rw[Aj];exact Int.ofNat_le.mpr<|Nat.div_le_self _ _
theorem sX{f:Ak}(h:zp f=true)(h0:zn f.1≠0):zp (Wv f)=true:=by
 obtain⟨a1,a2,b,a,a0⟩:=E7 h;exact(Oj a2 a1 h0).CS<|Xb h0 a b
theorem Zf{f:Ak}(h:zp f=true):zp (vK f)=true:=by
 obtain⟨a1,a2,a,b,a0⟩:=E7 h;unfold zp qg at*;have c:=TM (k:=4000) (B3 a1).1 (by omega) (by omega)<|Uc (B3 a1).1 a;exact Ab (Ab (GK c.1<|by show Ag (zn<|Cn f.1)<_;rw[HU,Ja];exact a)<|GK (B3 a2).1 b)<|w4 a0
theorem Zd:C9 XA3:=Aa T137.ok<|Aa T75.ok<|Aa T102.ok<|Aa T141.ok AI
theorem T74.ok:Af A6 74 lG:=by
 refine BO Zd<|fun(i:((Int×List Int)×(Int×List Int))×((Int×List Int)×(Int×List Int))) c=>?_;obtain⟨a,b⟩:=i;have c:(zp a&&zp b)=true:=c;rw[zh]at c;obtain⟨b1,b2,lb1,lb2,b0⟩:=E7 c.2;exact zw (T74.Ai a b)<|zd (B3 b1).1<|zd (Ab c.1<|Zf c.2)<|zg<|yd rfl rfl rfl
theorem T76.ok:Af A6 76 pO:=by
 refine BO Zd<|fun(i:((Int×List Int)×(Int×List Int))×((Int×List Int)×(Int×List Int))) c=>?_;obtain⟨a,b⟩:=i;have c:(zp a&&zp b&&decide (zn b.1≠0))=true:=c;rw[zh,zh,w5]at c;exact zw (T76.Ai a b)<|zd (Ab c.1.2<|w4 c.2)<|zd (Ab c.1.1<|sX c.1.2 c.2)<|zg<|yd rfl rfl rfl
theorem T142.ok:Af A6 142 iA:=by
 refine BO GV<|fun(a:(Int×List Int)×(Int×List Int)) h=>?_;obtain⟨a1,a2,c,b,a0⟩:=E7 h;exact zw (T142.Ai a)<|zd (Ab (Ab a1 a2)<|w4 a0)<|zg<|yd rfl rfl rfl
end Go.Pe
namespace Go.Sp
theorem Dl{a:Bool×List Int}(h:Cu a=true):Ba a.2=true/\a.2.length<=3000/\(a.1=true->a.2≠[]):=by
 unfold Cu at h;rw[zh,zh,w5,Bool.or_eq_true,w5,Bool.not_eq_true']at h;refine⟨h.1.1,h.1.2,fun k=>?_⟩;rcases h.2 with x|x
 ·rw[k]at x;cases x
 ·exact x
theorem EV{a:Bool×List Int}(h:Cu a=true):Ag (vR a)=An a.2/\0<=An a.2:=by
 obtain⟨c,d,e⟩:=Dl h;have h0:=AD (b:=B9) (by decide) (Bp c).2.1;have h0:0<=An a.2:=h0;refine⟨?_,h0⟩;unfold vR;rw[Aj];split<;>omega
theorem QA{a:Bool×List Int}(h:Cu a=true):a.1=rN (vR a):=by
 obtain⟨c,f,d⟩:=Dl h;obtain⟨_,h0⟩:=EV h;unfold rN vR;cases e:a.1 with
 |false=>rw[wc<|by decide];symm;rw[w9];omega
 |true=>
  rw[wd rfl];symm;rw[w5];have:=JV (b:=B9) (by decide) (Bp c).2.1 (Bp c).2.2<|d e;have:0<An a.2:=this;omega
theorem AbS{a:Bool×List Int}(h:Cu a=true):a.2=rW (vR a):=by
 unfold rW;rw[(EV h).1];exact IF (b:=B9) (by decide) (Bp (Dl h).1).2.1 (Bp (Dl h).1).2.2
theorem Aaj{a:Bool×List Int}(h:Cu a=true):a=(rN<|vR a,rW<|vR a):=Prod.ext (QA h)<|AbS h
theorem Yr(k:Nat):(B9:Int)^k=10^(9*k):=by
 have:(B9:Int)=10^9:=by decide
 rw[this, <-Int.pow_mul]
theorem rI{n:Int}{k:Nat}(h:n.natAbs<10^(9*k)):Ag n<(B9:Int)^k:=by
 rw[Aj,Yr];have:((10^(9*k):Nat):Int)=(10:Int)^(9*k):=by simp
 rw[<-this];exact yq.mpr h
theorem Od(n:Int):0<=Ag n:=by rw[Aj];omega
theorem Kx(n:Int):An (rW n)=Ag n:=Dd (b:=B9) (by decide)<|Od n
theorem Fx(n:Int):vR (rN n,rW n)=n:=by
 unfold vR;show(if rN n=true then -An (rW n)else An<|rW n)=n;rw[Kx,Aj];unfold rN;by_cases h:n<0
 ·rw[wd<|w4 h];omega
 ·rw[wc<|by simpa using h];omega
theorem TT{n:Int}(h:n.natAbs<10^27000):Cu (rN n,rW n)=true:=by
 have k:27000=9*3000:=rfl;rw[k]at h;obtain⟨g,_,i,d⟩:=F8 (n:=Ag n) (k:=3000) (Od n) (rI h) (by decide);unfold Cu;have f:Ba (rW n)=true:=g;have c:(rW n).length<=3000:=d;rw[f,w4 c];cases b:rN n with
 |false=>rfl
 |true=>
  have:rW n≠[]:=by
   intro e;have a:=Kx n;rw[e]at a;have a:0=Ag n:=a;unfold rN at b;have b:=w6 b;rw[Aj]at a;omega
  rw[w4 this];rfl
theorem kT(k:Nat):((10^k:Nat):Int)=(10:Int)^k:=by rw[yb];rfl
theorem Aam{x:Nat}(j k:Nat)(h:j<=k)(a:x<10^j):x<10^k:=Nat.lt_of_lt_of_le a (Nat.pow_le_pow_right (by decide) h)
theorem Ab4{a:Bool×List Int}(h:Cu a=true):(vR a).natAbs<10^27000:=by
 obtain⟨g,d,i⟩:=Dl h;have e:=Bw (b:=B9) (by decide) (Bp g).2.1;have f:(B9:Int)^a.2.length<=(B9:Int)^3000:=AL (by decide) d;have c:Ag (vR a)<(B9:Int)^3000:=by rw[(EV h).1];exact z8 e f
 rw[Aj,Yr]at c;have:=kT<|9*3000;rw[<-this]at c;have k:27000=9*3000:=rfl;rw[k];exact yq.mp c
theorem jU{neg:Bool}{w:List Int}{n:Int}(c:Ay B9 w)(a:An w=Ag n)(b:n≠0->neg=rN n):(CH neg w,Ax w)=(rN n,rW n):=by
 have h:=Go.Pe.M0 (neg:=neg) c a;rw[h];have:(if neg=true then -Ag n else Ag n)=n:=by
  by_cases h0:n=0
  ·rw[h0];unfold Ag;split<;>simp
  ·rw[b h0];unfold rN;rw[Aj];by_cases h:n<0
   ·rw[wd<|w4 h];omega
   ·rw[wc<|by simpa using h];omega
 rw[this]
theorem D8{s:Z}(h:Bj s=true):Cu (BS s,BJ s)=true/\vR (BS s,BJ s)=Bd s/\Cu (Br s,Bk s)=true/\vR (Br s,Bk s)=AN s/\(Au s).num=Bd s/\((Au s).den:Int)=AN s/\Eu s=true/\(Bd s).natAbs<10^4000/\(AN s).natAbs<10^4000:=by
 obtain⟨b,k⟩:=F5 h;obtain⟨s1,s2⟩:=T7 h;have e:(Au s).num=Bd s/\((Au s).den:Int)=AN s:=by
  have:=Kt<|Au s;rw[b]at this;exact⟨this.1.symm,this.2.symm⟩
 have l1:(Bd s).natAbs<10^4000:=by rw[<-e.1];exact s1
 have a:(AN s).natAbs<10^4000:=by rw[<-e.2,yr];exact s2
 have m:∀x:Nat,x<10^4000->x<10^27000:=fun x g=>Aam 4000 27000 (by decide) g
 refine⟨TT<|m _ l1,Fx _,TT<|m _ a,Fx _,e.1,e.2,?_,l1,a⟩;obtain⟨f,d,i⟩:=FA<|Au s;rw[b]at f d i;have j:=Go.Pe.T122.DK s;unfold Eu Du;rw[w4 (p:=s.length<=5999) (by omega),w4 (p:=(AA s).length<=5999) (by omega),w4 (p:=(AS s).length<=5999) (by omega),yx,yx,Bool.and_true,zh];refine⟨?_,?_⟩
 ·obtain⟨l,i2,i3,i4⟩:=Dw (Au s).num;rw[f];unfold A8 at i2;split at i2
  ·next c=>rw[wd c,i2];exact D3 _
  ·next c=>rw[wc c,i2];exact D3 _
 ·rw[d];split
  ·rfl
  ·rw[wc<|EZ<|D3 _];exact D3 _
end Go.Sp
namespace Go.Pe
open Sp
open Go.Det
theorem TQ{x:Int}{k:Nat}(h:x.natAbs<10^k):Ag x<(Ao:Int)^k:=by
 have a:((10^k:Nat):Int)=(10:Int)^k:=yb ..;rw[Aj];refine z8 ?_<|kP k;rw[<-a];exact yq.mpr h
theorem Pr{q:Rat}{k:Nat}(h:Hf k q)(c:k<=4000):Lx 4000 q:=by
 obtain⟨d,b⟩:=h.mono c;have a:=TQ (k:=4000) (x:=(q.den:Int)) (by rw[yr];exact b);rw[Aj,yr]at a;exact⟨TQ d,a⟩
def zH(s:Z):Ak:=((Vu s,VZ s),(SH s,Sy s))
theorem IS{s:Z}(h:Bj s=true):EX (zH s) (Au s):=by
 obtain⟨_,_,_,_,c,d,_,l1,a⟩:=D8 h;have m:∀x:Int,x.natAbs<10^4000->Ag x<(Ao:Int)^9000:=fun x b=>z8 (TQ b) (AL (by decide)<|by decide)
 exact⟨(B3<|Gj<|D5<|m _ l1).1,(B3<|Gj<|D5<|m _ a).1,(LB _).trans c.symm,(LB _).trans d.symm⟩
theorem eI{d:AG}(h:Sp.C6 d=true):C5 d=decide (zn d=1):=by
 unfold C5;rw[Bool.eq_iff_iff,zh,w5,w5,w5];refine⟨fun⟨f,g⟩=>by rw[Bo f];exact g,fun e=>?_⟩;by_cases c:d.2=[]
 ·rw[Bo c]at e;exact⟨c,e⟩
 ·obtain⟨_,a⟩:=Ed h;obtain⟨s,w⟩:=d;rcases a with a|⟨_,_,b⟩
  ·exact wh a c
  ·rw[WO c]at e;have b:9223372036854775808<=As w:=b;split at e<;>omega
theorem eZ{f:Ak}{q:Rat}(h:EX f q):I5 f=Uo q:=by
 unfold I5 EF Uo;rw[h.vn,h.vd]
theorem pN{f:Ak}{q:Rat}(h:EX f q):Kj f=AU q:=by
 unfold Kj AU;rw[eI h.d,h.vn,h.vd];have e:decide ((q.den:Int)=1)=true↔q.den=1:=by rw[w5];omega
 by_cases c:q.den=1
 ·rw[wd<|e.2 c,wd c];rfl
 ·rw[wc<|fun k=>c<|e.1 k,wc c];show Lib.itoa q.num++47::Lib.itoa ((q.den:Nat):Int)=_;rw[Lib.itoa_nonneg]
theorem aI{f:Ak}{q:Rat}(h:EX f q):PI f=fI 0 q/\Pu f=fB 0 q:=by
 unfold PI Pu fI fB;rw[eZ h,pN h];exact⟨rfl,rfl⟩
theorem EX.Df{f:Ak}{q:Rat}(h:EX f q)(a:Lx 4000 q):qg f=true:=by
 have:=h.CS a;unfold zp at this;rw[zh]at this;exact this.1
theorem EX.Je{f:Ak}{q:Rat}(h:EX f q):decide (zn f.1≠0)=decide (q≠0):=by
 rw[h.vn,decide_eq_decide,wm,Rat.num_eq_zero]
theorem EX.cmp{f g:Ak}{p q:Rat}(e:EX f p)(b:EX g q):FZ f g=if p<q then -1 else if q<p then 1 else 0:=by
 unfold FZ Cg;rw[e.vn,e.vd,b.vn,b.vd];have h:p<q↔p.num*(q.den:Int)<q.num*(p.den:Int):=Rat.lt_iff ..;have a:q<p↔q.num*(p.den:Int)<p.num*(q.den:Int):=Rat.lt_iff ..;by_cases c:p<q
 ·rw[wd c,wd<|h.1 c]
 ·rw[wc c,wc<|fun k=>c<|h.2 k];by_cases d:q<p
  ·rw[wd d,wd<|a.1 d]
  ·rw[wc d,wc<|fun k=>d<|a.2 k]
end Go.Pe
namespace Go.Sp
theorem hI{n:Int}(h:0<=n):n+1<=2^(FD n).toNat:=by
 unfold FD;split
 ·have:n=0:=by omega
  subst this;decide
 ·have b:=Nat.lt_log2_self (n:=n.toNat);have e:((n.toNat.log2:Int)+1).toNat=n.toNat.log2+1:=by omega
  have a:((2^(n.toNat.log2+1):Nat):Int)=(2:Int)^(n.toNat.log2+1):=yb ..;rw[e, <-a];generalize 2^(n.toNat.log2+1)=P at*;omega
theorem AbM{w:List Int}(e:Ay Ao w){k:Nat}(g:w.length=k+1):val Ao w<(Ao:Int)^k*(w.getD k 0+1):=by
 have a:=Cs (Ao:Int) w k (by omega);have c:=Bw (b:=(Ao:Int)) (by decide)<|AQ e k;rw[List.length_take,Nat.min_eq_left<|by omega]at c;have f:w.drop k=[w.getD k 0]:=by
  rw[Cq (by omega),zt<|by omega]
 rw[f]at a;have d:val Ao [w.getD k 0]=w.getD k 0:=by
  show w.getD k 0+(Ao:Int)*0=_;omega
 rw[d]at a;rw[qd,Int.mul_one];omega
theorem XY(k:Nat):((10^k:Nat):Int)=(10:Int)^k:=by rw[yb];rfl
theorem iI(k:Nat):2^(3*k)<=10^k:=by rw[Nat.pow_mul];exact Nat.pow_le_pow_left (by decide) k
theorem kI(k:Nat):(2:Int)^(3*k)<=10^k:=by
 have a:((2^(3*k):Nat):Int)<=((10^k:Nat):Int):=Int.ofNat_le.2<|iI k;rw[yb,yb]at a;exact a
theorem xR:(2:Int)^1800<=10^600:=by
 have h:=kI 600;have k:3*600=1800:=rfl;rw[k]at h;exact h
theorem tC{a:AG}(h:Pt a<=1800):EF a=false:=by
 have a0:0<=Ag (vI a):=by rw[Aj];omega
 have d:=Dd (b:=Ao) (by decide) a0;have c:=FR (b:=Ao) (by decide)<|Ag<|vI a;have key:Ag (vI a)<2^1800:=by
  unfold Pt at h;have d:val Ao (BA<|Ag<|vI a)=Ag (vI a):=d;have c:Ay Ao (BA<|Ag<|vI a):=c;generalize BA (Ag<|vI a)=w at*;rw[<-d];by_cases i:w=[]
  ·subst i;show(0:Int)<_;exact Int.pow_pos (by decide)
  ·rw[wc i]at h;obtain⟨k,n⟩:∃k,w.length=k+1:=⟨w.length-1,by have:=yp.2 i;omega⟩;have j:=AbM c n;have g:=KR (b:=(Ao:Int)) (by decide) c k;have hp:=hI g.1;have q:=(Go.Pe.Td g.1 (by have:(Ao:Int)=18446744073709551616:=rfl;omega)).1;rw[n,yh,show((k+1:Nat):Int)-1=(k:Int)by omega]at h;have p:(0:Int)<(Ao:Int)^k:=AR (by decide) k;have m:=z6 hp<|qi p;have l:(Ao:Int)^k=2^(64*k):=by
    have:(Ao:Int)=2^64:=by decide
    rw[this, <-Int.pow_mul]
   rw[l, <-Int.pow_add]at m;rw[l]at j;have o:(2:Int)^(64*k+(FD<|w.getD k 0).toNat)<=2^1800:=AL (by decide) (by omega);exact z8 j<|Int.le_trans m o
 have f:=z8 key xR;unfold EF RJ;rw[w9];have:(vI a).natAbs<10^600:=by
  rw[Aj]at f;have e:=XY 600;rw[<-e]at f;exact yq.mp f
 have:=Gn this (by decide);omega
end Go.Sp
namespace Go.Pe
open Sp
open Go.Det
theorem xX:C9 XX0:=fun g sp h=>by cases h
theorem T174.ok:Af A6 174 TD:=by
 refine BO xX<|fun(i:Z×Z) a=>?_;obtain⟨s,t⟩:=i;have a:(decide (t=[45])&&decide (s.length<=1000000))=true:=a;rw[zh,w5,w5]at a;obtain⟨rfl,hl⟩:=a;have e:∀v ob,v=A8 s->Ad TD (s,[45]) (.dat .str v) ob:=fun v ob h=>yd rfl rfl h
 refine zw (T174.Ai s [45]) ?_;conv=>zeta
 cases s with
 |nil=>exact zo rfl (zg<|e _ _ rfl)
 |cons c r=>
  have g:Int.toNat (([(45:UInt8)].length:Nat):Int)=1:=rfl;have j:yz 1 (c::r)=[c]:=rfl;have k:yz (z7 (c::r).length 1) (qj 1 (c::r))=r:=zu<|yv _;have f:(c::r).getD 0 0=c:=rfl;rw[g,j,k];refine zd (w4<|by simp;omega) (zd (by simp)<|ya (fun d=>zd (by simp)<|zg<|e _ _ ?_)<|fun d=>zg<|e _ _ ?_)
  ·have b:c=45:=by simpa using d
   unfold A8;rw[f,wd b];rfl
  ·have b:c≠45:=by simpa using d
   unfold A8;rw[f,wc b]
theorem xL:C9 XX1:=Aa (T179.ok FT)<|Aa T228.ok AI
theorem yD{a:AG}(h:Bc a=true):(BA<|Ag<|zn a).length<=9000:=by
 have b:=bounds h;have h0:=AK<|zn a;refine N0 Ao (by decide) 9000 _ _ ?_;have e:((Ao^9000:Nat):Int)=(Ao:Int)^9000:=So 9000;rw[<-e]at b;generalize Ao^9000=P at*;omega
theorem T210.ok:Af A6 210 pM:=by
 refine BO xL<|fun(a:Int×List Int) d=>?_;have d:Bc a=true:=d;have k:=(B3 d).1;have l:=yD d;have e:=FR (b:=Ao) (by decide)<|Ag<|zn a;have e:Ay Ao (BA<|Ag<|zn a):=e;have f:∀v ob,v=Pt a->Ad pM a (.dat i64 v) ob:=fun v ob h=>yd rfl rfl h
 unfold Pt at f;refine zw (T210.Ai a)<|zd k ?_;generalize BA (Ag<|zn a)=w at*;refine ya (fun c=>zg<|f _ _ ?_)<|fun c=>?_
 ·have:w=[]:=y7.1 (by have:(w.length:Int)=0:=(by simpa using c);omega);rw[wd this]
 ·have c:(w.length:Int)≠0:=by simpa using c
  have j:w≠[]:=by rintro rfl;exact c rfl
  have g:=AZ e<|w.length-1;have i:zc .i64 ((w.length:Int)-1)=((w.length-1:Nat):Int):=by rw[wr _ (by omega)<|by omega];omega
  have m:=Td (Sp.A5 g).1 (Sp.A5 g).2;rw[i,zl,wr (64*_) (by omega) (by omega),wr _ (by omega)<|by omega];refine zd (ad (by omega)<|by omega)<|zd g<|zg<|f _ _ ?_;rw[wc j];omega
theorem kQ:C9 AcY:=Aa T210.ok<|Aa (T185.ok mU)<|Aa T174.ok AI
theorem fN(n:Int):A8 (AX n)=zj n.natAbs:=(Dw n).2.1
theorem Po{a:AG}(h:Bc a=true):(AX<|zn a).length<=180001:=by
 have b:=bounds h;have c:=Aj<|zn a;have d:(zj (zn a).natAbs).length<=180000:=HS ⟨by rw[<-c];exact b⟩;unfold AX Lib.itoa;split
 ·rw[yc];omega
 ·rw[show(zn a).toNat=(zn a).natAbs by omega];omega
theorem T184.ok:Af A6 184 YD:=by
 refine BO kQ<|fun(a:Int×List Int) b=>?_;have b:Bc a=true:=b;have f:=Po b;have e:∀v ob,v=EF a->Ad YD a (.dat .bool v) ob:=fun v ob h=>yd rfl rfl h
 have d:∀v ob,v=EF a->Ad YD a (.bl v) ob:=fun v ob h=>yd rfl rfl h
 refine zw (T184.Ai a) (zd b<|ya (fun c=>zd b<|zd (Ab (w4 rfl)<|w4<|by show(AX<|zn a).length<=1000000;omega)<|zg<|e _ _ ?_)<|fun c=>zg<|d _ _ ?_)
 ·show decide (((A8<|AX<|zn a).length:Int)>600)=EF a;rw[fN];unfold EF RJ;rw[decide_eq_decide];omega
 ·have c:=w7 c;have c:¬Pt a>1800:=c;exact(tC<|by omega).symm
theorem mH{a:AG}(h:NP a=true):Bc a=true:=by
 unfold NP at h;rw[zh,w5]at h;unfold Bc;rw[h.1,yx];exact w4 (by omega)
theorem kM{a:Ak}(h:qg a=true):Bc a.1=true/\Bc a.2=true:=by
 unfold qg at h;rw[zh]at h;exact⟨mH h.1,mH h.2⟩
theorem Y0:C9 XX2:=Aa T184.ok<|Aa T138.ok<|Aa (T185.ok mU) AI
theorem T134.ok:Af A6 134 Yx:=by
 refine BO Y0<|fun(a:(Int×List Int)×(Int×List Int)) ha=>?_;obtain⟨d,b⟩:=kM (a:=a) ha;refine zw (T134.Ai a)<|zd d<|ya (fun c=>zg<|yd rfl rfl ?_)<|fun c=>zd b<|zg<|yd rfl rfl ?_
 ·have c:EF a.1=true:=c;show true=(EF a.1||EF a.2);rw[c];rfl
 ·have c:EF a.1=false:=c;show EF a.2=(EF a.1||EF a.2);rw[c];rfl
theorem T135.ok:Af A6 135 fR:=by
 refine BO Y0<|fun(a:(Int×List Int)×(Int×List Int)) ha=>?_;obtain⟨b,d⟩:=kM (a:=a) ha;have l1:=Po b;have e:=Po d;refine zw (T135.Ai a) (zd rfl (ya (fun c=>zd b<|zg<|yd rfl rfl ?_)<|fun c=>zd b<|zd (w4<|by show(AX<|zn a.1).length+1<=_;omega)<|zd d<|zd (w4<|by rw[zq,List.length_singleton];show(AX<|zn a.1).length+1+(AX<|zn a.2).length<=_;omega)<|zg<|yd rfl rfl ?_))
 ·have c:C5 a.2=true:=c;show AX (zn a.1)=Kj a;unfold Kj;rw[wd c]
 ·have c:C5 a.2=false:=c;show AX (zn a.1)++[47]++AX (zn a.2)=Kj a;unfold Kj;rw[wc (by rw[c];decide),List.append_assoc];rfl
theorem ZH:C9 XX3:=Aa T122.ok<|Aa T161.ok AI
namespace T171
theorem Ar{Q:PV->Ob->Prop}(l:List Z)(f:l.length<=1000)(b:∀s∈l,s.length<=1000000):∀(r:List Z) (i:Nat),l.drop i=r->i<=l.length->(∀ob,Q (.dat i64<|Fb r) ob)->Ends XX3 (L1 l (l.length:Int) (i:Int)) Q
 |[],i,h,e,a=>by
  have:=drop_nil h e;exact yi (Al ..) (zo (w8<|by omega)<|zg<|a _)
 |x::r,i,h,e,a=>by
  obtain⟨m,j,n⟩:=drop_cons (d:=([]:Z)) h;have k:x∈l:=List.mem_of_mem_drop (by rw[h];exact List.mem_cons_self ..);have g:=wn (i:=i) (by omega);unfold Fb at a;refine yi (Al ..) ?_;conv=>zeta
  rw[zl,j,g];refine zd (w4<|by omega) (zd (ad (by omega)<|by omega)<|zd (w4<|b x k)<|ya (fun c=>zg ?_)<|fun c=>Ar l f b r (i+1) n m ?_)
  ·have c:At x≠0:=by simpa using c
   rw[wd c]at a;exact a _
  ·have c:At x=0:=by simpa using c
   rw[wc<|by rw[c];decide]at a;exact a
theorem ok:Af A6 171 Zp:=by
 refine BO ZH<|fun(l:List Z) a=>?_;have a:(decide (l.length<=1000)&&l.all fun s=>decide (s.length<=1000000))=true:=a;rw[zh,w5,List.all_eq_true]at a;exact zw (Ai l)<|Ar l a.1 (fun s h=>w6<|a.2 s h) l 0 rfl (Nat.zero_le _) (fun ob=>yd rfl rfl rfl)
end T171
theorem T115.ok:Af A6 115 gT:=by
 refine BO ZH<|fun(a:(Int×List Int)×(Int×List Int)) ha=>?_;exact zw (T115.Ai a)<|zd ha<|zg<|yd rfl rfl rfl
theorem T103.ok:Af A6 103 cF:=by
 refine BO GV<|fun(n:Int) _=>?_;exact zw (T103.Ai n)<|zd rfl (zd rfl (zg<|yd rfl rfl rfl))
theorem AaE{f:Ak}{q:Rat}(h:EX f q){e:Int}(a:e=0):(PI f,Pu f)=(fI e q,fB e q):=by
 rw[a,(aI h).1,(aI h).2]
theorem EX.div{f g:Ak}{p q:Rat}(a:EX f p)(d:EX g q)(sp:Lx 4000 p)(b:Lx 4000 q)(c:Lx 4000 q⁻¹)(h0:q≠0):EX (KN f g) (p/q):=by
 rw[yu];exact EX.mul a (EX.inv d b h0) sp c
theorem J1(x y:Int):yy [x,y]=if x≠0 then x else y:=by
 by_cases h:x≠0
 ·rw[wd h];unfold yy
  simp[h]
 ·rw[wc h];have h:x=0:=by omega
  subst h;unfold yy yy yy
  simp;intro k;exact k.symm
theorem tS(n:Int):CW n=[]:=by unfold CW;split<;>rfl
theorem ZB{n:Int}(h:CI n=true):Bc (n,CW n)=true/\zn (n,CW n)=n:=by
 rw[tS];have hr:=EK h;refine⟨?_,Bo rfl⟩;unfold Bc;rw[show Sp.C6 (n,([]:List Int))=true from Lc h,yx];rfl
theorem AdW(n:Int)(h:CI n=true):EX ((n,CW n),(1,CW 1)) (n:Rat):=by
 obtain⟨b,a⟩:=ZB h;obtain⟨h3,h4⟩:=ZB (n:=1) rfl;exact⟨(B3 b).1,(B3 h3).1,a.trans (Rat.num_intCast n).symm,h4.trans rfl⟩
section
open List Int Prod
namespace T33
def T(a b:Z):Tr:=tree zW false 9 33<|Ae ([zf,zf]) (a,b)
def L1(v0 v1:Z):Tr:=re ((T [] []).L.L.L.R)<|Aw 63 [(0,.dat zf v0),(1,.dat zf v1)] [] 0
theorem Ai(a b:Z):T a b=let c:=zc .i64<|zc .i64 (lX a*VB b)+zc .i64 (lX b*VB a);let b':=zc .i64<|VB a*VB b;.ck (Bj a) (.ck (Bj b)<|.ite (Ee a) (.ite (Ee b) (.ck (CI c&&CI b'&&decide (zc .i64 (VB a*VB b)≠0))<|.leaf (.dat zf<|Dp c b') [])<|L1 a b)<|L1 a b):=by kernel_rfl
theorem Al(v0 v1:Z):stepT zW (L1 v0 v1)=let b':=(Ib (BS v0,BJ v0) (Br v1,Bk v1),HT (BS v0,BJ v0) (Br v1,Bk v1));let b:=(Ib (BS v1,BJ v1) (Br v0,Bk v0),HT (BS v1,BJ v1) (Br v0,Bk v0));let a:=(Ib (Br v0,Bk v0) (Br v1,Bk v1),HT (Br v0,Bk v0) (Br v1,Bk v1));let c:=(Nq b' b,NC b' b);.ck (Eu v0) (.ck (Eu v1)<|.ck (Cu (BS v0,BJ v0)&&Cu (Br v1,Bk v1))<|.ck (Cu (BS v1,BJ v1)&&Cu (Br v0,Bk v0))<|.ck (Cu b'&&Cu b)<|.ck (Cu (Br v0,Bk v0)&&Cu (Br v1,Bk v1))<|.ck (Cu c&&Cu a&&decide (Sp.vR a≠0))<|.leaf (.dat zf<|Iv c a) []):=by kernel_rfl
end T33
namespace T34
def T(a b:Z):Tr:=tree zW false 9 34<|Ae ([zf,zf]) (a,b)
def L1(v0 v1:Z):Tr:=re ((T [] []).L.L.L.R)<|Aw 55 [(0,.dat zf v0),(1,.dat zf v1)] [] 0
theorem Ai(a b:Z):T a b=let c:=zc .i64<|lX a*lX b;let b':=zc .i64<|VB a*VB b;.ck (Bj a) (.ck (Bj b)<|.ite (Ee a) (.ite (Ee b) (.ck (CI c&&CI b'&&decide (zc .i64 (VB a*VB b)≠0))<|.leaf (.dat zf<|Dp c b') [])<|L1 a b)<|L1 a b):=by kernel_rfl
theorem Al(v0 v1:Z):stepT zW (L1 v0 v1)=let a:=(Ib (Br v0,Bk v0) (Br v1,Bk v1),HT (Br v0,Bk v0) (Br v1,Bk v1));let b':=(Ib (BS v0,BJ v0) (BS v1,BJ v1),HT (BS v0,BJ v0) (BS v1,BJ v1));.ck (Eu v0) (.ck (Eu v1)<|.ck (Cu (BS v0,BJ v0)&&Cu (BS v1,BJ v1))<|.ck (Cu (Br v0,Bk v0)&&Cu (Br v1,Bk v1))<|.ck (Cu b'&&Cu a&&decide (Sp.vR a≠0))<|.leaf (.dat zf<|Iv b' a) []):=by kernel_rfl
end T34
namespace T147
def T(a:Z):Tr:=tree zW false 9 147<|Ae ([zf]) a
theorem Ai(a:Z):T a=.ck (Eu a) (.ck (Cu (Br a,Bk a)&&Cu (BS a,BJ a)&&decide (Sp.vR (BS a,BJ a)≠0))<|.leaf (.dat zf<|Iv (Br a,Bk a) (BS a,BJ a)) []):=by kernel_rfl
end T147
namespace T37
def T(a b:Z):Tr:=tree XR7 false 9 37<|Ae ([zf,zf]) (a,b)
theorem Ai(a b:Z):T a b=.cd (length b<=1000000) (.ck (Bj a&&Bj (GD b))<|.leaf (.dat zf<|CR a<|GD b) []):=by kernel_rfl
end T37
namespace T82
def T(a b:Z):Tr:=tree XR7 false 9 82<|Ae ([zf,zf]) (a,b)
theorem Ai(a b:Z):T a b=.ck (eP b) (.ck (Bj a&&Bj (Rb b))<|.leaf (.dat zf<|Ka a<|Rb b) []):=by kernel_rfl
end T82
namespace T36
def T(a b:Z):Tr:=tree XR8 false 9 36<|Ae ([zf,zf]) (a,b)
theorem Ai(a b:Z):T a b=.ck (Bj a&&Ep b) (.cd (length (J6 a b)<=1000000)<|.leaf (.dat i64<|EU<|J6 a b) []):=by kernel_rfl
end T36
namespace T148
def T(a:Z):Tr:=tree XR8 false 9 148<|Ae ([zf]) a
theorem Ai(a:Z):T a=.cd (length a<=1000000) (.leaf (.dat zk<|A0 a==(length a:Int)) []):=by kernel_rfl
end T148
namespace T80
def T(a:Z):Tr:=tree XR8 false 9 80<|Ae ([zf]) a
theorem Ai(a:Z):T a=let b:=decide (length a<=1000000);let b':Tr:=.leaf (.dat i64 (4:Int)) [];.ck b (.cd (length (AA a)<=1000000)<|.di ((↑(length<|A8<|AA a):Int)>600) b'<|.ck b<|.di ((↑(length<|S5 a):Int)>600) b'<|.leaf (.dat i64 (0:Int)) []):=by kernel_rfl
end T80
namespace T85
def T(a:Z):Tr:=tree XR9 false 9 85<|Ae ([zf]) a
theorem Ai(a:Z):T a=let b:=(I3 (BS a,BJ a) (Br a,Bk a),IN (BS a,BJ a) (Br a,Bk a));.cd (length a<=1000000) (.ite (H5 a) (.leaf (.dat zf a) [])<|.ck (Eu a)<|.ck (Cu (BS a,BJ a)&&Cu (Br a,Bk a)&&decide (0<Sp.vR (Br a,Bk a)))<|.ck (Cu b)<|.leaf (.dat zf<|FO b) []):=by kernel_rfl
end T85
namespace T195
def T(a:List Int)(i:Int):Tr:=tree XR0 false 9 195<|Ae ([zi i64,zm ze]) (a,i)
theorem Ai(a:List Int)(i:Int):T a i=.di (i<(length a:Int)) (.ck (decide (0<=i)&&decide (i<(length a:Int)))<|.leaf (.dat i64<|getD a (toNat i) 0) []) (.leaf (.dat i64 (0:Int)) []):=by kernel_rfl
end T195
namespace T156
def T(a b:List Int):Tr:=tree WK false 9 156<|Ae ([zi i64,zi i64]) (a,b)
def L1(v0 v1:List Int)(b a:Int):Tr:=re ((T [] []))<|Aw 42 [(0,.dat (zi i64) v0),(1,.dat (zi i64) v1),(5,.nil),(6,.dat i64 b),(7,.dat i64 a)] [] 0
theorem Ai(a b:List Int):T a b=L1 a b 0 0:=by kernel_rfl
def L2(v0 v1:List Int)(a:Nat)(d b:Int)(c:List Int):Tr:=re ((stepT WK<|L1 [] [] 0 0).L.L.L.L.L.L)<|Aw 42 [(0,.dat (zi i64) v0),(1,.dat (zi i64) v1),(5,.sl 0 1 0 a none),(6,.dat i64 d),(7,.dat i64 b)] [(0,.arr false 3 i64 c)] 1
theorem Al(v0 v1:List Int)(b a:Int):stepT WK (L1 v0 v1 b a)=.di (a<(length v0:Int)) (.cd (0<=a)<|.cd (0<=a)<|.ck true<|.ck (decide (1<=1)&&decide (0<1)&&decide ((3*1+2000)*8<=562949953421312))<|.ck true<|L2 v0 v1 1 (zc .i64<|yj (zc .i64<|zc .i64 (Il v0 a+Il v1 a)+b) 1000000000) (zc .i64<|a+1)<|[zy (zc .i64<|zc .i64 (Il v0 a+Il v1 a)+b) 1000000000]) (.di (a<(length v1:Int)) (.cd (0<=a)<|.cd (0<=a)<|.ck true<|.ck (decide (1<=1)&&decide (0<1)&&decide ((3*1+2000)*8<=562949953421312))<|.ck true<|L2 v0 v1 1 (zc .i64<|yj (zc .i64<|zc .i64 (Il v0 a+Il v1 a)+b) 1000000000) (zc .i64<|a+1)<|[zy (zc .i64<|zc .i64 (Il v0 a+Il v1 a)+b) 1000000000])<|.di (b>0) (.cd (0<=a)<|.cd (0<=a)<|.ck true<|.ck (decide (1<=1)&&decide (0<1)&&decide ((3*1+2000)*8<=562949953421312))<|.ck true<|L2 v0 v1 1 (zc .i64<|yj (zc .i64<|zc .i64 (Il v0 a+Il v1 a)+b) 1000000000) (zc .i64<|a+1)<|[zy (zc .i64<|zc .i64 (Il v0 a+Il v1 a)+b) 1000000000])<|.leaf .nil []):=by kernel_rfl
theorem AH(v0 v1:List Int)(b:Nat)(d a:Int)(c:List Int):stepT WK (L2 v0 v1 b d a c)=.di (a<(length v0:Int)) (.cd (0<=a)<|.cd (0<=a)<|.ck true<|.ck (decide (1<=1)&&true&&decide (b=length c)&&decide ((3*(b+1)+2000)*8<=562949953421312))<|.ck true<|L2 v0 v1 (qh b 1) (zc .i64<|yj (zc .i64<|zc .i64 (Il v0 a+Il v1 a)+d) 1000000000) (zc .i64<|a+1)<|c++[zy (zc .i64<|zc .i64 (Il v0 a+Il v1 a)+d) 1000000000]) (.di (a<(length v1:Int)) (.cd (0<=a)<|.cd (0<=a)<|.ck true<|.ck (decide (1<=1)&&true&&decide (b=length c)&&decide ((3*(b+1)+2000)*8<=562949953421312))<|.ck true<|L2 v0 v1 (qh b 1) (zc .i64<|yj (zc .i64<|zc .i64 (Il v0 a+Il v1 a)+d) 1000000000) (zc .i64<|a+1)<|c++[zy (zc .i64<|zc .i64 (Il v0 a+Il v1 a)+d) 1000000000])<|.di (d>0) (.cd (0<=a)<|.cd (0<=a)<|.ck true<|.ck (decide (1<=1)&&true&&decide (b=length c)&&decide ((3*(b+1)+2000)*8<=562949953421312))<|.ck true<|L2 v0 v1 (qh b 1) (zc .i64<|yj (zc .i64<|zc .i64 (Il v0 a+Il v1 a)+d) 1000000000) (zc .i64<|a+1)<|c++[zy (zc .i64<|zc .i64 (Il v0 a+Il v1 a)+d) 1000000000])<|.leaf (.sl 0 1 0 b none)<|[(0,.arr false 3 i64 c)]):=by kernel_rfl
end T156
namespace T158
def T(a b:List Int):Tr:=tree WK false 9 158<|Ae ([zi i64,zi i64]) (a,b)
def L1(v0 v1:List Int)(b a:Int):Tr:=re ((T [] []))<|Aw 35 [(0,.dat (zi i64) v0),(1,.dat (zi i64) v1),(5,.nil),(6,.dat i64 b),(7,.dat i64 a)] [] 0
theorem Ai(a b:List Int):T a b=L1 a b 0 0:=by kernel_rfl
def L2(v0 v1:List Int)(a:Nat)(d b:Int)(c:List Int):Tr:=re ((stepT WK<|L1 [] [] 0 0).L.L.L.L.L)<|Aw 35 [(0,.dat (zi i64) v0),(1,.dat (zi i64) v1),(5,.sl 0 1 0 a none),(6,.dat i64 d),(7,.dat i64 b)] [(0,.arr false 3 i64 c)] 1
theorem Al(v0 v1:List Int)(b a:Int):stepT WK (L1 v0 v1 b a)=.di (a<(length v0:Int)) (.ck (decide (0<=a)&&decide (a<(length v0:Int)))<|.cd (0<=a)<|.di (zc .i64 (zc .i64 (getD v0 (toNat a) 0-Il v1 a)-b)<0) (.ck (decide (1<=1)&&decide (0<1)&&decide ((3*1+2000)*8<=562949953421312))<|L2 v0 v1 1 1 (zc .i64<|a+1)<|[zc .i64<|zc .i64 (zc .i64 (getD v0 (toNat a) 0-Il v1 a)-b)+1000000000])<|.ck (decide (1<=1)&&decide (0<1)&&decide ((3*1+2000)*8<=562949953421312))<|L2 v0 v1 1 0 (zc .i64<|a+1)<|[zc .i64<|zc .i64 (getD v0 (toNat a) 0-Il v1 a)-b]) (.ck true<|.leaf (.dat (zi i64)<|Ax []) []):=by kernel_rfl
theorem AH(v0 v1:List Int)(a:Nat)(d b:Int)(c:List Int):stepT WK (L2 v0 v1 a d b c)=.di (b<(length v0:Int)) (.ck (decide (0<=b)&&decide (b<(length v0:Int)))<|.cd (0<=b)<|.di (zc .i64 (zc .i64 (getD v0 (toNat b) 0-Il v1 b)-d)<0) (.ck (decide (1<=1)&&true&&decide (a=length c)&&decide ((3*(a+1)+2000)*8<=562949953421312))<|L2 v0 v1 (qh a 1) 1 (zc .i64<|b+1)<|c++[zc .i64<|zc .i64 (zc .i64 (getD v0 (toNat b) 0-Il v1 b)-d)+1000000000])<|.ck (decide (1<=1)&&true&&decide (a=length c)&&decide ((3*(a+1)+2000)*8<=562949953421312))<|L2 v0 v1 (qh a 1) 0 (zc .i64<|b+1)<|c++[zc .i64<|zc .i64 (getD v0 (toNat b) 0-Il v1 b)-d]) (.ck (decide (0+a<=length c)&&true&&decide (length (take a c)<=20000))<|.leaf (.dat (zi i64)<|Ax<|take a c) []):=by kernel_rfl
end T158
namespace T94
def T(a b:Bool×List Int):Tr:=tree XR2 false 9 94<|Ae ([zx zk<|zi i64,zx zk<|zi i64]) (a,b)
theorem Ai(a b:Bool×List Int):T a b=.ite (fst a==fst b) (.ck (mO (snd a)<|snd b)<|.cd (length (Ij (snd a)<|snd b)<=20000)<|.leaf (ye [.dat zk<|CH (fst a)<|Ij (snd a)<|snd b,.dat (zi i64)<|Ax<|Ij (snd a)<|snd b]) []) (.ck (Ba (snd a)&&Ba (snd b))<|.di (Cg (An<|snd a) (An<|snd b)>=0) (.ck (mO (snd a) (snd b)&&decide (An (snd b)<=An (snd a)))<|.cd (length (Jc (snd a)<|snd b)<=20000)<|.leaf (ye [.dat zk<|CH (fst a)<|Jc (snd a)<|snd b,.dat (zi i64)<|Ax<|Jc (snd a)<|snd b]) [])<|.ck (mO (snd b) (snd a)&&decide (An (snd a)<=An (snd b)))<|.cd (length (Jc (snd b)<|snd a)<=20000)<|.leaf (ye [.dat zk<|CH (fst b)<|Jc (snd b)<|snd a,.dat (zi i64)<|Ax<|Jc (snd b)<|snd a]) []):=by kernel_rfl
end T94
namespace T95
def T(a b:Bool×List Int):Tr:=tree XR2 false 9 95<|Ae ([zx zk<|zi i64,zx zk<|zi i64]) (a,b)
theorem Ai(a b:Bool×List Int):T a b=.ck (Sp.hR (snd a)&&Sp.hR (snd b)) (.cd (length (BL<|An (snd a)*An (snd b))<=20000)<|.leaf (ye [.dat zk<|CH (!fst a==fst b)<|BL<|An (snd a)*An (snd b),.dat (zi i64)<|Ax<|BL<|An (snd a)*An (snd b)]) []):=by kernel_rfl
end T95
namespace T153
def T(a:Bool×List Int):Tr:=tree XR2 false 9 153<|Ae ([zx zk<|zi i64]) a
theorem Ai(a:Bool×List Int):T a=.cd (length (snd a)<=20000) (.leaf (ye [.dat zk<|CH (!fst a)<|snd a,.dat (zi i64)<|Ax<|snd a]) []):=by kernel_rfl
end T153
namespace T150
def T(a b:Bool×List Int):Tr:=tree XR2 false 9 150<|Ae ([zx zk<|zi i64,zx zk<|zi i64]) (a,b)
theorem Ai(a b:Bool×List Int):T a b=.ck (Ba (snd a)&&Ba (snd b)&&decide (length (snd a)<=9000)&&decide (length (snd b)<=9000)&&decide (0<An (snd b))) (.ite (fst a) (.di ((↑(length<|BL<|An (snd a) % An (snd b)):Int)>0) (.ck (mO (BL<|An (snd a)/An (snd b)) [1])<|.cd (length (Ij (BL<|An (snd a)/An (snd b)) [1])<=20000)<|.leaf (ye [.dat zk<|CH (fst a)<|Ij (BL<|An (snd a)/An (snd b)) [1],.dat (zi i64)<|Ax<|Ij (BL<|An (snd a)/An (snd b)) [1]]) [])<|.cd (length (BL<|An (snd a)/An (snd b))<=20000)<|.leaf (ye [.dat zk<|CH (fst a)<|BL<|An (snd a)/An (snd b),.dat (zi i64)<|Ax<|BL<|An (snd a)/An (snd b)]) [])<|.cd (length (BL<|An (snd a)/An (snd b))<=20000)<|.leaf (ye [.dat zk<|CH (fst a)<|BL<|An (snd a)/An (snd b),.dat (zi i64)<|Ax<|BL<|An (snd a)/An (snd b)]) []):=by kernel_rfl
end T150
namespace T96
def T(a:Bool×List Int):Tr:=tree XR3 false 9 96<|Ae ([zx zk<|zi i64]) a
def L1(v3:Z)(v4:Int)(b:Bool)(a:List Int):Tr:=re ((T (false,[])).R.L.L)<|Aw 39 [(1,.ptr 0 0),(3,.dat zf v3),(4,.dat i64 v4)] [(0,.box [.dat zk b,.dat (zi i64) a])] 1
theorem Ai(a:Bool×List Int):T a=.ite ((↑(length<|snd a):Int)==0) (.leaf (.dat zf [(48:UInt8)]) []) (.ck (decide (0<=zc .i64 ((↑(length<|snd a):Int)-1))&&decide (zc .i64 ((↑(length<|snd a):Int)-1)<(↑(length<|snd a):Int)))<|.ck (decide (0<=getD (snd a) (toNat<|zc .i64<|(↑(length<|snd a):Int)-1) 0)&&decide (getD (snd a) (toNat<|zc .i64<|(↑(length<|snd a):Int)-1) 0<9223372036854775808)&&decide (0<=1)&&decide (1<=20))<|L1 (Iz (getD (snd a) (toNat<|zc .i64<|(↑(length<|snd a):Int)-1) 0) 1) (zc .i64<|(↑(length<|snd a):Int)-2) (fst a)<|snd a):=by kernel_rfl
theorem Al(v3:Z)(v4:Int)(b:Bool)(a:List Int):stepT XR3 (L1 v3 v4 b a)=.di (v4>=0) (.ck (decide (0<=v4)&&decide (v4<(length a:Int)))<|.ck (decide (0<=getD a (toNat v4) 0)&&decide (getD a (toNat v4) 0<9223372036854775808)&&decide (0<=9)&&decide (9<=20))<|.cd (length v3+length (Iz (getD a (toNat v4) 0) 9)<=4611686018427387904)<|L1 (v3++Iz (getD a (toNat v4) 0) 9) (zc .i64<|v4-1) b a) (.ite b (.cd (1+length v3<=4611686018427387904)<|.leaf (.dat zf<|[(45:UInt8)]++v3) [])<|.leaf (.dat zf v3) []):=by kernel_rfl
end T96
namespace T93
def T(a b:Bool×List Int):Tr:=tree qN false 9 93<|Ae ([zx zk<|zi i64,zx zk<|zi i64]) (a,b)
def L1(o1:Bool)(b:List Int)(c:Bool)(a:List Int):Tr:=re ((T (false,[]) (false,[])).L.L.L)<|Aw 57 [(2,.ptr 0 0),(3,.ptr 1 0)] [(1,.box [.dat zk o1,.dat (zi i64) b]),(0,.box [.dat zk c,.dat (zi i64) a])] 2
theorem Ai(a b:Bool×List Int):T a b=.ite (fst b) (.ck (Cu a)<|.ck (Cu b)<|L1 (SA b) (S6 b) (SA a)<|S6 a) (L1 (fst b) (snd b) (fst a)<|snd a):=by kernel_rfl
def L2(b:List Int)(a:Z):Tr:=re ((stepT qN<|L1 false [] false []).L.L.L.L.L)<|Aw 57 [(8,.dat (zi i64) b),(10,.dat zf a)] [] 0
theorem Al(o1:Bool)(b:List Int)(c:Bool)(a:List Int):stepT qN (L1 o1 b c a)=.ck (Ba a&&Ba b&&decide (length a<=9000)&&decide (length b<=9000)) (.ck (Ba a&&Ba (CA a b)&&decide (length a<=9000)&&decide (length (CA a b)<=9000)&&decide (0<An (CA a b)))<|.ck (Ba b&&Ba (CA a b)&&decide (length b<=9000)&&decide (length (CA a b)<=9000)&&decide (0<An (CA a b)))<|.cd (length (BL<|An a/An (CA a b))<=20000)<|.ck (Cu (CH c<|BL<|An a/An (CA a b),Ax<|BL<|An a/An (CA a b)))<|L2 (BL<|An b/An (CA a b))<|FO (CH c<|BL<|An a/An (CA a b),Ax<|BL<|An a/An (CA a b))):=by kernel_rfl
def L3(b:List Int)(a:Z):Tr:=re ((stepT qN<|L2 [] []).L.L.R)<|Aw 57 [(8,.dat (zi i64) b),(10,.dat zf a)] [] 0
theorem AH(b:List Int)(a:Z):stepT qN (L2 b a)=.ite ((length b:Int)==1) (.cd (0<(length b:Int))<|.ite (getD b 0 0==1) (.leaf (.dat zf a) [])<|L3 b a) (L3 b a):=by kernel_rfl
theorem B5(b:List Int)(a:Z):stepT qN (L3 b a)=.cd (length a+1<=4611686018427387904) (.cd (length b<=20000)<|.ck (Cu (CH false b,Ax b))<|.cd (length (a++[(47:UInt8)])+length (FO (CH false b,Ax b))<=4611686018427387904)<|.leaf (.dat zf<|a++[(47:UInt8)]++FO (CH false b,Ax b)) []):=by kernel_rfl
end T93
namespace T40
def T(n d:Int):Tr:=tree fL false 9 40<|Ae ([zm ze,zm ze]) (n,d)
def L1(v0 v1:Int):Tr:=re ((T 0 0).R.R.R.R)<|Aw 61 [(0,.dat i64 v0),(1,.dat i64 v1)] [] 0
theorem Ai(n d:Int):T n d=.di (n<(-4000000000000000000)) (.ck (CI n)<|.ck (CI d)<|.ck (Cu (yk n,ym n)&&Cu (yk d,ym d)&&decide (Sp.vR (yk d,ym d)≠0))<|.leaf (.dat zf<|Iv (yk n,ym n) (yk d,ym d)) []) (.di (n>4000000000000000000) (.ck (CI n)<|.ck (CI d)<|.ck (Cu (yk n,ym n)&&Cu (yk d,ym d)&&decide (Sp.vR (yk d,ym d)≠0))<|.leaf (.dat zf<|Iv (yk n,ym n) (yk d,ym d)) [])<|.di (d<(-4000000000000000000)) (.ck (CI n)<|.ck (CI d)<|.ck (Cu (yk n,ym n)&&Cu (yk d,ym d)&&decide (Sp.vR (yk d,ym d)≠0))<|.leaf (.dat zf<|Iv (yk n,ym n) (yk d,ym d)) [])<|.di (d>4000000000000000000) (.ck (CI n)<|.ck (CI d)<|.ck (Cu (yk n,ym n)&&Cu (yk d,ym d)&&decide (Sp.vR (yk d,ym d)≠0))<|.leaf (.dat zf<|Iv (yk n,ym n) (yk d,ym d)) [])<|L1 n d):=by kernel_rfl
def L2(v0 v1:Int):Tr:=re ((stepT fL<|L1 0 0).L)<|Aw 61 [(0,.dat i64 v0),(1,.dat i64 v1)] [] 0
theorem Al(v0 v1:Int):stepT fL (L1 v0 v1)=.di (v1<0) (L2 (zc .i64<|0-v0)<|zc .i64<|0-v1) (L2 v0 v1):=by kernel_rfl
def L3(v0 v1:Int):Tr:=re ((stepT fL<|L2 0 0).L.L.L)<|Aw 61 [(0,.dat i64 v0),(1,.dat i64 v1)] [] 0
theorem AH(v0 v1:Int):stepT fL (L2 v0 v1)=.ck (AdK (imax v0<|zc .i64<|0-v0) v1) (.cd (Sp.gI (imax v0<|zc .i64<|0-v0) v1≠0)<|.cd (Sp.gI (imax v0<|zc .i64<|0-v0) v1≠0)<|L3 (zc .i64<|yj v0<|Sp.gI (imax v0<|zc .i64<|0-v0) v1)<|zc .i64<|yj v1<|Sp.gI (imax v0<|zc .i64<|0-v0) v1):=by kernel_rfl
def L4(v1:Int)(a:Z):Tr:=re ((stepT fL<|L3 0 0).L.L.L)<|Aw 61 [(1,.dat i64 v1),(6,.dat zf a)] [] 0
theorem B5(v0 v1:Int):stepT fL (L3 v0 v1)=.di (v0<0) (.ck (decide (0<=imax v0 (zc .i64<|0-v0))&&decide (imax v0 (zc .i64<|0-v0)<9223372036854775808)&&decide (0<=1)&&decide (1<=20))<|.cd (1+length (Iz (imax v0<|zc .i64<|0-v0) 1)<=4611686018427387904)<|L4 v1<|[(45:UInt8)]++Iz (imax v0<|zc .i64<|0-v0) 1) (.ck (decide (0<=imax v0 (zc .i64<|0-v0))&&decide (imax v0 (zc .i64<|0-v0)<9223372036854775808)&&decide (0<=1)&&decide (1<=20))<|.cd (0+length (Iz (imax v0<|zc .i64<|0-v0) 1)<=4611686018427387904)<|L4 v1<|[]++Iz (imax v0<|zc .i64<|0-v0) 1):=by kernel_rfl
theorem CD(v1:Int)(a:Z):stepT fL (L4 v1 a)=.di (v1>1) (.cd (length a+1<=4611686018427387904)<|.ck (decide (0<=v1)&&decide (v1<9223372036854775808)&&decide (0<=1)&&decide (1<=20))<|.cd (length (a++[(47:UInt8)])+length (Iz v1 1)<=4611686018427387904)<|.leaf (.dat zf<|a++[(47:UInt8)]++Iz v1 1) []) (.leaf (.dat zf a) []):=by kernel_rfl
end T40
namespace T98
def T(a b:Int):Tr:=tree Oi false 9 98<|Ae ([zm ze,zm ze]) (a,b)
def L1(v0 v1:Int):Tr:=re ((T 0 0))<|Aw 12 [(0,.dat i64 v0),(1,.dat i64 v1)] [] 0
theorem Ai(a b:Int):T a b=L1 a b:=by kernel_rfl
theorem Al(v0 v1:Int):stepT Oi (L1 v0 v1)=.di (v1>0) (.cd (v1≠0)<|L1 v1<|zy v0 v1) (.leaf (.dat i64 v0) []):=by kernel_rfl
end T98
namespace T38
def T(s:Z):Tr:=tree Oi false 9 38<|Ae ([zf]) s
theorem Ai(s:Z):T s=let a:Tr:=.leaf (.dat i64 (1:Int)) [];.ite (s==[(48:UInt8)]) (.leaf (.dat i64 (0:Int)) []) (.di ((length s:Int)>0) (.cd (0<(length s:Int))<|.ite ((↑(UInt8.toNat<|getD s 0 (0:UInt8)):Int)==45) (.leaf (.dat i64 (-1:Int)) []) a) a):=by kernel_rfl
end T38
namespace T84
def T(s:Z):Tr:=tree XO2 false 9 84<|Ae ([zf]) s
theorem Ai(s:Z):T s=let a:=decide (length s<=1000000);.ck a (.di (EU s<0) (.ck (decide (1<=length s)&&decide (length s<=length s))<|.leaf (.dat zf<|take (z7 (length s) 1)<|drop 1 s) [])<|.ck a<|.ite (EU s==0) (.leaf (.dat zf s) [])<|.cd (1+length s<=4611686018427387904)<|.leaf (.dat zf<|[(45:UInt8)]++s) []):=by kernel_rfl
end T84
namespace T99
def T(n l:Int):Tr:=tree Oi false 9 99<|Ae ([zm ze,zm ze]) (n,l)
def L1(v0 v1:Int)(v5:Z):Tr:=re ((T 0 0))<|Aw 25 [(0,.dat i64 v0),(1,.dat i64 v1),(5,.dat zf v5)] [] 0
theorem Ai(n l:Int):T n l=L1 n l []:=by kernel_rfl
theorem Al(v0 v1:Int)(v5:Z):stepT Oi (L1 v0 v1 v5)=let a:=zc .i64<|zy v0 10+1;let b:=toNat<|zy v0 10;let b':=drop b [(48:UInt8),49,50,51,52,53,54,55,56,57];let c:Tr:=.ck true<|.ck true<|.ck (decide (0<=zy v0 10)&&decide (0<=zc .i64 (zy v0 10+1))&&decide (toNat (zy v0 10)<=toNat a)&&decide (toNat a<=10))<|.cd (length (take (z7 (toNat a) b) b')+length v5<=4611686018427387904)<|.ck true<|L1 (zc .i64<|yj v0 10) v1<|take (z7 (toNat a) b) b'++v5;.di (v0>0) c (.di ((length v5:Int)<v1) c<|.leaf (.dat zf v5) []):=by kernel_rfl
end T99
namespace T91
def T(s:Z):Tr:=tree Oz false 9 91<|Ae ([zf]) s
def L1(v5:Z)(a:Bool):Tr:=re ((T []).R.L.L)<|Aw 54 [(5,.dat zf v5),(6,.dat zk a)] [] 0
def L2(v5:Z):Tr:=re ((T []).R.R)<|Aw 54 [(5,.dat zf v5),(6,.bl false)] [] 0
theorem Ai(s:Z):T s=let a:=(length s:Int);.di (a>20) (.leaf (.tup [.dat i64 (0:Int),.dat i64 (0:Int),.bl false]) []) (.di (a>0) (.cd (0<a)<|L1 s<|(↑(UInt8.toNat<|getD s 0 (0:UInt8)):Int)==45)<|L2 s):=by kernel_rfl
def L3(v5:Z)(a:Bool):Tr:=re ((stepT Oz<|L1 [] false).L.L)<|Aw 54 [(5,.dat zf v5),(6,.dat zk a)] [] 0
theorem Al(v5:Z)(a:Bool):stepT Oz (L1 v5 a)=.ite a (.ck (decide (1<=length v5)&&decide (length v5<=length v5))<|L3 (take (z7 (length v5) 1)<|drop 1 v5) a) (L3 v5 a):=by kernel_rfl
def L4(v5:Z):Tr:=re ((stepT Oz<|L2 []))<|Aw 54 [(5,.dat zf v5),(6,.bl false)] [] 0
theorem AH(v5:Z):stepT Oz (L2 v5)=L4 v5:=by kernel_rfl
def L5(v5:Z)(c:Bool)(a b v9:Int):Tr:=re ((stepT Oz<|L3 [] false).L.R.R.L.L)<|Aw 54 [(5,.dat zf v5),(6,.dat zk c),(7,.dat i64 a),(8,.dat i64 b),(9,.dat i64 v9)] [] 0
theorem B5(v5:Z)(b:Bool):stepT Oz (L3 v5 b)=let a:Tr:=.leaf (.tup [.dat i64 (0:Int),.dat i64 (0:Int),.bl false]) [];let b':=A0 v5;.cd (length v5<=1000000) (.di (A0 v5>9) a<|.di (zc .i64 ((length v5:Int)-A0 v5)>10) a<|.ck (decide (0<=A0 v5)&&decide (0<=toNat b')&&decide (toNat b'<=length v5))<|.ck (Ea<|take (toNat b') v5)<|L5 v5 b b' (BZ<|take (toNat b') v5) 1):=by kernel_rfl
def L6(v5:Z)(a b v9:Int):Tr:=re ((stepT Oz<|L4 []).L.R.R.L.L)<|Aw 54 [(5,.dat zf v5),(6,.bl false),(7,.dat i64 a),(8,.dat i64 b),(9,.dat i64 v9)] [] 0
theorem CD(v5:Z):stepT Oz (L4 v5)=let a:Tr:=.leaf (.tup [.dat i64 (0:Int),.dat i64 (0:Int),.bl false]) [];let b':=A0 v5;.cd (length v5<=1000000) (.di (A0 v5>9) a<|.di (zc .i64 ((length v5:Int)-A0 v5)>10) a<|.ck (decide (0<=A0 v5)&&decide (0<=toNat b')&&decide (toNat b'<=length v5))<|.ck (Ea<|take (toNat b') v5)<|L6 v5 b' (BZ<|take (toNat b') v5) 1):=by kernel_rfl
def L7(b:Bool)(a v9:Int):Tr:=re ((stepT Oz<|L5 [] false 0 0 0).L.L.L)<|Aw 54 [(6,.dat zk b),(8,.dat i64 a),(9,.dat i64 v9)] [] 0
theorem EG(v5:Z)(c:Bool)(a b v9:Int):stepT Oz (L5 v5 c a b v9)=let b':=zc .i64<|a+1;let d:=take (z7 (length v5)<|toNat b')<|drop (toNat b') v5;.di (a<(length v5:Int)) (.ck (decide (0<=zc .i64 (a+1))&&true&&decide (toNat b'<=length v5)&&decide (length v5<=length v5))<|.ck (Ea d)<|L7 c b<|BZ d) (L7 c b v9):=by kernel_rfl
def L8(a v9:Int):Tr:=re ((stepT Oz<|L6 [] 0 0 0).L.L.L)<|Aw 54 [(6,.bl false),(8,.dat i64 a),(9,.dat i64 v9)] [] 0
theorem ET(v5:Z)(a b v9:Int):stepT Oz (L6 v5 a b v9)=let b':=zc .i64<|a+1;let c:=take (z7 (length v5)<|toNat b')<|drop (toNat b') v5;.di (a<(length v5:Int)) (.ck (decide (0<=zc .i64 (a+1))&&true&&decide (toNat b'<=length v5)&&decide (length v5<=length v5))<|.ck (Ea c)<|L8 b<|BZ c) (L8 b v9):=by kernel_rfl
theorem D1(b:Bool)(a v9:Int):stepT Oz (L7 b a v9)=.ite b (.leaf (.tup [.dat i64<|zc .i64<|0-a,.dat i64 v9,.bl true]) []) (.leaf (.tup [.dat i64 a,.dat i64 v9,.bl true]) []):=by kernel_rfl
theorem Hs(a v9:Int):stepT Oz (L8 a v9)=.leaf (.tup [.dat i64 a,.dat i64 v9,.bl true]) []:=by kernel_rfl
end T91
namespace T144
def T(a:Z):Tr:=tree Oi false 9 144<|Ae ([zf]) a
theorem Ai(a:Z):T a=let b:Tr:=.ck (decide (1<=length a)&&decide (length a<=length a))<|.leaf (.dat zf<|take (z7 (length a) 1)<|drop 1 a) [];let b':Tr:=.ite false b<|.leaf (.dat zf a) [];.ite (a==[(48:UInt8)]) b' (.di ((length a:Int)>0) (.cd (0<(length a:Int))<|.ite ((↑(UInt8.toNat<|getD a 0 (0:UInt8)):Int)==45) (.ite true b<|.leaf (.dat zf a) []) b') b'):=by kernel_rfl
end T144
namespace T145
def T(a:Z):Tr:=tree XM5 false 9 145<|Ae ([zf]) a
theorem Ai(a:Z):T a=.cd (length a<=1000000) (.ck (decide (0<=A0 a)&&decide (0<=toNat (A0 a))&&decide (toNat (A0 a)<=length a))<|.leaf (.dat zf<|take (toNat<|A0 a) a) []):=by kernel_rfl
end T145
namespace T146
def T(a:Z):Tr:=tree XM5 false 9 146<|Ae ([zf]) a
theorem Ai(a:Z):T a=let b:=zc .i64<|A0 a+1;.cd (length a<=1000000) (.ite (A0 a==(length a:Int)) (.leaf (.dat zf [(49:UInt8)]) [])<|.ck (decide (0<=zc .i64 (A0 a+1))&&true&&decide (toNat b<=length a)&&decide (length a<=length a))<|.leaf (.dat zf<|take (z7 (length a)<|toNat b)<|drop (toNat b) a) []):=by kernel_rfl
end T146
end
theorem Zw:C9 XM5:=Aa T128.ok AI
theorem T144.ok:Af A6 144 qJ:=by
 refine BO Fi<|fun(a:Z) i=>?_;have i:a.length<=1000000:=w6 i;have b:∀s ob,s=A8 a->Ad qJ a (.dat .str s) ob:=fun s ob h=>yd rfl rfl h
 refine zw (T144.Ai a)<|ya (fun c=>zo rfl (zg<|b _ _ ?_))<|fun c=>?_
 ·have c:a=[48]:=by simpa using c
  subst c;rfl
 ·cases a with
  |nil=>exact zo rfl (zo rfl (zg<|b _ _ rfl))
  |cons x r=>
   have g:(x::r).getD 0 0=x:=rfl;have e:(qj 1 (x::r)).take (z7 (x::r).length 1)=r:=by show r.take ((r.length+1)-1)=r;rw[yh];exact List.take_length
   rw[g,e];refine zd (by simp) (zd (by simp)<|ya (fun d=>zd rfl (zd (by simp)<|zg<|b _ _ ?_))<|fun d=>zo rfl (zg<|b _ _ ?_))
   ·have f:x=45:=by
     have:(x.toNat:Int)=45:=by simpa using d
     exact UInt8.toNat_inj.1 (by show _=45;omega)
    unfold A8;rw[g,wd f];rfl
   ·have f:x≠45:=by rintro rfl;exact wh d (by decide)
    unfold A8;rw[g,wc f]
theorem T145.ok:Af A6 145 yP:=by
 refine BO Zw<|fun(a:Z) hl=>?_;have b:=(T122.DK a).1;refine zw (T145.Ai a)<|zd hl ?_;rw[show A0 a=((AA a).length:Int)from rfl,zl];exact zd (by simp;omega)<|zg<|yd rfl rfl (BQ a).1.symm
theorem T146.ok:Af A6 146 gK:=by
 refine BO Zw<|fun(a:Z) hl=>?_;have g:a.length<=1000000:=w6 hl;obtain⟨m,d,f⟩:=BQ a;have c:∀s ob,s=S5 a->Ad gK a (.dat .str s) ob:=fun s ob h=>yd rfl rfl h
 have k:=(T122.DK a).1;have es:A0 a=((AA a).length:Int):=rfl;refine zw (T146.Ai a)<|zd hl ?_;rw[es];cases b:Bs a with
 |false=>
  refine zd (by rw[(f b).1];simp)<|zg<|c _ _ ?_;unfold S5;rw[b];rfl
 |true=>
  obtain⟨l,i⟩:=d b;have e:zc .i64 (((AA a).length:Int)+1)=(((AA a).length+1:Nat):Int):=by rw[wr _ (by omega)<|by omega];omega
  have j:(a.drop<|(AA a).length+1).take (z7 a.length<|(AA a).length+1)=a.drop ((AA a).length+1):=zu (by rw[zz];exact yv _);rw[e,zl,j];refine zo (by simp;omega) (zd (by simp;omega)<|zg<|c _ _ ?_);unfold S5;rw[b,i];rfl
namespace T98
variable {Q:PV->Ob->Prop}
theorem Ar(g:Nat)(b:∀ob,Q (.dat i64 (g:Int)) ob):∀(f x y:Nat),y<f->Nat.gcd x y=g->Ends Oi (L1 (x:Int) (y:Int)) Q
 |0,x,y,h,_=>by omega
 |f+1,x,y,d,a=>by
  refine yi (Al ..) ?_;conv=>zeta
  by_cases h0:y=0
  ·subst h0;rw[Nat.gcd_zero_right]at a;subst a;exact zo rfl (zg<|b _)
  ·have e:zy (x:Int) (y:Int)=((x % y:Nat):Int):=by rw[yt<|yg x];rfl
   rw[e];have c:x % y<y:=qf _ (by omega);exact zd (by simp;omega) (zd (by simp;omega) (Ar g b f y (x % y) (by omega)<|by rw[Nat.gcd_comm, <-Nat.gcd_rec,Nat.gcd_comm];exact a))
theorem ok:Af A6 98 Aai:=by
 refine BO Fi<|fun(i:Int×Int) c=>?_;obtain⟨a,b⟩:=i;have c:(decide (0<=a)&&decide (a<9223372036854775808)&&decide (0<=b)&&decide (b<9223372036854775808))=true:=c;rw[zh,zh,zh,w5,w5,w5,w5]at c;obtain⟨⟨⟨a0,_⟩,b0⟩,_⟩:=c;obtain⟨x,rfl⟩:=zr a0;obtain⟨y,rfl⟩:=zr b0;refine zw (Ai x y)<|Ar (Nat.gcd x y) (fun ob=>yd rfl rfl ?_) (y+1) x y (Nat.lt_succ_self _) rfl;show((Nat.gcd x y:Nat):Int)=Sp.gI (x:Int) (y:Int);rw[Ha];rfl
end T98
namespace T38
theorem ok:Af A6 38 MN:=by
 refine BO Fi<|fun(s:Z) hl=>?_;have a:∀v ob,v=EU s->Ad MN s (.dat i64 v) ob:=fun v ob f=>yd rfl rfl f
 refine zw (Ai s)<|ya (fun c=>zg<|a _ _ ?_)<|fun c=>?_
 ·have c:s=[48]:=by simpa using c
  unfold EU;rw[wd c]
 ·have c:¬s=[48]:=by simpa using c
  cases s with
  |nil=>exact zo rfl (zg<|a _ _ rfl)
  |cons x r=>
   have e:(x::r).getD 0 0=x:=rfl;rw[e];refine zd (by simp) (zd (by simp)<|ya (fun d=>zg<|a _ _ ?_)<|fun d=>zg<|a _ _ ?_)
   ·have b:x=45:=by
     have:(x.toNat:Int)=45:=by simpa using d
     exact UInt8.toNat_inj.1 (by show _=45;omega)
    unfold EU;rw[wc c,e,wd b]
   ·have b:x≠45:=by rintro rfl;exact wh d (by decide)
    unfold EU;rw[wc c,e,wc b]
end T38
theorem vZ:C9 XO2:=Aa T38.ok AI
theorem T84.ok:Af A6 84 YO:=by
 refine BO vZ<|fun(s:Z) b=>?_;have b:s.length<=1000000:=w6 b;have a:∀v ob,v=GD s->Ad YO s (.dat .str v) ob:=fun v ob e=>yd rfl rfl e
 refine zw (T84.Ai s)<|zd (w4 b) ?_;unfold GD at a;unfold EU;by_cases c:s=[48]
 ·rw[wd c];rw[wd c]at a;exact zo rfl (zd (w4 b)<|zd rfl (zg<|a _ _ rfl))
 ·rw[wc c];rw[wc c]at a;by_cases d:s.getD 0 0=45
  ·rw[wd d];rw[wd d]at a;have f:s≠[]:=by rintro rfl;exact wh d (by decide)
   have hp:1<=s.length:=yp.2 f;refine zd rfl (zd (by simp;omega)<|zg<|a _ _ ?_);exact zu (by rw[zz];exact yv _)
  ·rw[wc d];rw[wc d]at a;exact zo rfl (zd (w4 b)<|zo rfl (zd (by simp;omega)<|zg<|a _ _ rfl))
namespace T99
theorem aW:∀k:Fin 10,yz (z7 (k.1+1) k.1) (qj k.1 [(48:UInt8),49,50,51,52,53,54,55,56,57])=[yw<|48+k.1]:=by decide
theorem Ar{Q:PV->Ob->Prop}(l:Nat)(s:l<=20):∀(f n:Nat) (a:Z),n<9223372036854775808->n<10^f->l<=a.length+f->a.length+f<=64->(∀ob,Q (.dat .str<|HL (f+1) n l a) ob)->Ends Oi (L1 (n:Int) (l:Int) a) Q:=by
 intro f;induction f with
 |zero=>
  intro n a p g e d b;have h0:n=0:=by rw[Nat.pow_zero]at g;omega
  subst h0;unfold HL at b;rw[wd ⟨rfl,by omega⟩]at b;exact yi (Al ..) (zo rfl (zo (by simp;omega)<|zg<|b _))
 |succ f q=>
  intro n a p g e d b;have k:zy (n:Int) 10=((n % 10:Nat):Int):=by rw[yt<|yg n];rfl
  have r:zc .i64 (((n % 10:Nat):Int)+1)=((n % 10+1:Nat):Int):=by rw[wr _ (by omega)<|by omega];omega
  have o:zc .i64 (yj (n:Int) 10)=((n/10:Nat):Int):=by rw[Int.tdiv_eq_ediv_of_nonneg<|yg n,wr _ (by omega)<|by omega];rfl
  have i:=aW ⟨n % 10,qf _<|by decide⟩;have i:yz (z7 (n % 10+1)<|n % 10) (qj (n % 10) [(48:UInt8),49,50,51,52,53,54,55,56,57])=[yw<|48+n % 10]:=i;have t:n % 10<10:=qf _ (by decide);rw[Nat.pow_succ]at g;refine yi (Al ..) ?_;conv=>zeta
  rw[k,r,o,zl,zl,i];by_cases j:n=0/\l<=a.length
  ·obtain⟨m,z2⟩:=j;subst m;unfold HL at b;rw[wd ⟨rfl,z2⟩]at b;exact zo rfl (zo (by simp;omega)<|zg<|b _)
  ·have h:∀ob,Q (.dat .str<|HL (f+1) (n/10) l (yw (48+n % 10)::a)) ob:=by
    intro ob;have:=b ob;unfold HL at this;rw[wc j]at this;exact this
   have go:Ends Oi (L1 ((n/10:Nat):Int) (l:Int)<|[yw<|48+n % 10]++a) Q:=q (n/10) (yw (48+n % 10)::a) (by omega) (by omega) (by rw[yc];omega) (by rw[yc];omega) h;refine ya (fun _=>?_)<|fun c=>zd ?_ ?_
   ·exact zd rfl (zd rfl (zd (by simp;omega)<|zd (by simp;omega)<|zd rfl go))
   ·have c:=w7 c;exact w4 (by omega)
   ·exact zd rfl (zd rfl (zd (by simp;omega)<|zd (by simp;omega)<|zd rfl go))
theorem ok:Af A6 99 QI:=by
 refine BO Fi<|fun(i:Int×Int) c=>?_;obtain⟨a,b⟩:=i;have c:(decide (0<=a)&&decide (a<9223372036854775808)&&decide (0<=b)&&decide (b<=20))=true:=c;rw[zh,zh,zh,w5,w5,w5,w5]at c;obtain⟨⟨⟨a0,a1⟩,b0⟩,b1⟩:=c;obtain⟨x,rfl⟩:=zr a0;obtain⟨y,rfl⟩:=zr b0;refine zw (Ai x y) (Ar y (by omega) 63 x [] (by omega) (by omega) (by show y<=0+63;omega) (by decide)<|fun ob=>yd rfl rfl ?_);show HL 64 x y []=HL 64 (x:Int).toNat (y:Int).toNat [];rw[zl,zl]
end T99
theorem xV:C9 Oz:=Aa T152.ok<|Aa T128.ok AI
namespace T91
variable {Q:PV->Ob->Prop}
theorem Cz(neg:Bool)(n d:Int)(h0:0<=n)(b:n<1000000000)(a:∀ob,Q (.tup [.dat i64<|if neg=true then -n else n,.dat i64 d,.bl true]) ob):Ends Oz (L7 neg n d) Q:=by
 refine yi (D1 ..) ?_;conv=>zeta
 cases neg with
 |true=>
  refine zd rfl (zg ?_);rw[wr _ (by omega) (by omega),Int.zero_sub];exact a _
 |false=>exact zo rfl (zg<|a _)
theorem CN(s:Z)(neg:Bool)(n:Int)(h0:0<=n)(d:n<1000000000)(l:s.length<=20)(m:(yn s).length<=9)(db:Ap (yn s)=true)(b:∀ob,Q (.tup [.dat i64<|if neg=true then -n else n,.dat i64<|if Bs s=true then AE 0 (yn s)else 1,.bl true]) ob):Ends Oz (L5 s neg (A0 s) n 1) Q:=by
 obtain⟨o,h,i⟩:=BQ s;refine yi (EG ..) ?_;conv=>zeta
 have es:A0 s=((AA s).length:Int):=rfl;have f:=(T122.DK s).1;cases a:Bs s with
 |true=>
  rw[a]at b;obtain⟨e,c⟩:=h a;have g:zc .i64 (A0 s+1)=(((AA s).length+1:Nat):Int):=by rw[es,wr _ (by omega)<|by omega];omega
  have k:(yn s).length=s.length-((AA s).length+1):=by rw[c,zz]
  have j:(yn s).take (z7 s.length<|(AA s).length+1)=yn s:=zu (by show _<=s.length-_;omega);rw[g,zl, <-c,j];exact zd (by simp[es];omega) (zd (by simp;omega) (zd (T149.Cd db<|by omega)<|Cz neg n _ h0 d b))
 |false=>
  obtain⟨e,c⟩:=i a;rw[a]at b;exact zo (by simp[es,e])<|Cz neg n 1 h0 d b
theorem Dm(s:Z)(neg:Bool)(e:s.length<=20)(d:(AA s).length<=9)(g:(yn s).length<=9)(c:Ap (AA s)=true)(db:Ap (yn s)=true)(m:∀n ob,n=AE 0 (AA s)->Q (.tup [.dat i64<|if neg=true then -n else n,.dat i64<|if Bs s=true then AE 0 (yn s)else 1,.bl true]) ob):Ends Oz (L3 s neg ) Q:=by
 obtain⟨l,h,i⟩:=BQ s;have es:A0 s=((AA s).length:Int):=rfl;have f:=(T122.DK s).1;have b:s.length-(AA s).length<=10:=by
  cases a:Bs s with
  |true=>
   obtain⟨o,k⟩:=h a;have:(yn s).length=s.length-((AA s).length+1):=by rw[k,zz]
   omega
  |false=>rw[(i a).1];omega
 have j:yz (Int.toNat<|A0 s) s=AA s:=by rw[es,zl];exact l.symm
 obtain⟨v0,v1⟩:=T149.CJ c d;refine yi (B5 ..) ?_;conv=>zeta
 rw[j];refine zd (by simp;omega) (zo (by simp[es];omega) (zo ?_<|zd (by simp[es];omega)<|zd (T149.Cd c<|by omega) ?_))
 ·rw[es,wr _ (by omega)<|by omega];exact w8 (by omega)
 ·exact CN s neg (AE 0<|AA s) v0 v1 e g db<|fun ob=>m _ ob rfl
theorem FX(n d:Int)(a:∀ob,Q (.tup [.dat i64 n,.dat i64 d,.bl true]) ob):Ends Oz (L8 n d) Q:=by
 refine yi (Hs ..) ?_;conv=>zeta
 exact zg<|a _
theorem Fh(s:Z)(n:Int)(k:s.length<=20)(l:(yn s).length<=9)(db:Ap (yn s)=true)(b:∀ob,Q (.tup [.dat i64 n,.dat i64<|if Bs s=true then AE 0 (yn s)else 1,.bl true]) ob):Ends Oz (L6 s (A0 s) n 1) Q:=by
 obtain⟨m,h,i⟩:=BQ s;refine yi (ET ..) ?_;conv=>zeta
 have es:A0 s=((AA s).length:Int):=rfl;have f:=(T122.DK s).1;cases a:Bs s with
 |true=>
  rw[a]at b;obtain⟨d,c⟩:=h a;have g:zc .i64 (A0 s+1)=(((AA s).length+1:Nat):Int):=by rw[es,wr _ (by omega)<|by omega];omega
  have j:(yn s).length=s.length-((AA s).length+1):=by rw[c,zz]
  have e:(yn s).take (z7 s.length<|(AA s).length+1)=yn s:=zu (by show _<=s.length-_;omega);rw[g,zl, <-c,e];exact zd (by simp[es];omega) (zd (by simp;omega)<|zd (T149.Cd db<|by omega)<|FX n _ b)
 |false=>
  obtain⟨d,c⟩:=i a;rw[a]at b;exact zo (by simp[es,d])<|FX n 1 b
theorem Ca(s:Z)(e:s.length<=20)(d:(AA s).length<=9)(g:(yn s).length<=9)(c:Ap (AA s)=true)(db:Ap (yn s)=true)(m:∀n ob,n=AE 0 (AA s)->Q (.tup [.dat i64 n,.dat i64<|if Bs s=true then AE 0 (yn s)else 1,.bl true]) ob):Ends Oz (L4 s ) Q:=by
 obtain⟨l,h,i⟩:=BQ s;have es:A0 s=((AA s).length:Int):=rfl;have f:=(T122.DK s).1;have b:s.length-(AA s).length<=10:=by
  cases a:Bs s with
  |true=>
   obtain⟨o,k⟩:=h a;have:(yn s).length=s.length-((AA s).length+1):=by rw[k,zz]
   omega
  |false=>rw[(i a).1];omega
 have j:yz (Int.toNat<|A0 s) s=AA s:=by rw[es,zl];exact l.symm
 obtain⟨v0,v1⟩:=T149.CJ c d;refine yi (CD ..) ?_;conv=>zeta
 rw[j];refine zd (by simp;omega) (zo (by simp[es];omega)<|zo ?_<|zd (by simp[es];omega)<|zd (T149.Cd c<|by omega) ?_)
 ·rw[es,wr _ (by omega)<|by omega];exact w8 (by omega)
 ·exact Fh s (AE 0<|AA s) e g db<|fun ob=>m _ ob rfl
end T91
end Go.Pe
namespace Go.Sp
theorem Hm(a:List Int)(i:Nat):val B9 (a.drop i)=a.getD i 0+1000000000*val B9 (a.drop<|i+1):=by
 by_cases h:i<a.length
 ·rw[Cq h];rfl
 ·rw[zt (by omega),zt (by omega),show a.getD i 0=0 by rw[List.getD_eq_getElem?_getD,List.getElem?_eq_none<|by omega];rfl];rfl
structure Gc(a b:List Int)(i:Nat)(o:List Int)(c:Int):Prop where
 len:o.length=i
 d:Ay B9 o
 c01:0<=c/\c<=1
 v:val B9 o+(B9:Int)^i*(c+val B9 (a.drop i)+val B9 (b.drop i))=An a+An b
 top:a.length<=i->b.length<=i->i=0\/(B9:Int)^(i-1)<=val B9 o+(B9:Int)^i*c
theorem Gc.start(a b:List Int):Gc a b 0 [] 0:=⟨rfl,(fun x c=>by cases c),by decide,by
 show 0+(B9:Int)^0*(0+val B9 a+val B9 b)=val B9 a+val B9 b;rw[Int.pow_zero,Int.one_mul];omega,fun _ _=>.inl rfl⟩
theorem BG{a:List Int}(h:Ba a=true)(i:Nat):0<=a.getD i 0/\a.getD i 0<1000000000:=G9 (Bp h).2.1 i
theorem SW{a:List Int}(h:Ba a=true){i:Nat}(c:i<a.length)(b:a.length<=i+1):1<=a.getD i 0:=by
 have:=(Go.Pe.GZ (Bp h).2.1 (Bp h).2.2 (k:=i)<|by omega).1;omega
theorem Gc.step{a b:List Int}{i:Nat}{o:List Int}{c:Int}(h:Gc a b i o c)(n:Ba a=true)(m:Ba b=true)(g:i<a.length\/i<b.length\/0<c):
  Gc a b (i+1) (o++[(a.getD i 0+b.getD i 0+c) % 1000000000]) ((a.getD i 0+b.getD i 0+c)/1000000000):=by
 obtain⟨s,t⟩:=BG n i;obtain⟨y0,y1⟩:=BG m i;obtain⟨c0,c1⟩:=h.c01;have l:=h.v;rw[Hm a i,Hm b i]at l;have j:1<=a.getD i 0+b.getD i 0+c\/¬(a.length<=i+1/\b.length<=i+1):=by
  by_cases k:a.length<=i+1/\b.length<=i+1
  ·refine .inl ?_;rcases g with g|g|g
   ·have:=SW n g k.1;omega
   ·have:=SW m g k.2;omega
   ·omega
  ·exact .inr k
 have u:=AD (b:=B9) (by decide) h.d;have p:=AR (b:=B9) (by decide) i;generalize a.getD i 0=x at*;generalize b.getD i 0=y at*;have f:val B9 (o++[(x+y+c) % 1000000000])=val B9 o+(B9:Int)^i*((x+y+c) % 1000000000):=by rw[Cr,h.len]
 refine⟨by rw[zq,h.len];rfl,FN h.d (by omega),by omega,?_,fun q r=>.inr ?_⟩
 ·rw[f,Kb,qe, <-qd, <-l];congr 2;omega
 ·rw[f,Kb,qe, <-qd,yh];have e:(x+y+c) % 1000000000+1000000000*((x+y+c)/1000000000)=x+y+c:=by omega
  rw[e];rcases j with j|j
  ·have:=z6 j<|qi p;rw[Int.mul_one]at this;omega
  ·exact wh ⟨q,r⟩ j
theorem AcI{o:List Int}(i:Ay B9 o)(h:o=[]\/(B9:Int)^(o.length-1)<=val B9 o):nz o:=by
 rcases h with rfl|h
 ·unfold nz;simp
 ·intro e;have a:o≠[]:=by rintro rfl;simp at e
  have f:o=o.dropLast++[0]:=by
   have d:=(List.dropLast_concat_getLast a).symm;rw[List.getLast?_eq_some_getLast a]at e;rw[Option.some.inj e]at d;exact d
  have k:o.length=o.dropLast.length+1:=by rw[List.length_dropLast];have:=yp.2 a;omega
  have g:val B9 o=val B9 o.dropLast:=by
   conv=>lhs;rw[f]
   rw[Cr,y8,y9]
  have c:Ay B9 o.dropLast:=fun x j=>i x (by rw[f];exact List.mem_append_left _ j)
  have:=Bw (b:=B9) (by decide) c;rw[g,k,yh]at h;omega
theorem Gc.fin{a b:List Int}{i:Nat}{o:List Int}(h:Gc a b i o 0)(f:a.length<=i)(g:b.length<=i):o=Ij a b:=by
 have c:=h.v;rw[zt f,zt g]at c;have c:val B9 o+(B9:Int)^i*(0+0+0)=An a+An b:=c;rw[show(0+0+0:Int)=0 from rfl,y8,y9]at c;have e:=h.top f g;rw[y8,y9, <-h.len]at e;have j:nz o:=AcI h.d (by
  rcases e with k|k
  ·exact .inl<|y7.1 k
  ·exact .inr k)
 unfold Ij;rw[<-c];exact IF (b:=B9) (by decide) h.d j
structure Hb(a b:List Int)(i:Nat)(o:List Int)(c:Int):Prop where
 len:o.length=i
 d:Ay B9 o
 c01:0<=c/\c<=1
 v:val B9 o+(B9:Int)^i*(val B9 (a.drop i)-val B9 (b.drop i)-c)=An a-An b
theorem Hb.start(a b:List Int):Hb a b 0 [] 0:=⟨rfl,(fun x c=>by cases c),by decide,by
 show 0+(B9:Int)^0*(val B9 a-val B9 b-0)=val B9 a-val B9 b;rw[Int.pow_zero,Int.one_mul];omega⟩
theorem Hb.step{a b:List Int}{i:Nat}{o:List Int}{c:Int}(h:Hb a b i o c)(j:Ba a=true)(g:Ba b=true)(d e:Int)(k:(a.getD i 0-b.getD i 0-c<0/\d=a.getD i 0-b.getD i 0-c+1000000000/\e=1)\/(¬a.getD i 0-b.getD i 0-c<0/\d=a.getD i 0-b.getD i 0-c/\e=0)):
  Hb a b (i+1) (o++[d]) e:=by
 obtain⟨m,l⟩:=BG j i;obtain⟨y0,y1⟩:=BG g i;obtain⟨c0,c1⟩:=h.c01;have f:=h.v;rw[Hm a i,Hm b i]at f;generalize a.getD i 0=x at*;generalize b.getD i 0=y at*;refine⟨by rw[zq,h.len];rfl,FN h.d (by omega),by omega,?_⟩;rw[Cr,h.len,Kb,qe, <-qd, <-f];congr 2;omega
theorem Hb.fin{a b:List Int}{o:List Int}{c:Int}(h:Hb a b a.length o c)(g:Ba b=true)(i:An b<=An a):Ax o=Jc a b:=by
 have e:=h.v;rw[List.drop_length]at e;have h0:=AD (b:=B9) (by decide)<|E5 (Bp g).2.1 a.length;have f:=Bw (b:=B9) (by decide) h.d;rw[h.len]at f;obtain⟨m,n⟩:=h.c01;have j:=AR (b:=B9) (by decide) a.length;have e:val B9 o+(B9:Int)^a.length*(0-val B9 (b.drop a.length)-c)=An a-An b:=e;generalize val B9 (b.drop a.length)=z at*;have l:0-z-c=0:=by
  rcases Int.lt_or_le (0-z-c) 0 with k|k
  ·have:=z6 (show 0-z-c<= -1 by omega)<|qi j;rw[Int.mul_neg,Int.mul_one]at this;omega
  ·omega
 rw[l,y8,y9]at e;unfold Jc;rw[Ft h.d, <-e];rfl
end Go.Sp
