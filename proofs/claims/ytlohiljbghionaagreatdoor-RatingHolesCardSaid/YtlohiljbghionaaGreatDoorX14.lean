import Derived.Test.YtlohiljbghionaaGreatDoorX13
/- A part of a proof; no law is stated here. -/
noncomputable section
open Go.IntKind renaming wrap -> zc, i64 -> z8
open Go.Pe.Ends renaming tt -> zd, leaf -> zg, ff -> zl, eq -> zt, ite -> z6, Ai -> yj
open Go.Pe.Sh renaming str -> ze, list -> zi, bool -> zk, pair -> yi, int -> qk
open Bool renaming and_eq_true -> zf, true_and -> yd
open Go.Lib renaming decDigits -> zh, decDigits_length -> yp, decDigits_one -> yu, itoa -> qm
open Int renaming toNat_natCast -> zj, eq_ofNat_of_zero_le -> zq, tmod -> zu, mul_le_mul_of_nonneg_left -> zx, lt_of_lt_of_le -> zz, natCast_pow -> z7, le_of_lt -> yb, natAbs_natCast -> yf, natCast_nonneg -> yg, tdiv -> yk, ofNat_lt -> yr, tmod_eq_emod_of_nonneg -> yt, mul_add -> yw, mul_neg -> yy, mul_ediv_cancel_left -> yz, mul_zero -> qc, add_zero -> qd, one_mul -> qg, mul_one -> qh, gcd -> qi, add_assoc -> qj
open Rat renaming divInt -> zm
open List renaming drop_eq_nil_of_le -> zn, length_append -> zp, take_of_length_le -> zr, length_drop -> zw, length_cons -> ya, length_flatten -> yc, length_pos_iff -> yq, take -> y8, length_eq_zero_iff -> y9, length -> qe, drop -> qp
open Go.Sp renaming vI -> zo, rN -> ym, rW -> yn, AV -> yo, first -> y7, CQ -> qo
open Nat renaming sub -> zy, add_sub_cancel -> yh, le_refl -> yv, mod_lt -> ql, add -> qn
open Go.Pe.Ad renaming of -> ye
open UInt8 renaming ofNat -> yx
open Go.Pe.PV renaming agg -> qf
namespace Go.Sp
theorem VG(q:Rat):T1 (AP q)=zh q.den:=by
 obtain⟨_,b,a⟩:=Fj q;unfold T1;rw[b,a];by_cases h:q.den=1
 ·rw[wc (by simpa using h),h,yu af];rfl
 ·rw[wd<|w4 h,wc h]
theorem XW(q:Rat):FM (AP q)=if Ke q=true then 4 else 0:=by
 obtain⟨b,_,_⟩:=Fj q;unfold FM;rw[VG,b,(DA q.num).2.1];have a:Ke q=true↔600<(zh q.num.natAbs).length\/600<(zh q.den).length:=by
  unfold Ke NX;rw[Bool.or_eq_true,w5,w5,yf]
 by_cases h:Ke q=true
 ·rw[wd<|a.1 h,wd h]
 ·rw[wc<|fun k=>h<|a.2 k,wc h]
theorem Y9(q:Rat):EV (fD 0 q) (fG 0 q) (AP q) 0=true:=by
 unfold EV fD fG;rw[XW];by_cases h:Ke q=true
 ·simp[h]
 ·simp[h]
theorem QI{e:Int}(h:e≠0)(q:Rat)(w:Z):EV (fD e q) (fG e q) w e=true:=by
 unfold EV fD fG;simp[h]
theorem ZW(a b:Z):NZ a b=if Ao a≠0 then Ao a else Ao b:=by
 show(if Ao a≠0 then Ao a else if Ao b≠0 then Ao b else 0)=_;by_cases h:Ao a≠0
 ·rw[wd h,wd h]
 ·rw[wc h,wc h];by_cases k:Ao b≠0
  ·rw[wd k]
  ·rw[wc k];omega
theorem JH{a b:Z}(h:NZ a b=0):Ao a=0/\Ao b=0:=by
 rw[ZW]at h;by_cases k:Ao a≠0
 ·rw[wd k]at h;exact wh h k
 ·rw[wc k]at h;exact⟨by omega,h⟩
theorem R6:AP 0=[48]:=by
 unfold AP;rw[wd<|show Rat.den 0=1 from rfl];show qm 0=[48];unfold qm;rw[wc af,show(0:Int).toNat=0 from rfl,yu af];rfl
theorem Jf{s:Z}(h:Be s=true):s=[48]↔Au s=0:=by
 obtain⟨a,_⟩:=F5 h;constructor
 ·rintro rfl;rw[<-R6,DI]
 ·intro e;rw[<-a,e,R6]
theorem JE{s:Z}(h:Df s=true):Be s=true/\s.length<=3000:=by
 unfold Df at h;rwa [zf,w5]at h
theorem fK{s:Z}(h:Df s=true)(h0:s≠[48]):aE s=true:=by
 unfold aE;rw[h,yd];exact w4 fun e=>h0<|(Jf (JE h).1).2 e
theorem qE{s:Z}(h:aE s=true):Df s=true/\Au s≠0:=by
 unfold aE at h;rwa [zf,w5]at h
theorem Qp{q:Rat}{k:Nat}(h:HJ k q)(a:k<=400000):(AP q).length<=1000000:=by
 have:=QT (h.mono<|show k<=k+1 by omega) ae;omega
structure Nu(k:Nat)(s:Z)(q:Rat):Prop where
 t:s=AP q
 z:HJ k q
theorem Nu.mono{i j:Nat}{s:Z}{q:Rat}(h:Nu i s q)(k:i<=j):Nu j s q:=⟨h.t,h.z.mono k⟩
theorem Nu.rat{k:Nat}{s:Z}{q:Rat}(h:Nu k s q):Au s=q:=by rw[h.t,DI]
theorem sE{k:Nat}{q:Rat}(h:HJ k q)(a:k<=600):Ke q=false:=Xr.2<|h.mono a
theorem Nu.check{k:Nat}{s:Z}{q:Rat}(h:Nu k s q)(a:k<=600):Ao s=0:=by
 rw[h.t,Yz,sE h.z a,wc af]
theorem Nu.num{k:Nat}{s:Z}{q:Rat}(h:Nu k s q)(a:k<=1999):Be s=true:=by rw[h.t];exact Sv h.z a
theorem Nu.Df{k:Nat}{s:Z}{q:Rat}(h:Nu k s q)(a:k<=1400):Sp.Df s=true:=by
 unfold Sp.Df;rw[h.num ae,yd,w5,h.t];have:=QT (h.z.mono<|show k<=k+1 by omega) ae;omega
theorem Nu.Jf{k:Nat}{s:Z}{q:Rat}(h:Nu k s q)(a:k<=1999):s=[48]↔q=0:=by
 rw[Sp.Jf<|h.num a,h.rat]
theorem Nu.cmp{i j:Nat}{a b:Z}{p q:Rat}(c:Nu i a p)(d:Nu j b q):EI a b=if p<q then -1 else if q<p then 1 else 0:=by
 unfold EI;rw[c.rat,d.rat]
theorem Mx{a:Z}(h:Ao a=0):Nu 600 a (Au a):=by
 obtain⟨t,_,_,z⟩:=MT h;exact⟨t.symm,z⟩
theorem aU(n:Int):AY n=AP (n:Rat):=by
 unfold AP AY;rw[wd<|Rat.den_intCast ..,Rat.num_intCast]
theorem fR{p q:Rat}(h:p=q):(if p<q then(-1:Int)else if q<p then 1 else 0)=0:=by
 subst h;rw[wc Rat.lt_irrefl,wc Rat.lt_irrefl]
theorem WH(p q:Rat):(if p<q then(-1:Int)else if q<p then 1 else 0)=0↔p=q:=by
 refine⟨fun h=>?_,fR⟩;split at h
 ·exact wh h af
 ·next c=>
  split at h
  ·exact wh h af
  ·next d=>exact Rat.le_antisymm (Rat.not_lt.1 d)<|Rat.not_lt.1 c
theorem iY(p q:Rat):(if q<p then(-1:Int)else if p<q then 1 else 0)= -(if p<q then(-1:Int)else if q<p then 1 else 0):=by
 by_cases h:p<q
 ·have:¬q<p:=Rat.not_lt.2<|Rat.le_of_lt h;rw[wc this,wd h,wd h];rfl
 ·rw[wc h,wc h];split<;>rfl
theorem Nu.CC{i j:Nat}{a b:Z}{p q:Rat}(c:Nu i a p)(d:Nu j b q):Nu (i+j+1) (Sp.CC a b) (p+q):=⟨by unfold Sp.CC;rw[c.rat,d.rat],c.z.add d.z⟩
theorem Nu.G7{i j:Nat}{a b:Z}{p q:Rat}(c:Nu i a p)(d:Nu j b q):Nu (i+j+1) (Sp.G7 a b) (p-q):=⟨by unfold Sp.G7;rw[c.rat,d.rat],c.z.sub d.z⟩
theorem Nu.FH{i j:Nat}{a b:Z}{p q:Rat}(c:Nu i a p)(d:Nu j b q):Nu (i+j) (Sp.FH a b) (p*q):=⟨by unfold Sp.FH;rw[c.rat,d.rat],c.z.mul d.z⟩
theorem Nu.K0{i j:Nat}{a b:Z}{p q:Rat}(c:Nu i a p)(d:Nu j b q)(h0:q≠0):Nu (i+j) (Sp.K0 a b) (p/q):=⟨by unfold Sp.K0;rw[c.rat,d.rat],c.z.div d.z h0⟩
def bC(w:Z):Nat:=max (A9<|AB w).length (T1 w).length
def Abv(l:List A1):List (Rat×Rat):=l.map fun p=>(Au p.1,Au p.2)
def XL(n:Int):Bool:=decide (n.natAbs<9223372036854775808)
def XZ(n:Int):Z:=AP ((n:Int):Rat)
def C0(n m:Int):Int:=if n=0 then 12 else if m<n then 5 else 0
end Go.Sp
variable {Q:Go.Pe.PV->Go.Pe.Ob->Prop}
namespace Go.Pe
open Go.Det
def pT:Am:=⟨[i64,i64],fun _=>true,[i64],fun i=>Sp.C0 i.1 i.2,false⟩
def RU:Am:=⟨[.str,i64,i64,.str],fun i=>decide (qe (α:=UInt8) i.2.2.2<=1000000),[.bool],fun i=>Sp.EV i.1 i.2.1 i.2.2.2 i.2.2.1,false⟩
def iT:Am:=⟨[i64],fun n=>Sp.XL n,[.str],fun n=>Sp.XZ n,false⟩
def Adk:AT:=X7 [(50,Hb),(51,G1)]
def AcY:AT:=X7 [(134,Zv),(135,lF)]
def Zk:AT:=X7 [(80,T7)]
def yN:AT:=X7 [(97,HN),(96,Rh)]
end Go.Pe
namespace Go.Sp
def vF(p h n r:Rat):Rat:=if p<=h+r then p*h/(h+r)else h+(p-(h+r))*n/(n+r)
abbrev BM:=BJ×BJ×BJ×List A1×List A1
abbrev ER:=BJ×Int
abbrev BQ:=BJ×BJ×BJ×BJ×List ER
abbrev Cz:=BJ×List Int
abbrev AL:=List BQ×List Cz×List BM
def BL(a:BJ)(lo b:Int):Int:=if Ao a≠0 then Ao a else if Au a<(lo:Rat)\/(b:Rat)<Au a then 3 else 0
def YM(seen:List BJ):List A1->Int
 |[]=>0
 |w::l=>if isName w.1=false then 8 else if has seen w.1=true then 9 else if Ao w.2≠0 then Ao w.2 else if Au w.2<0 then 3 else YM (w.1::seen) l
def N4(l:List A1):Int:=if 16<l.length then 5 else YM [] l
def Se:Option BJ->List A1->Int
 |_,[]=>0
 |none,p::l=>Se (some p.2) l
 |some y,p::l=>if EI p.2 y<0 then 11 else Se (some p.2) l
def LK(l:BM):Int:=first [Cq (!isName l.1) 8,BL l.2.1 1 10000,BL l.2.2.1 1 10000,BH l.2.2.2.1]
def JG(l:BM):Int:=if LK l≠0 then LK l else if Se none l.2.2.2.1≠0 then Se none l.2.2.2.1 else N4 l.2.2.2.2
def fB:List ER->Int
 |[]=>0
 |o::l=>if isName o.1=false then 8 else if o.2<0\/10<o.2 then 3 else fB l
def SP(s:BQ):Int:=first [BL s.1 (-10000) 10000,BL s.2.1 (-10000) 10000,BL s.2.2.1 0 10000,BL s.2.2.2.1 0 10000,Cq (decide (16<s.2.2.2.2.length)) 5]
def Lb(s:BQ):Int:=if SP s≠0 then SP s else fB s.2.2.2.2
def I4:List BQ->Int
 |[]=>0
 |s::l=>if Lb s≠0 then Lb s else I4 l
def Ex(l:List Int):Bool:=l.any fun n=>decide (n<1)||decide (10000<n)
def FV(n:Int)(seen:List BJ):List Cz->Int
 |[]=>0
 |t::l=>if isName t.1=false then 8 else if has seen t.1=true then 9 else if (t.2.length:Int)≠n then 2 else if Ex t.2=true then 3 else FV n (t.1::seen) l
def LQ(seen:List BJ):List BM->Int
 |[]=>0
 |l::r=>if JG l≠0 then JG l else if has seen l.1=true then 9 else LQ (l.1::seen) r
def Oe(c:AL):Int:=if c.2.2=[]then 12 else if 8<c.2.2.length then 5 else LQ [] c.2.2
def Tc(c:AL):Int:=if c.2.1=[]then 12 else if 8<c.2.1.length then 5 else if FV (c.1.length:Int) [] c.2.1≠0 then FV (c.1.length:Int) [] c.2.1 else Oe c
def N8(c:AL):Int:=if c.1=[]then 12 else if 36<c.1.length then 5 else if I4 c.1≠0 then I4 c.1 else Tc c
def IF(l:List A1)(n m:Nat):Bool:=l.all fun p=>decide (p.1.length<=n)&&decide (p.2.length<=m)
def Bx(l:BM):Bool:=decide (l.1.length<=40)&&decide (l.2.1.length<=20)&&decide (l.2.2.1.length<=20)&&decide (l.2.2.2.1.length<=70)&&decide (l.2.2.2.2.length<=20)&&IF l.2.2.2.1 20 20&&IF l.2.2.2.2 40 20
def BU(s:BQ):Bool:=decide (s.1.length<=20)&&decide (s.2.1.length<=20)&&decide (s.2.2.1.length<=20)&&decide (s.2.2.2.1.length<=20)&&decide (s.2.2.2.2.length<=20)
def Ds(t:Cz):Bool:=decide (t.1.length<=40)&&decide (t.2.length<=40)
def Iy(c:AL):Bool:=decide (c.1.length<=38)&&decide (c.2.1.length<=10)&&decide (c.2.2.length<=10)&&c.1.all BU&&c.2.1.all Ds&&c.2.2.all Bx
def Pm(l:BM):Bool:=decide (l.2.1.length<=20)&&decide (l.2.2.1.length<=20)&&decide (l.2.2.2.1.length<=70)&&IF l.2.2.2.1 20 20&&l.2.2.2.2.all fun p=>decide (p.2.length<=20)
def Ad2(t:Cz):Bool:=decide (t.2.length<=4611686018427387904)
def vZ(c:AL):Bool:=decide (c.1.length<=38)&&decide (c.2.1.length<=10)&&decide (c.2.2.length<=10)&&c.1.all BU&&c.2.1.all Ad2&&c.2.2.all Pm
def BF(c:AL)(h:Int):BQ:=c.1.getD h.toNat ([],[],[],[],[])
def Hd(c:AL)(t h:Int):Int:=(c.2.1.getD t.toNat ([],[])).2.getD h.toNat 0
def CW(c:AL)(l:Int):BM:=c.2.2.getD l.toNat ([],[],[],[],[])
def KP(i n:Int):Bool:=decide (i<0)||decide (n<=i)
def Kd(c:AL)(b:Bool):Int:=if N8 c≠0 then N8 c else if b=true then 10 else 0
def eI(c:AL)(t:Int):Bool:=KP t (c.2.1.length:Int)
def Q1(c:AL)(h:Int):Bool:=KP h (c.1.length:Int)
def N7(c:AL)(l:Int):Bool:=KP l (c.2.2.length:Int)
def Afg(c:AL)(t h:Int):Int:=Kd c<|eI c t||Q1 c h
def KU(c:AL)(t h l:Int):Int:=Kd c<|eI c t||(Q1 c h||N7 c l)
def HD(c:AL)(h l:Int):Int:=Kd c<|Q1 c h||N7 c l
def plV(s:BQ)(n:Int):Rat:=let p:=(n:Rat)+(Au s.1+Au s.2.1+Au s.2.2.1);if p<0 then 0 else p
def LG(c:AL)(t h:Int):Rat:=plV (BF c h)<|Hd c t h
def RE(c:AL)(t h l:Int):Rat:=vF (LG c t h) (Au (CW c l).2.1) (Au (CW c l).2.2.1)<|Au (BF c h).2.2.2.1
def lookW:List A1->BJ->Rat
 |[],_=>0
 |w::l,k=>if w.1=k then Au w.2 else lookW l k
def obV(ws:List A1):List ER->Rat
 |[]=>0
 |o::l=>lookW ws o.1*((o.2:Rat)/10)+obV ws l
def Ys(c:AL)(h l:Int):Rat:=obV (CW c l).2.2.2.2 (BF c h).2.2.2.2
def Zb(c:AL)(t h l:Int):Rat:=Rw none (Abv (CW c l).2.2.2.1) (RE c t h l)+Ys c h l
def fF(c:AL)(h l:Int):BJ:=fD (HD c h l)<|Ys c h l
def Of(c:AL)(h l:Int):Int:=fG (HD c h l)<|Ys c h l
def YN(c:AL)(t h l:Int):BJ:=fD (KU c t h l)<|Zb c t h l
def Z8(c:AL)(t h l:Int):Int:=fG (KU c t h l)<|Zb c t h l
def XG(c:AL)(t h:Int):BJ:=AP<|LG c t h
def efR(c:AL)(t h l:Int):BJ:=AP<|RE c t h l
def obR(c:AL)(h l:Int):BJ:=AP<|Ys c h l
def hoR(c:AL)(t h l:Int):BJ:=AP<|Zb c t h l
def zF:Ag:=((0,Co 0),(1,Co 1))
def iF(n:Int):Ag:=((n,Co n),(1,Co 1))
def oZ(c:AL)(t h:Int):Ag:=Cd (iF<|Hd c t h)<|Cd (Cd (Cd zF<|Cs (BF c h).1)<|Cs (BF c h).2.1)<|Cs (BF c h).2.2.1
def UM(c:AL)(t h:Int):Ag:=if Pp (oZ c t h)<0 then zF else oZ c t h
def Km(c:AL)(h:Int):Ag:=Cs (BF c h).2.2.2.1
def Iu(c:AL)(l:Int):Ag:=Cs (CW c l).2.1
def Wv(c:AL)(l:Int):Ag:=Cs (CW c l).2.2.1
def Zf(c:AL)(t h l:Int):Ag:=if Dm (UM c t h) (Cd (Iu c l)<|Km c h)<=0 then K1 (GF (UM c t h)<|Iu c l) (Cd (Iu c l)<|Km c h)else Cd (Iu c l)<|K1 (GF (Gu (UM c t h)<|Cd (Iu c l)<|Km c h)<|Wv c l)<|Cd (Wv c l)<|Km c h
def V4(ws:List A1)(f:Ag):List ER->Ag
 |[]=>f
 |o::l=>match ws.find? fun w=>decide (w.1=o.1)with
  |some w=>V4 ws (Cd f<|GF (Cs w.2)<|S7 (o.2,Co o.2) (10,Co 10)) l
  |none=>V4 ws f l
def vW(c:AL)(h l:Int):Ag:=V4 (CW c l).2.2.2.2 zF (BF c h).2.2.2.2
def qW:Option A1->List A1->Ag->Ag
 |none,[],_=>zF
 |some q,[],_=>Cs q.2
 |o,p::l,x=>if Dm x (Cs p.1)>0 then qW (some p) l x else match o with
  |none=>Cs p.2
  |some q=>if Dm x (Cs p.1)=0 then Cs p.2 else Cd (Cs q.2)<|K1 (GF (Gu (Cs p.2)<|Cs q.2)<|Gu x<|Cs q.1)<|Gu (Cs p.1)<|Cs q.1
def vlF(t:List A1)(x:Ag):Ag:=qW none t x
def rtF(c:AL)(t h l:Int):Ag:=Cd (vlF (CW c l).2.2.2.1<|Zf c t h l)<|vW c h l
def AfH(c:AL)(t h:Int):Int:=nS<|UM c t h
def Ae1(c:AL)(t h:Int):List Int:=nW<|UM c t h
def Afy(c:AL)(t h:Int):Int:=dS<|UM c t h
def AeZ(c:AL)(t h:Int):List Int:=dW<|UM c t h
def Afc(c:AL)(t h l:Int):Int:=nS<|Zf c t h l
def AfK(c:AL)(t h l:Int):List Int:=nW<|Zf c t h l
def AfC(c:AL)(t h l:Int):Int:=dS<|Zf c t h l
def AfE(c:AL)(t h l:Int):List Int:=dW<|Zf c t h l
def Afb(c:AL)(h l:Int):Int:=nS<|vW c h l
def Ae0(c:AL)(h l:Int):List Int:=nW<|vW c h l
def AeV(c:AL)(h l:Int):Int:=dS<|vW c h l
def AeN(c:AL)(h l:Int):List Int:=dW<|vW c h l
def Ae6(t:List A1)(x:Ag):Int:=nS<|vlF t x
def Afu(t:List A1)(x:Ag):List Int:=nW<|vlF t x
def Afi(t:List A1)(x:Ag):Int:=dS<|vlF t x
def Afe(t:List A1)(x:Ag):List Int:=dW<|vlF t x
def Afd(c:AL)(t h l:Int):Int:=nS<|rtF c t h l
def AeO(c:AL)(t h l:Int):List Int:=nW<|rtF c t h l
def AfD(c:AL)(t h l:Int):Int:=dS<|rtF c t h l
def AeU(c:AL)(t h l:Int):List Int:=dW<|rtF c t h l
def Us(l:List (Int×Int)):Bool:=l.any fun p=>KP p.1 p.2
def Ns(c:AL)(l:List (Int×Int)):Int:=Kd c<|Us l
def okP(c:AL)(t h:Int):Bool:=Iy c&&decide (Afg c t h=0)
def Yw(c:AL)(t h l:Int):Bool:=Iy c&&decide (KU c t h l=0)
def okO(c:AL)(h l:Int):Bool:=Iy c&&decide (HD c h l=0)
def fJ(l:BM):Bool:=decide (l.2.2.2.2.length<=4398046511104)
def smS(s:BQ):Bool:=decide (s.2.2.2.2.length<=5864062014805)
def zN(c:AL):Bool:=decide (c.1.length<=1599289640401)&&decide (c.2.1.length<=3518437208883)&&decide (c.2.2.length<=1466015503701)&&c.1.all smS&&c.2.2.all fJ
def GI(n:Int):Bool:=decide (-100000<n)&&decide (n<100000)
def Kb(s:BJ)(l:List BJ):Int:=if isName s=false then 8 else if has l s=true then 9 else 0
end Go.Sp
namespace Go.Pe
open Sp
open Go.Det
abbrev Bx:Sh:=.pair .str<|.pair .str<|.pair .str<|.pair (.list B5)<|.list B5
abbrev S1:Sh:=.pair .str i64
abbrev BU:Sh:=.pair .str<|.pair .str<|.pair .str<|.pair .str<|.list S1
abbrev Ds:Sh:=.pair .str Ad0
abbrev Bn:Sh:=.pair (.list BU)<|.pair (.list Ds)<|.list Bx
def eR:Am:=⟨[.str],fun _=>true,[.bool],fun s=>Sp.isName s,false⟩
def Ve:Am:=⟨[.str,i64,i64],fun i=>decide (qe (α:=UInt8) i.1<=1000000)&&GI i.2.1&&GI i.2.2,[i64],fun i=>BL i.1 i.2.1 i.2.2,false⟩
def Aa9:Am:=⟨[.list B5],fun l=>IF l 40 20,[i64],fun l=>N4 l,false⟩
def cLv:Am:=⟨[Bx],fun l=>Sp.Bx l,[i64],fun l=>JG l,false⟩
def cS:Am:=⟨[BU],fun s=>Sp.BU s,[i64],fun s=>Lb s,false⟩
def cCo:Am:=⟨[Bn],fun c=>Iy c,[i64],fun c=>N8 c,false⟩
def AaN:Am:=⟨[Bx],fun l=>Pm l,[i64],fun l=>JG l,false⟩
def AcX:Am:=⟨[Bn],fun c=>vZ c,[i64],fun c=>N8 c,false⟩
def Zp:Am:=⟨[Bx],fun _=>true,[.bool],fun l=>Sp.Bx l,false⟩
def rE:Am:=⟨[Bn],fun _=>true,[.bool],fun c=>Iy c,false⟩
def J8:Am:=⟨[Bn],fun c=>zN c,[Bn],fun c=>c,false⟩
def qJ:Am:=⟨[Bx],fun l=>fJ l,[Bx],fun l=>l,false⟩
def TQ:Am:=⟨[Bn,.list<|.pair i64 i64],fun i=>Iy i.1&&decide (qe (α:=Int×Int) i.2<=1000),[i64],fun i=>Ns i.1 i.2,false⟩
def cPl:Am:=⟨[Bn,i64,i64],fun i=>Sp.okP i.1 i.2.1 i.2.2,[Av],fun i=>((AfH i.1 i.2.1 i.2.2,Ae1 i.1 i.2.1 i.2.2),(Afy i.1 i.2.1 i.2.2,AeZ i.1 i.2.1 i.2.2)),false⟩
def cEf:Am:=⟨[Bn,i64,i64,i64],fun i=>Yw i.1 i.2.1 i.2.2.1 i.2.2.2,[Av],fun i=>((Afc i.1 i.2.1 i.2.2.1 i.2.2.2,AfK i.1 i.2.1 i.2.2.1 i.2.2.2),(AfC i.1 i.2.1 i.2.2.1 i.2.2.2,AfE i.1 i.2.1 i.2.2.1 i.2.2.2)),false⟩
def cOb:Am:=⟨[Bn,i64,i64],fun i=>Sp.okO i.1 i.2.1 i.2.2,[Av],fun i=>((Afb i.1 i.2.1 i.2.2,Ae0 i.1 i.2.1 i.2.2),(AeV i.1 i.2.1 i.2.2,AeN i.1 i.2.1 i.2.2)),false⟩
def cRt:Am:=⟨[Bn,i64,i64,i64],fun i=>Yw i.1 i.2.1 i.2.2.1 i.2.2.2,[Av],fun i=>((Afd i.1 i.2.1 i.2.2.1 i.2.2.2,AeO i.1 i.2.1 i.2.2.1 i.2.2.2),(AfD i.1 i.2.1 i.2.2.1 i.2.2.2,AeU i.1 i.2.1 i.2.2.1 i.2.2.2)),false⟩
def Adr:Am:=⟨[Bn,i64,i64],fun i=>Iy i.1,[.str,i64],fun i=>(fF i.1 i.2.1 i.2.2,Of i.1 i.2.1 i.2.2),false⟩
def cHo:Am:=⟨[Bn,i64,i64,i64],fun i=>Iy i.1,[.str,i64],fun i=>(YN i.1 i.2.1 i.2.2.1 i.2.2.2,Z8 i.1 i.2.1 i.2.2.1 i.2.2.2),false⟩
def Ad5:Am:=⟨[Bn,i64,i64],fun i=>Sp.okP i.1 i.2.1 i.2.2,[.str],fun i=>XG i.1 i.2.1 i.2.2,false⟩
def Adm:Am:=⟨[Bn,i64,i64,i64],fun i=>Yw i.1 i.2.1 i.2.2.1 i.2.2.2,[.str],fun i=>Sp.efR i.1 i.2.1 i.2.2.1 i.2.2.2,false⟩
def AbM:Am:=⟨[Bn,i64,i64],fun i=>Sp.okO i.1 i.2.1 i.2.2,[.str],fun i=>Sp.obR i.1 i.2.1 i.2.2,false⟩
def Ad9:Am:=⟨[Bn,i64,i64,i64],fun i=>Yw i.1 i.2.1 i.2.2.1 i.2.2.2,[.str],fun i=>Sp.hoR i.1 i.2.1 i.2.2.1 i.2.2.2,false⟩
def Uu:Am:=⟨[.str,.list .str],fun i=>decide (qe (α:=Z) i.2<=1000),[i64],fun i=>Kb i.1 i.2,false⟩
def AdG:AT:=X7 [(122,Fg),(55,MC),(56,Rj),(103,cF),(51,G1)]
def qY:AT:=X7 [(52,eR),(50,Hb),(51,G1),(122,Fg),(55,MC),(115,jQ)]
def qX:AT:=X7 [(52,eR),(50,Hb),(51,G1),(53,Ve),(54,Lv),(55,MC),(56,Rj),(57,Aa9)]
def sM:AT:=X7 [(52,eR),(50,Hb),(51,G1),(53,Ve)]
def My:AT:=X7 [(63,pT),(64,cS),(52,eR),(50,Hb),(51,G1),(13,cLv)]
def vV:AT:=X7 [(15,cCo),(51,G1)]
def FG:AT:=X7 []
def Adh:AT:=X7 [(62,Fg),(36,Qr),(97,HN),(96,Rh)]
def wF:AT:=X7 [(58,eR)]
def Rv:AT:=X7 [(58,eR),(59,Ve),(60,Lv),(36,Qr),(61,Uu),(62,Fg),(38,M6)]
def xN:AT:=X7 [(59,Ve),(58,eR)]
def E0:AT:=X7 [(67,cS),(61,Uu),(14,AaN)]
def Rz:AT:=X7 [(11,Zp)]
def B1:AT:=SS [(10,[2])] [(10,[(2,[(1,Bn)])])] [(10,[(18,[1,2,3,8]),(16,[1,2,3,8]),(14,[1,2,3,7]),(12,[1,2,3,7]),(9,[1,2,3,4,5,6]),(7,[1,2,3,4,5,6]),(5,[1,2,3,4]),(3,[1,2,3,4]),(2,[1,2,3])])] [(12,qJ)]
end Go.Pe
namespace Go.Sp
def Abj(s:BJ):Bool:=KL s&&decide (s.length<=20)&&DZ s&&decide (0<=BO s)&&decide (BO s<1000000000)
def nTe(c:AL):Int:=(c.2.1.length:Int)
def nHo(c:AL):Int:=(c.1.length:Int)
def nLv(c:AL):Int:=(c.2.2.length:Int)
end Go.Sp
namespace Go.Pe
open Go.Det
abbrev Ac2:Sh:=.pair i64<|.pair i64 i64
def Xd:Am:=⟨[.str],fun s=>Sp.Abj s,[i64,.bool],fun s=>(Sp.BO s,true),false⟩
def Aaf:Am:=⟨[Bn,i64],fun _=>true,[.pair i64 i64],fun i=>(i.2,Sp.nTe i.1),false⟩
def iP:Am:=⟨[Bn,i64],fun _=>true,[.pair i64 i64],fun i=>(i.2,Sp.nHo i.1),false⟩
def YX:Am:=⟨[Bn,i64],fun _=>true,[.pair i64 i64],fun i=>(i.2,Sp.nLv i.1),false⟩
def zT:Am:=⟨[i64,i64],fun _=>true,[.bool],fun i=>Sp.KP i.1 i.2,false⟩
def Qm:Am:=⟨[Bn,Ac2],fun i=>Sp.zN i.1,[.bool],fun _=>true,false⟩
def TN:AT:=SS [(72,[2])] [(72,[(2,[(3,Bn),(7,BU)])])] [(72,[(2,[1,2,3,6,7])])] [(55,MC),(103,cF),(75,NI),(115,jQ)]
def jH:AT:=SS [(79,[4,6])] [(79,[(4,[(10,Av),(11,Av),(12,Av),(13,Av),(14,Av)])])] [(79,[(4,[8,10,11,12,13,14]),(6,[8,10,11,12,13,14])])] [(72,cPl),(55,MC),(56,Rj),(75,NI),(74,kA),(102,VY),(76,mO)]
def rX:AT:=X7 [(148,T8),(149,OA)]
def AdL:AT:=X7 [(35,iT),(33,LN),(36,Qr)]
def Aeg:AT:=X7 [(24,Ad5),(33,LN),(37,ZP),(34,Pz),(82,mF),(36,Qr),(38,M6),(84,ZL),(85,ZI),(83,Xd)]
open Sp
section
open List Int Prod
namespace T88
def T(l:List A1)(x:Z):Tr:=tree XT5 false 9 88<|Ae ([zi B5,ze]) (l,x)
def L1(v0:List A1)(v1:Z)(v5:Int):Tr:=re ((T [] []).L.L.R)<|Aw 70 [(0,.dat (zi B5) v0),(1,.dat ze v1),(5,.dat i64 v5)] [] 0
theorem Aj(l:List A1)(x:Z):T l x=let a:=getD l 0 ([],[]);let b':=decide (0<(length l:Int));.ck b' (.ck (Be x&&Df (fst a))<|.di (EI x (fst a)<=0) (.ck b'<|.leaf (.dat ze<|snd a) [])<|L1 l x 1):=by kernel_rfl
theorem Al(v0:List A1)(v1:Z)(v5:Int):stepT XT5 (L1 v0 v1 v5)=let a:=getD v0 (toNat<|zc .i64<|v5-1) ([],[]);let b':=getD v0 (toNat v5) ([],[]);let b:=(length v0:Int);let d:=G7 v1<|fst a;let f:=decide (0<=v5)&&decide (v5<b);let e:=G7 (snd b')<|snd a;let h':=G7 (fst b')<|fst a;let c:=K0 e h';.di (v5<b) (.ck f<|.ck (Be v1&&Df (fst b'))<|.di (EI v1 (fst b')<=0) (.ck (decide (0<=zc .i64 (v5-1))&&decide (zc .i64 (v5-1)<b))<|.ck f<|.ck (Be (snd b')&&Df (snd a))<|.ck (Be (fst b')&&Df (fst a))<|.ck (Be e&&aE h')<|.ck (Be v1&&Df (fst a))<|.ck (Be c&&Be d)<|.ck (Be (snd a)&&Be (FH c d))<|.leaf (.dat ze<|CC (snd a)<|FH c d) [])<|L1 v0 v1<|zc .i64<|v5+1) (.ck (decide (0<=zc .i64 (b-1))&&decide (zc .i64 (b-1)<b))<|.leaf (.dat ze<|snd<|getD v0 (toNat<|zc .i64<|b-1) ([],[])) []):=by kernel_rfl
end T88
namespace T123
def T(l:List A1):Tr:=tree XT1 false 9 123<|Ae ([zi B5]) l
def L1(b:List A1)(a c:Int):Tr:=re ((T []).L.L.L.R)<|Aw 66 [(5,.nil),(23,.dat (zi B5) b),(24,.dat i64 a),(25,.dat i64 c)] [] 0
theorem Aj(l:List A1):T l=let a:=(length l:Int);.ck true (.ck true<|.ck (decide (2<=2)&&true&&decide (2<=1000000))<|.ite (y7 [Cq (a==0) 12,Cq (decide (a>64)) 5] !=0) (.leaf (.tup [.nil,.dat i64<|y7 [Cq (a==0) 12,Cq (decide (a>64)) 5]]) [])<|L1 l a 0):=by kernel_rfl
def L2(a:Nat)(b:List A1)(c d:Int)(e:List (Ag×Ag)):Tr:=re ((stepT XT1<|L1 [] 0 0).L.L.L.R.L.L.R.L)<|Aw 66 [(5,.sl 0 8 0 a none),(23,.dat (zi B5) b),(24,.dat i64 c),(25,.dat i64 d)] [(0,.arr false 209 (yi Av Av) e)] 1
theorem Al(c:List A1)(d a:Int):stepT XT1 (L1 c d a)=let b:=getD c (toNat a) ([],[]);.di (a<d) (.ck (decide (0<=a)&&decide (a<(length c:Int)))<|.ck (decide (2<=2)&&true&&(decide (2<=1000)&&List.all [fst b,snd b] fun s=>decide (length s<=1000000)))<|.ite (EY [fst b,snd b] !=0) (.leaf (.tup [.nil,.dat i64<|EY [fst b,snd b]]) [])<|.ck (DR<|fst b)<|.ck (DR<|snd b)<|.di (a>0) .fail<|.ck (aa 128)<|L2 1 c d (zc .i64<|a+1)<|[((Cs<|fst b),(RI<|snd b,RC<|snd b),Re<|snd b,Rg<|snd b)]) (.leaf (.tup [.nil,.dat i64 (0:Int)]) []):=by kernel_rfl
theorem AG(b:Nat)(d:List A1)(e a:Int)(f:List (Ag×Ag)):stepT XT1 (L2 b d e a f)=let c:=getD d (toNat a) ([],[]);let j:=zc .i64<|a-1;let b':=fst<|getD f (toNat j) (((0,[]),0,[]),(0,[]),0,[]);let g:=Cs<|fst c;let i:Tr:=.ck (ac b (length f) 128)<|L2 (qn b 1) d e (zc .i64<|a+1)<|f++[(g,(RI<|snd c,RC<|snd c),Re<|snd c,Rg<|snd c)];let h:=((fst b'),fst<|snd b',snd<|snd b');.di (a<e) (.ck (decide (0<=a)&&decide (a<(length d:Int)))<|.ck (decide (2<=2)&&true&&(decide (2<=1000)&&List.all [fst c,snd c] fun s=>decide (length s<=1000000)))<|.ite (EY [fst c,snd c] !=0) (.leaf (.tup [.nil,.dat i64<|EY [fst c,snd c]]) [])<|.ck (DR<|fst c)<|.ck (DR<|snd c)<|.di (a>0) (.ck (decide (0<=zc .i64 (a-1))&&decide (zc .i64 (a-1)<(↑b:Int)))<|.cd (toNat j<length f)<|.ck (Sp.Cw g&&Sp.Cw h)<|.di (Dm g h<=0) (.leaf (.tup [.nil,.dat i64 (11:Int)]) []) i) i) (.leaf (.tup [.sl 0 8 0 b none,.dat i64 (0:Int)])<|[(0,.arr false 209 (yi Av Av) f)]):=by kernel_rfl
end T123
namespace T54
def T(l:List A1):Tr:=tree XT2 false 9 54<|Ae ([zi B5]) l
theorem Aj(l:List A1):T l=.ck (decide (length l<=1000)&&GC 1000000 l) (.leaf (.dat i64<|BH l) []):=by kernel_rfl
end T54
namespace T60
def T(l:List A1):Tr:=tree XT4 false 9 60<|Ae ([zi B5]) l
def L1(v0:List A1)(v3:Int):Tr:=re ((T []).R.R)<|Aw 55 [(0,.dat (zi B5) v0),(3,.dat i64 v3)] [] 0
theorem Aj(l:List A1):T l=.ite ((length l:Int)==0) (.leaf (.dat i64 (12:Int)) []) (.di ((length l:Int)>64) (.leaf (.dat i64 (5:Int)) [])<|L1 l 0):=by kernel_rfl
theorem Al(v0:List A1)(v3:Int):stepT XT4 (L1 v0 v3)=let a:=getD v0 (toNat v3) ([],[]);let b':=L1 v0<|zc .i64<|v3+1;let f:=fst<|getD v0 (toNat<|zc .i64<|v3-1) ([],[]);let c:=(length v0:Int);let d:Tr:=.ite (Ao (snd a) !=0) (.leaf (.dat i64<|Ao<|snd a) []) b';let e:Tr:=.ite (Ao (fst a) !=0) (.leaf (.dat i64<|Ao<|fst a) []) b';let b:=decide (0<=v3)&&decide (v3<c);let g:=decide (0<=zc .i64 (v3-1))&&decide (zc .i64 (v3-1)<c);let h':Tr:=.ite true (.leaf (.dat i64 (11:Int)) []) b';let i:=decide (EI f (fst a)>=0);let h:=Be f&&Df (fst a);.di (v3<c) (.ck b<|.cd (length (fst a)<=1000000)<|.ite (Ao (fst a)==0) (.ck b<|.cd (length (snd a)<=1000000)<|.ite (Ao (snd a)==0) (.di (v3>0) (.ck g<|.ck b<|.ck h<|.ite i h' d) d) d)<|.ite (Ao (fst a)==0) (.di (v3>0) (.ck g<|.ck b<|.ck h<|.ite i h' e) e) e) (.leaf (.dat i64 (0:Int)) []):=by kernel_rfl
end T60
namespace T103
def T(n:Int):Tr:=tree rD false 9 103<|Ae ([qk z8]) n
theorem Aj(n:Int):T n=.ck true (.ck true<|.leaf (qf [.dat i64 n,.dat wU<|Sp.Co n,.dat i64 (1:Int),.dat wU<|Sp.Co 1]) []):=by kernel_rfl
end T103
namespace T174
def T(s t:Z):Tr:=tree XX0 false 9 174<|Ae ([ze,ze]) (s,t)
theorem Aj(s t:Z):T s t=let a:=(length t:Int);let b':=decide (toNat a<=length s);.di ((length s:Int)>=a) (.ck (decide (0<=a)&&decide (0<=toNat a)&&b')<|.ite (take (toNat a) s==t) (.ck (decide (0<=a)&&true&&b'&&decide (length s<=length s))<|.leaf (.dat ze<|take (zy (length s)<|toNat a)<|drop (toNat a) s) [])<|.leaf (.dat ze s) []) (.leaf (.dat ze s) []):=by kernel_rfl
end T174
namespace T210
def T(a:AK):Tr:=tree XX1 false 9 210<|Ae ([A4]) a
theorem Aj(a:AK):T a=let c:=BC<|Ah<|zo a;let b:=(↑(length c):Int);let b':=getD c (toNat<|zc .i64<|b-1) 0;.ck (Sp.Dt a) (.ite (b==0) (.leaf (.dat i64 (0:Int)) [])<|.ck (decide (0<=zc .i64 (b-1))&&decide (zc .i64 (b-1)<b))<|.ck (Sp.u64 b')<|.leaf (.dat i64<|zc .i64<|zc .i64 (64*zc .i64 (b-1))+FC b') []):=by kernel_rfl
end T210
namespace T184
def T(a:AK):Tr:=tree AdZ false 9 184<|Ae ([A4]) a
theorem Aj(a:AK):T a=.ck (Bh a) (.di (Ro a>1800) (.ck (Bh a)<|.ck (Ur (AY<|zo a) [(45:UInt8)])<|.leaf (.dat zk<|decide ((↑(length<|A9<|AY<|zo a):Int)>600)) [])<|.leaf (.bl false) []):=by kernel_rfl
end T184
namespace T134
def T(a:Ag):Tr:=tree XX2 false 9 134<|Ae ([Av]) a
theorem Aj(a:Ag):T a=.ck (Bh<|fst a) (.ite (EP<|fst a) (.leaf (.bl true) [])<|.ck (Bh<|snd a)<|.leaf (.dat zk<|EP<|snd a) []):=by kernel_rfl
end T134
namespace T135
def T(a:Ag):Tr:=tree XX2 false 9 135<|Ae ([Av]) a
theorem Aj(a:Ag):T a=let b:=zo<|fst a;.ck true (.ite (C8<|snd a) (.ck (Bh<|fst a)<|.leaf (.dat ze<|AY b) [])<|.ck (Bh<|fst a)<|.cd (length (AY b)+1<=4611686018427387904)<|.ck (Bh<|snd a)<|.cd (length (AY b++[(47:UInt8)])+length (AY<|zo<|snd a)<=4611686018427387904)<|.leaf (.dat ze<|AY b++[(47:UInt8)]++AY (zo<|snd a)) []):=by kernel_rfl
end T135
namespace T171
def T(l:List Z):Tr:=tree XX3 false 9 171<|Ae ([zi ze]) l
def L1(b:List Z)(c a:Int):Tr:=re ((T []))<|Aw 18 [(6,.dat (zi ze) b),(7,.dat i64 c),(8,.dat i64 a)] [] 0
theorem Aj(l:List Z):T l=L1 l ((length l:Int)) 0:=by kernel_rfl
theorem Al(b:List Z)(d a:Int):stepT XX3 (L1 b d a)=let c:=getD b (toNat a) [];.di (a<d) (.ck (decide (0<=a)&&decide (a<(length b:Int)))<|.cd (length c<=1000000)<|.ite (Ao c !=0) (.leaf (.dat i64<|Ao c) [])<|L1 b d<|zc .i64<|a+1) (.leaf (.dat i64 (0:Int)) []):=by kernel_rfl
end T171
namespace T115
def T(a:Ag):Tr:=tree XX3 false 9 115<|Ae ([Av]) a
theorem Aj(a:Ag):T a=.ck (Sp.Dt<|fst a) (.leaf (.dat i64<|Ix<|fst a) []):=by kernel_rfl
end T115
end
namespace T185
theorem Ar(neg:Bool)(V:Nat)(h0:0<V)(h:Small V)(hG:(CB (V+1) V).length<=1000000)(b:Exit neg (CB (V+1) V) Q):Ends RD (L1 neg (BC (V:Int)) 1 [1000000000000000000]) Q:=by
 have e:V % 10^18<10^18:=ql _ af;have i:∀s,s=(if V/10^18=0 then zh (V % 10^18)else GH 18<|V % 10^18)->[s]++(if V/10^18=0 then[]else CB V<|V/10^18)=CB (V+1) V:=by
  rintro s rfl;have k:CB (V+1) V=if V<10^18 then[zh V]else GH 18 (V % 10^18)::CB V (V/10^18):=rfl
  rw[k];by_cases c:V<10^18
  ·rw[wd c,wd ae,wd ae,Nat.mod_eq_of_lt c];rfl
  ·rw[wc c,wc ae,wc ae];rfl
 have next:∀s,s=(if V/10^18=0 then zh (V % 10^18)else GH 18<|V % 10^18)->Ends RD (L2 neg (BC ((V/10^18:Nat):Int)) 1 1 [s] [1000000000000000000]) Q:=
  fun s j=>A2 neg _ hG b V (V/10^18) [s] ae (h.le<|Nat.div_le_self _ _)<|i s j
 refine yj (Al ..) (zd (w4 (by have:=JZ h0;omega))<|zd (Ab rfl h.div) ?_);rw[Wi,WA];rcases Nat.eq_zero_or_pos (V % 10^18)with g|g
 ·have q0:V/10^18≠0:=ae
  rw[g,show((0:Nat):Int)=0 from rfl,Lc];refine zl rfl (zd (w4 (by have:=JZ (V:=V/10^18) ae;omega))<|zd rfl (zd rfl (zd rfl (next _ ?_))));have hp:=TL 0 af;rw[yu ae]at hp;rw[wc q0,g, <-hp];rfl
 ·rw[VB (r:=((V % 10^18:Nat):Int)) ae ae];have f:List.getD [((V % 10^18:Nat):Int)] 0 0=((V % 10^18:Nat):Int):=rfl;rw[f,MG];have m:=UG e;have d:((V % 10^18:Nat):Int)<1000000000000000000:=ae
  have l:0<(zh<|V % 10^18).length:=by
   rw[yp,Lib.nDigits];split<;>omega
  refine zd rfl (zd rfl (zd (Ab (Ab (w4<|yg _)<|w4 d) rfl) ?_));rw[wr _ ae ae];by_cases q0:V/10^18=0
  ·rw[q0];refine zl (by rw[show((0:Nat):Int)=0 from rfl,Lc];rfl)<|zd rfl ?_;have:=next _ rfl;rw[wd q0,q0]at this;exact this
  ·have a:=TL _ e;refine zd (w4 (by have:=JZ (V:=V/10^18) ae;omega)) (zd (Ab (ad ae ae) rfl)<|zd (w4 ?_)<|zd rfl (next _ ?_))
   ·rw[<-zp,a];unfold GH;rw[zp,List.length_replicate];omega
   ·rw[wc q0];exact a
end T185
theorem Abn(n:Nat):(18446744073709551616:Nat)^n<=10^(20*n):=by
 rw[Nat.pow_mul];exact Nat.pow_le_pow_left af n
theorem cJ{V k:Nat}(h:(V:Int)<(Ap:Int)^k):V<18446744073709551616^k:=by
 rw[<-S5 k]at h;exact yr.mp h
theorem eH{V k:Nat}(h:(V:Int)<(Ap:Int)^k)(c:1<=k):(zh V).length<=20*k:=by
 rw[yp];obtain⟨j,b⟩:∃j,20*k=j+1:=⟨20*k-1,by omega⟩;have a:=Nat.lt_of_lt_of_le (cJ h)<|Abn k;rw[b]at a ⊢;exact Oj j V a
theorem HV{V:Nat}(h:Small V):(zh V).length<=180000:=eH (k:=9000) h.h af
theorem M9:∀(f v:Nat) (s:Z),s∈CB f v->0<s.length
 |0,v,s,h=>by cases h
 |f+1,v,s,h=>by
  have b:CB (f+1) v=if v<10^18 then[zh v]else GH 18 (v % 10^18)::CB f (v/10^18):=rfl
  have a:∀r,0<(zh r).length:=fun r=>by rw[yp,Lib.nDigits];split<;>omega
  rw[b]at h;split at h
  ·rw[List.mem_singleton]at h;subst h;exact a _
  ·rcases List.mem_cons.1 h with rfl|h
   ·unfold GH;rw[zp];have:=a<|v % 10^18;omega
   ·exact M9 f _ s h
theorem Qi:∀(l:List Z),(∀s∈l,0<s.length)->l.length<=l.flatten.length
 |[],_=>yv _
 |s::l,h=>by
  have c:=Qi l fun x a=>h x<|List.mem_cons_of_mem _ a
  have b:=h s<|List.mem_cons_self ..;rw[List.flatten_cons,zp,ya];omega
theorem aZ{V:Nat}(h:0<V):AY (-(V:Int))=45::zh V:=Lib.itoa_neg V h
theorem yJ(a:Af A8 213 Wq):CX RD:=Aa xL<|Aa (T179.ok FU)<|Aa SF<|Aa a<|Aa cI AE
namespace T185
theorem eZ(neg:Bool){V:Nat}(h:Small V)(b:∀ob,Q (.dat .str (if neg=true then 45::zh V else zh V)) ob):Exit neg (CB (V+1) V) Q:=by
 have a:=M9 (V+1) V;have d:=Jr (V+1) V ae;have k:=HV h;have j:=Qi _ a;have hr:(CB (V+1) V).flatten.length=(zh V).length:=by
  rw[<-d,yc,yc,List.map_reverse,List.sum_reverse]
 have e:0<(CB (V+1) V).length:=by
  have g:CB (V+1) V=if V<10^18 then[zh V]else GH 18 (V % 10^18)::CB V (V/10^18):=rfl
  rw[g];split<;>simp
 generalize CB (V+1) V=G at*;unfold Exit;refine z6 (fun c=>zd rfl (zd rfl ?_))<|fun c=>?_
 ·rw[wd c]at b;rw[wr _ ae ae];exact Fa G (45::zh V) (by rw[ya];omega) ae b G.length [45] _ 1 (yv _) rfl rfl af (by rw[List.take_length,d];rfl)
 ·rw[wc<|by rw[c];decide]at b;rw[wr _ ae ae];obtain⟨i,f⟩:∃i,i+1=G.length:=⟨G.length-1,by omega⟩;exact FX G (zh V) ae ae b i f _ ae (a _<|List.getElem_mem _) d
theorem ok(e:Af A8 213 Wq):Af A8 185 Acq:=by
 refine GP (X:=RD) rfl (yJ e) (d:=9) ag ag ag (fun(a:Int×List Int) f=>?_) (Bd ag);have f:Bh a=true:=f;have i:=(Cc f).1;have hr:=(Ej i).1;refine zt (Aj a)<|z6 (fun c=>zd (Eb hr.1 hr.2)<|zg<|ye rfl rfl ?_)<|fun c=>zd i ?_
 ·have c:a.2=[]:=by simpa using c
  show AY a.1=AY (zo a);rw[Br c]
 ·have c:a.2≠[]:=by rintro k;rw[k]at c;simp at c
  have l:=bounds f;have b:(9223372036854775808:Int)<=Ah (zo a):=by
   obtain⟨_,j⟩:=Ej i;obtain⟨s,w⟩:=a;rcases j with j|⟨_,_,o⟩
   ·exact wh j c
   ·rw[Yg c,Ak];have o:9223372036854775808<=At w:=o;split<;>omega
  obtain⟨V,p⟩:=zq<|AJ<|zo a;have g:=Ak<|zo a;rw[p]at l b g ⊢;have h:Small V:=⟨l⟩;have t:=HV h;have hp:0<V:=ae
  have r:=Qi _<|M9 (V+1) V;have q:=Jr (V+1) V ae;have m:(CB (V+1) V).flatten.length=(zh V).length:=by
   rw[<-q,yc,yc,List.map_reverse,List.sum_reverse]
  refine Ar _ V hp h ae<|eZ _ h fun ob=>ye rfl rfl ?_;show(if decide (zo a<0)=true then 45::zh V else zh V)=AY (zo a);by_cases n:zo a<0
  ·rw[wd<|w4 n,show zo a= -(V:Int)from by omega,aZ hp]
  ·rw[wc (by simpa using n),show zo a=(V:Int)from by omega,MG]
end T185
theorem Yq{k:Nat}{n d:Int}(a:d≠0)(c:Ah n<(Ap:Int)^k)(b:Ah d<(Ap:Int)^k):Mt k (zm n d):=by
 unfold Mt;rw[Rat.num_divInt,Rat.den_divInt,wc a];constructor
 ·refine Int.lt_of_le_of_lt Yx ?_;rw[JF];have:Ah d.sign=1:=by rw[Ak,Int.natAbs_sign_of_ne_zero a];rfl
  rw[this,qg];exact c
 ·refine Int.lt_of_le_of_lt ?_ b;rw[Ak];exact Int.ofNat_le.mpr<|Nat.div_le_self _ _
theorem vD{f:Ag}(h:qo f=true)(h0:zo f.1≠0):qo (WC f)=true:=by
 obtain⟨a1,a2,a,b,a0⟩:=Hi h;exact(Mb a2 a1 h0).CQ<|Yq h0 b a
theorem wZ{f:Ag}(h:qo f=true):qo (Abf f)=true:=by
 obtain⟨a1,a2,a,b,a0⟩:=Hi h;unfold qo Sp.Cw at*;have c:=Xz (k:=4000) (Cc a1).1 ae ae<|Yv (Cc a1).1 a;exact Ab (Ab (GQ c.1<|by show Ah (zo<|Du f.1)<_;rw[IT,Jv];exact a)<|GQ (Cc a2).1 b)<|w4 a0
theorem ZS:CX XA3:=Aa T137.ok<|Aa T75.ok<|Aa T102.ok<|Aa T141.ok AE
theorem T74.ok:Af A8 74 kA:=by
 refine BR ZS<|fun(i:((Int×List Int)×(Int×List Int))×((Int×List Int)×(Int×List Int))) c=>?_;obtain⟨a,b⟩:=i;have c:(qo a&&qo b)=true:=c;rw[zf]at c;obtain⟨b1,b2,lb1,lb2,b0⟩:=Hi c.2;exact zt (T74.Aj a b)<|zd (Cc b1).1<|zd (Ab c.1<|wZ c.2)<|zg<|ye rfl rfl rfl
theorem T76.ok:Af A8 76 mO:=by
 refine BR ZS<|fun(i:((Int×List Int)×(Int×List Int))×((Int×List Int)×(Int×List Int))) c=>?_;obtain⟨a,b⟩:=i;have c:(qo a&&qo b&&decide (zo b.1≠0))=true:=c;rw[zf,zf,w5]at c;exact zt (T76.Aj a b)<|zd (Ab c.1.2<|w4 c.2)<|zd (Ab c.1.1<|vD c.1.2 c.2)<|zg<|ye rfl rfl rfl
end Go.Pe
namespace Go.Sp
theorem Dk{a:Bool×List Int}(h:CA a=true):Bb a.2=true/\a.2.length<=3000/\(a.1=true->a.2≠[]):=by
 unfold CA at h;rw[zf,zf,w5,Bool.or_eq_true,w5,Bool.not_eq_true']at h;refine⟨h.1.1,h.1.2,fun k=>?_⟩;rcases h.2 with x|x
 ·rw[k]at x;cases x
 ·exact x
theorem E3{a:Bool×List Int}(h:CA a=true):Ah (vR a)=An a.2/\0<=An a.2:=by
 obtain⟨c,e,d⟩:=Dk h;have h0:=AD (b:=B9) af (Bu c).2.1;have h0:0<=An a.2:=h0;refine⟨?_,h0⟩;unfold vR;rw[Ak];split<;>omega
theorem QP{a:Bool×List Int}(h:CA a=true):a.1=rN (vR a):=by
 obtain⟨c,f,d⟩:=Dk h;obtain⟨_,h0⟩:=E3 h;unfold rN vR;cases e:a.1 with
 |false=>rw[wc af];symm;rw[w9];omega
 |true=>
  rw[wd rfl];symm;rw[w5];have:=J7 (b:=B9) af (Bu c).2.1 (Bu c).2.2<|d e;have:0<An a.2:=this;omega
theorem AbX{a:Bool×List Int}(h:CA a=true):a.2=rW (vR a):=by
 unfold rW;rw[(E3 h).1];exact Jt (b:=B9) af (Bu (Dk h).1).2.1 (Bu (Dk h).1).2.2
theorem Aaj{a:Bool×List Int}(h:CA a=true):a=(rN<|vR a,rW<|vR a):=Prod.ext (QP h)<|AbX h
theorem Yo(k:Nat):(B9:Int)^k=10^(9*k):=by
 have:(B9:Int)=10^9:=af
 rw[this, <-Int.pow_mul]
theorem vK{n:Int}{k:Nat}(h:n.natAbs<10^(9*k)):Ah n<(B9:Int)^k:=by
 rw[Ak,Yo];have:((10^(9*k):Nat):Int)=(10:Int)^(9*k):=by simp
 rw[<-this];exact yr.mpr h
theorem OO(n:Int):0<=Ah n:=by rw[Ak];omega
theorem KO(n:Int):An (rW n)=Ah n:=Db (b:=B9) af<|OO n
theorem Ft(n:Int):vR (rN n,rW n)=n:=by
 unfold vR;show(if rN n=true then -An (rW n)else An<|rW n)=n;rw[KO,Ak];unfold rN;by_cases h:n<0
 ·rw[wd<|w4 h];omega
 ·rw[wc<|by simpa using h];omega
theorem TV{n:Int}(h:n.natAbs<10^27000):CA (rN n,rW n)=true:=by
 have k:27000=9*3000:=rfl;rw[k]at h;obtain⟨c,_,i,d⟩:=F9 (n:=Ah n) (k:=3000) (OO n) (vK h) af;unfold CA;have g:Bb (rW n)=true:=c;have f:(rW n).length<=3000:=d;rw[g,w4 f];cases b:rN n with
 |false=>rfl
 |true=>
  have:rW n≠[]:=by
   intro e;have a:=KO n;rw[e]at a;have a:0=Ah n:=a;unfold rN at b;have b:=w6 b;rw[Ak]at a;omega
  rw[w4 this];rfl
theorem mX(k:Nat):((10^k:Nat):Int)=(10:Int)^k:=by rw[z7];rfl
theorem AaS{x:Nat}(j k:Nat)(h:j<=k)(a:x<10^j):x<10^k:=Nat.lt_of_lt_of_le a (Nat.pow_le_pow_right af h)
theorem AaI{a:Bool×List Int}(h:CA a=true):(vR a).natAbs<10^27000:=by
 obtain⟨e,d,i⟩:=Dk h;have f:=Bz (b:=B9) af (Bu e).2.1;have g:(B9:Int)^a.2.length<=(B9:Int)^3000:=AQ af d;have c:Ah (vR a)<(B9:Int)^3000:=by rw[(E3 h).1];exact zz f g
 rw[Ak,Yo]at c;have:=mX<|9*3000;rw[<-this]at c;have k:27000=9*3000:=rfl;rw[k];exact yr.mp c
theorem pB{neg:Bool}{w:List Int}{n:Int}(a:Az B9 w)(b:An w=Ah n)(c:n≠0->neg=rN n):(CM neg w,Ay w)=(rN n,rW n):=by
 have h:=Go.Pe.MU (neg:=neg) a b;rw[h];have:(if neg=true then -Ah n else Ah n)=n:=by
  by_cases h0:n=0
  ·rw[h0];unfold Ah;split<;>simp
  ·rw[c h0];unfold rN;rw[Ak];by_cases h:n<0
   ·rw[wd<|w4 h];omega
   ·rw[wc<|by simpa using h];omega
 rw[this]
theorem D7{s:Z}(h:Be s=true):CA (BY s,BN s)=true/\vR (BY s,BN s)=Bf s/\CA (Bv s,Bm s)=true/\vR (Bv s,Bm s)=AN s/\(Au s).num=Bf s/\((Au s).den:Int)=AN s/\DR s=true/\(Bf s).natAbs<10^4000/\(AN s).natAbs<10^4000:=by
 obtain⟨a,j⟩:=F5 h;obtain⟨s1,s2⟩:=Tx h;have e:(Au s).num=Bf s/\((Au s).den:Int)=AN s:=by
  have:=K5<|Au s;rw[a]at this;exact⟨this.1.symm,this.2.symm⟩
 have l1:(Bf s).natAbs<10^4000:=by rw[<-e.1];exact s1
 have d:(AN s).natAbs<10^4000:=by rw[<-e.2,yf];exact s2
 have m:∀x:Nat,x<10^4000->x<10^27000:=fun x g=>AaS 4000 27000 af g
 refine⟨TV<|m _ l1,Ft _,TV<|m _ d,Ft _,e.1,e.2,?_,l1,d⟩;obtain⟨b,f,i⟩:=Fj<|Au s;rw[a]at b f i;have k:=Go.Pe.T122.DH s;unfold DR DZ;rw[w4 (p:=s.length<=5999) ae,w4 (p:=(AB s).length<=5999) ae,w4 (p:=(AV s).length<=5999) ae,yd,yd,Bool.and_true,zf];refine⟨?_,?_⟩
 ·obtain⟨l,i2,i3,i4⟩:=DA (Au s).num;rw[b];unfold A9 at i2;split at i2
  ·next c=>rw[wd c,i2];exact Ec _
  ·next c=>rw[wc c,i2];exact Ec _
 ·rw[f];split
  ·rfl
  ·rw[wc<|F8<|Ec _];exact Ec _
end Go.Sp
namespace Go.Pe
open Sp
open Go.Det
theorem XH{x:Int}{k:Nat}(h:x.natAbs<10^k):Ah x<(Ap:Int)^k:=by
 have a:((10^k:Nat):Int)=(10:Int)^k:=z7 ..;rw[Ak];refine zz ?_<|iD k;rw[<-a];exact yr.mpr h
theorem YA{q:Rat}{k:Nat}(h:HJ k q)(d:k<=4000):Mt 4000 q:=by
 obtain⟨b,c⟩:=h.mono d;have a:=XH (k:=4000) (x:=(q.den:Int)) (by rw[yf];exact c);rw[Ak,yf]at a;exact⟨XH b,a⟩
def zL(s:Z):Ag:=((RI s,RC s),(Re s,Rg s))
theorem IZ{s:Z}(h:Be s=true):Fk (zL s) (Au s):=by
 obtain⟨_,_,_,_,c,b,_,l1,d⟩:=D7 h;have m:∀x:Int,x.natAbs<10^4000->Ah x<(Ap:Int)^9000:=fun x a=>zz (XH a) (AQ af af)
 exact⟨(Cc<|Gj<|D8<|m _ l1).1,(Cc<|Gj<|D8<|m _ d).1,(Ll _).trans c.symm,(Ll _).trans b.symm⟩
theorem cC{d:AK}(h:Sp.Dt d=true):C8 d=decide (zo d=1):=by
 unfold C8;rw[Bool.eq_iff_iff,zf,w5,w5,w5];refine⟨fun⟨g,f⟩=>by rw[Br g];exact f,fun e=>?_⟩;by_cases c:d.2=[]
 ·rw[Br c]at e;exact⟨c,e⟩
 ·obtain⟨_,a⟩:=Ej h;obtain⟨s,w⟩:=d;rcases a with a|⟨_,_,b⟩
  ·exact wh a c
  ·rw[Yg c]at e;have b:9223372036854775808<=At w:=b;split at e<;>omega
theorem eA{f:Ag}{q:Rat}(h:Fk f q):I1 f=Ke q:=by
 unfold I1 EP Ke;rw[h.vn,h.vd]
theorem nY{f:Ag}{q:Rat}(h:Fk f q):Ku f=AP q:=by
 unfold Ku AP;rw[cC h.d,h.vn,h.vd];have e:decide ((q.den:Int)=1)=true↔q.den=1:=by rw[w5];omega
 by_cases c:q.den=1
 ·rw[wd<|e.2 c,wd c];rfl
 ·rw[wc<|fun k=>c<|e.1 k,wc c];show qm q.num++47::qm ((q.den:Nat):Int)=_;rw[Lib.itoa_nonneg]
theorem Z7{f:Ag}{q:Rat}(h:Fk f q):Pn f=fD 0 q/\PL f=fG 0 q:=by
 unfold Pn PL fD fG;rw[eA h,nY h];exact⟨rfl,rfl⟩
theorem Fk.Cw{f:Ag}{q:Rat}(h:Fk f q)(a:Mt 4000 q):Sp.Cw f=true:=by
 have:=h.CQ a;unfold qo at this;rw[zf]at this;exact this.1
theorem Fk.I3{f:Ag}{q:Rat}(h:Fk f q):decide (zo f.1≠0)=decide (q≠0):=by
 rw[h.vn,decide_eq_decide,wm,Rat.num_eq_zero]
theorem Fk.cmp{f g:Ag}{p q:Rat}(h:Fk f p)(a:Fk g q):Dm f g=if p<q then -1 else if q<p then 1 else 0:=by
 unfold Dm Ck;rw[h.vn,h.vd,a.vn,a.vd];have e:p<q↔p.num*(q.den:Int)<q.num*(p.den:Int):=Rat.lt_iff ..;have b:q<p↔q.num*(p.den:Int)<p.num*(q.den:Int):=Rat.lt_iff ..;by_cases c:p<q
 ·rw[wd c,wd<|e.1 c]
 ·rw[wc c,wc<|fun k=>c<|e.2 k];by_cases d:q<p
  ·rw[wd d,wd<|b.1 d]
  ·rw[wc d,wc<|fun k=>d<|b.2 k]
end Go.Pe
namespace Go.Sp
theorem pH{n:Int}(h:0<=n):n+1<=2^(FC n).toNat:=by
 unfold FC;split
 ·have:n=0:=ae
  subst this;decide
 ·have b:=Nat.lt_log2_self (n:=n.toNat);have e:((n.toNat.log2:Int)+1).toNat=n.toNat.log2+1:=ae
  have a:((2^(n.toNat.log2+1):Nat):Int)=(2:Int)^(n.toNat.log2+1):=z7 ..;rw[e, <-a];generalize 2^(n.toNat.log2+1)=P at*;omega
theorem AbS{w:List Int}(e:Az Ap w){k:Nat}(g:w.length=k+1):val Ap w<(Ap:Int)^k*(w.getD k 0+1):=by
 have a:=Cy (Ap:Int) w k ae;have c:=Bz (b:=(Ap:Int)) af<|AS e k;rw[List.length_take,Nat.min_eq_left ae]at c;have f:w.drop k=[w.getD k 0]:=by
  rw[Cx ae,zn ae]
 rw[f]at a;have d:val Ap [w.getD k 0]=w.getD k 0:=by
  show w.getD k 0+(Ap:Int)*0=_;omega
 rw[d]at a;rw[yw,qh];omega
theorem Yu(k:Nat):((10^k:Nat):Int)=(10:Int)^k:=by rw[z7];rfl
theorem iW(k:Nat):2^(3*k)<=10^k:=by rw[Nat.pow_mul];exact Nat.pow_le_pow_left af k
theorem pE(k:Nat):(2:Int)^(3*k)<=10^k:=by
 have a:((2^(3*k):Nat):Int)<=((10^k:Nat):Int):=Int.ofNat_le.2<|iW k;rw[z7,z7]at a;exact a
theorem xW:(2:Int)^1800<=10^600:=by
 have h:=pE 600;have k:3*600=1800:=rfl;rw[k]at h;exact h
theorem yF{a:AK}(h:Ro a<=1800):EP a=false:=by
 have a0:0<=Ah (vI a):=by rw[Ak];omega
 have f:=Db (b:=Ap) af a0;have c:=F6 (b:=Ap) af<|Ah<|vI a;have key:Ah (vI a)<2^1800:=by
  unfold Ro at h;have f:val Ap (BC<|Ah<|vI a)=Ah (vI a):=f;have c:Az Ap (BC<|Ah<|vI a):=c;generalize BC (Ah<|vI a)=w at*;rw[<-f];by_cases d:w=[]
  ·subst d;show(0:Int)<_;exact Int.pow_pos af
  ·rw[wc d]at h;obtain⟨k,n⟩:∃k,w.length=k+1:=⟨w.length-1,by have:=yq.2 d;omega⟩;have j:=AbS c n;have g:=KM (b:=(Ap:Int)) af c k;have hp:=pH g.1;have q:=(Go.Pe.Uq g.1 (by have:(Ap:Int)=18446744073709551616:=rfl;omega)).1;rw[n,yh,show((k+1:Nat):Int)-1=(k:Int)by omega]at h;have p:(0:Int)<(Ap:Int)^k:=AU af k;have m:=zx hp<|yb p;have l:(Ap:Int)^k=2^(64*k):=by
    have:(Ap:Int)=2^64:=af
    rw[this, <-Int.pow_mul]
   rw[l, <-Int.pow_add]at m;rw[l]at j;have o:(2:Int)^(64*k+(FC<|w.getD k 0).toNat)<=2^1800:=AQ af ae;exact zz j<|Int.le_trans m o
 have i:=zz key xW;unfold EP NX;rw[w9];have:(vI a).natAbs<10^600:=by
  rw[Ak]at i;have e:=Yu 600;rw[<-e]at i;exact yr.mp i
 have:=En this af;omega
end Go.Sp
namespace Go.Pe
open Sp
open Go.Det
theorem yL:CX XX0:=fun g sp h=>by cases h
theorem T174.ok:Af A8 174 TZ:=by
 refine BR yL<|fun(i:Z×Z) a=>?_;obtain⟨s,t⟩:=i;have a:(decide (t=[45])&&decide (s.length<=1000000))=true:=a;rw[zf,w5,w5]at a;obtain⟨rfl,hl⟩:=a;have b:∀v ob,v=A9 s->Ad TZ (s,[45]) (.dat .str v) ob:=fun v ob h=>ye rfl rfl h
 refine zt (T174.Aj s [45]) ?_;conv=>zeta
 cases s with
 |nil=>exact zl rfl (zg<|b _ _ rfl)
 |cons c r=>
  have j:Int.toNat (([(45:UInt8)].length:Nat):Int)=1:=rfl;have g:y8 1 (c::r)=[c]:=rfl;have k:y8 (zy (c::r).length 1) (qp 1 (c::r))=r:=zr<|yv _;have f:(c::r).getD 0 0=c:=rfl;rw[j,g,k];refine zd (w4<|by simp;omega) (zd (by simp)<|z6 (fun d=>zd (by simp)<|zg<|b _ _ ?_)<|fun d=>zg<|b _ _ ?_)
  ·have e:c=45:=by simpa using d
   unfold A9;rw[f,wd e];rfl
  ·have e:c≠45:=by simpa using d
   unfold A9;rw[f,wc e]
theorem wI:CX XX1:=Aa (T179.ok FU)<|Aa T228.ok AE
theorem vC{a:AK}(h:Bh a=true):(BC<|Ah<|zo a).length<=9000:=by
 have b:=bounds h;have h0:=AJ<|zo a;refine Oy Ap af 9000 _ _ ?_;have e:((Ap^9000:Nat):Int)=(Ap:Int)^9000:=S5 9000;rw[<-e]at b;generalize Ap^9000=P at*;omega
theorem T210.ok:Af A8 210 qB:=by
 refine BR wI<|fun(a:Int×List Int) d=>?_;have d:Bh a=true:=d;have k:=(Cc d).1;have m:=vC d;have f:=F6 (b:=Ap) af<|Ah<|zo a;have f:Az Ap (BC<|Ah<|zo a):=f;have e:∀v ob,v=Ro a->Ad qB a (.dat i64 v) ob:=fun v ob h=>ye rfl rfl h
 unfold Ro at e;refine zt (T210.Aj a)<|zd k ?_;generalize BC (Ah<|zo a)=w at*;refine z6 (fun c=>zg<|e _ _ ?_)<|fun c=>?_
 ·have:w=[]:=y9.1 (by have:(w.length:Int)=0:=(by simpa using c);omega);rw[wd this]
 ·have c:(w.length:Int)≠0:=by simpa using c
  have i:w≠[]:=by rintro rfl;exact c rfl
  have g:=AZ f<|w.length-1;have j:zc .i64 ((w.length:Int)-1)=((w.length-1:Nat):Int):=by rw[wr _ ae ae];omega
  have l:=Uq (Sp.A5 g).1 (Sp.A5 g).2;rw[j,zj,wr (64*_) ae ae,wr _ ae ae];refine zd (ad ae ae)<|zd g<|zg<|e _ _ ?_;rw[wc i];omega
theorem nQ:CX AdZ:=Aa T210.ok<|Aa (T185.ok pC)<|Aa T174.ok AE
theorem mT(n:Int):A9 (AY n)=zh n.natAbs:=(DA n).2.1
theorem Rk{a:AK}(h:Bh a=true):(AY<|zo a).length<=180001:=by
 have c:=bounds h;have b:=Ak<|zo a;have d:(zh (zo a).natAbs).length<=180000:=HV ⟨by rw[<-b];exact c⟩;unfold AY qm;split
 ·rw[ya];omega
 ·rw[show(zo a).toNat=(zo a).natAbs by omega];omega
theorem T184.ok:Af A8 184 aM:=by
 refine BR nQ<|fun(a:Int×List Int) b=>?_;have b:Bh a=true:=b;have f:=Rk b;have e:∀v ob,v=EP a->Ad aM a (.dat .bool v) ob:=fun v ob h=>ye rfl rfl h
 have d:∀v ob,v=EP a->Ad aM a (.bl v) ob:=fun v ob h=>ye rfl rfl h
 refine zt (T184.Aj a) (zd b<|z6 (fun c=>zd b<|zd (Ab (w4 rfl)<|w4<|by show(AY<|zo a).length<=1000000;omega)<|zg<|e _ _ ?_)<|fun c=>zg<|d _ _ ?_)
 ·show decide (((A9<|AY<|zo a).length:Int)>600)=EP a;rw[mT];unfold EP NX;rw[decide_eq_decide];omega
 ·have c:=w7 c;have c:¬Ro a>1800:=c;exact(yF ae).symm
theorem qN{a:AK}(h:N6 a=true):Bh a=true:=by
 unfold N6 at h;rw[zf,w5]at h;unfold Bh;rw[h.1,yd];exact w4 ae
theorem gK{a:Ag}(h:Sp.Cw a=true):Bh a.1=true/\Bh a.2=true:=by
 unfold Sp.Cw at h;rw[zf]at h;exact⟨qN h.1,qN h.2⟩
theorem ZG:CX XX2:=Aa T184.ok<|Aa T138.ok<|Aa (T185.ok pC) AE
theorem T134.ok:Af A8 134 Zv:=by
 refine BR ZG<|fun(a:(Int×List Int)×(Int×List Int)) ha=>?_;obtain⟨b,d⟩:=gK (a:=a) ha;refine zt (T134.Aj a)<|zd b<|z6 (fun c=>zg<|ye rfl rfl ?_)<|fun c=>zd d<|zg<|ye rfl rfl ?_
 ·have c:EP a.1=true:=c;show true=(EP a.1||EP a.2);rw[c];rfl
 ·have c:EP a.1=false:=c;show EP a.2=(EP a.1||EP a.2);rw[c];rfl
theorem T135.ok:Af A8 135 lF:=by
 refine BR ZG<|fun(a:(Int×List Int)×(Int×List Int)) ha=>?_;obtain⟨b,d⟩:=gK (a:=a) ha;have l1:=Rk b;have e:=Rk d;refine zt (T135.Aj a) (zd rfl (z6 (fun c=>zd b<|zg<|ye rfl rfl ?_)<|fun c=>zd b<|zd (w4<|by show(AY<|zo a.1).length+1<=_;omega)<|zd d<|zd (w4<|by rw[zp,List.length_singleton];show(AY<|zo a.1).length+1+(AY<|zo a.2).length<=_;omega)<|zg<|ye rfl rfl ?_))
 ·have c:C8 a.2=true:=c;show AY (zo a.1)=Ku a;unfold Ku;rw[wd c]
 ·have c:C8 a.2=false:=c;show AY (zo a.1)++[47]++AY (zo a.2)=Ku a;unfold Ku;rw[wc (by rw[c];decide),List.append_assoc];rfl
theorem aN:CX XX3:=Aa T122.ok<|Aa T161.ok AE
namespace T171
theorem Ar{Q:PV->Ob->Prop}(l:List Z)(n:l.length<=1000)(b:∀s∈l,s.length<=1000000):∀(r:List Z) (i:Nat),l.drop i=r->i<=l.length->(∀ob,Q (.dat i64<|EY r) ob)->Ends XX3 (L1 l (l.length:Int) (i:Int)) Q
 |[],i,h,e,a=>by
  have:=drop_nil h e;exact yj (Al ..) (zl (w8 ae)<|zg<|a _)
 |x::r,i,h,e,a=>by
  obtain⟨f,g,m⟩:=drop_cons (d:=([]:Z)) h;have j:x∈l:=List.mem_of_mem_drop (by rw[h];exact List.mem_cons_self ..);have k:=wn (i:=i) ae;unfold EY at a;refine yj (Al ..) ?_;conv=>zeta
  rw[zj,g,k];refine zd (w4 ae) (zd (ad ae ae)<|zd (w4<|b x j)<|z6 (fun c=>zg ?_)<|fun c=>Ar l n b r (i+1) m f ?_)
  ·have c:Ao x≠0:=by simpa using c
   rw[wd c]at a;exact a _
  ·have c:Ao x=0:=by simpa using c
   rw[wc<|by rw[c];decide]at a;exact a
theorem ok:Af A8 171 ZN:=by
 refine BR aN<|fun(l:List Z) a=>?_;have a:(decide (l.length<=1000)&&l.all fun s=>decide (s.length<=1000000))=true:=a;rw[zf,w5,List.all_eq_true]at a;exact zt (Aj l)<|Ar l a.1 (fun s h=>w6<|a.2 s h) l 0 rfl (Nat.zero_le _) (fun ob=>ye rfl rfl rfl)
end T171
theorem T115.ok:Af A8 115 jQ:=by
 refine BR aN<|fun(a:(Int×List Int)×(Int×List Int)) ha=>?_;exact zt (T115.Aj a)<|zd ha<|zg<|ye rfl rfl rfl
theorem T103.ok:Af A8 103 cF:=by
 refine BR HL<|fun(n:Int) _=>?_;exact zt (T103.Aj n)<|zd rfl (zd rfl (zg<|ye rfl rfl rfl))
theorem AbW{f:Ag}{q:Rat}(h:Fk f q){e:Int}(a:e=0):(Pn f,PL f)=(fD e q,fG e q):=by
 rw[a,(Z7 h).1,(Z7 h).2]
theorem Fk.div{f g:Ag}{p q:Rat}(c:Fk f p)(b:Fk g q)(sp:Mt 4000 p)(d:Mt 4000 q)(a:Mt 4000 q⁻¹)(h0:q≠0):Fk (K1 f g) (p/q):=by
 rw[Rat.div_def];exact Fk.mul c (Fk.inv b d h0) sp a
theorem JS(x y:Int):y7 [x,y]=if x≠0 then x else y:=by
 by_cases h:x≠0
 ·rw[wd h];unfold y7
  simp[h]
 ·rw[wc h];have h:x=0:=ae
  subst h;unfold y7 y7 y7
  simp;intro k;exact k.symm
theorem vE(n:Int):Co n=[]:=by unfold Co;split<;>rfl
theorem HM{n:Int}(h:Cn n=true):Bh (n,Co n)=true/\zo (n,Co n)=n:=by
 rw[vE];have hr:=EG h;refine⟨?_,Br rfl⟩;unfold Bh;rw[show Sp.Dt (n,([]:List Int))=true from LY h,yd];rfl
theorem Ac0(n:Int)(h:Cn n=true):Fk ((n,Co n),(1,Co 1)) (n:Rat):=by
 obtain⟨a,b⟩:=HM h;obtain⟨h3,h4⟩:=HM (n:=1) rfl;exact⟨(Cc a).1,(Cc h3).1,b.trans (Rat.num_intCast n).symm,h4.trans rfl⟩
section
open List Int Prod
namespace T33
def T(a b:Z):Tr:=tree yS false 9 33<|Ae ([ze,ze]) (a,b)
def L1(v0 v1:Z):Tr:=re ((T [] []).L.L.L.R)<|Aw 63 [(0,.dat ze v0),(1,.dat ze v1)] [] 0
theorem Aj(a b:Z):T a b=let c:=zc .i64<|zc .i64 (gX a*UW b)+zc .i64 (gX b*UW a);let b':=zc .i64<|UW a*UW b;.ck (Be a) (.ck (Be b)<|.ite (Eo a) (.ite (Eo b) (.ck (Cn c&&Cn b'&&decide (zc .i64 (UW a*UW b)≠0))<|.leaf (.dat ze<|CT c b') [])<|L1 a b)<|L1 a b):=by kernel_rfl
theorem Al(v0 v1:Z):stepT yS (L1 v0 v1)=let b':=(HQ (BY v0,BN v0) (Bv v1,Bm v1),H3 (BY v0,BN v0) (Bv v1,Bm v1));let b:=(HQ (BY v1,BN v1) (Bv v0,Bm v0),H3 (BY v1,BN v1) (Bv v0,Bm v0));let a:=(HQ (Bv v0,Bm v0) (Bv v1,Bm v1),H3 (Bv v0,Bm v0) (Bv v1,Bm v1));let c:=(Nx b' b,NW b' b);.ck (DR v0) (.ck (DR v1)<|.ck (CA (BY v0,BN v0)&&CA (Bv v1,Bm v1))<|.ck (CA (BY v1,BN v1)&&CA (Bv v0,Bm v0))<|.ck (CA b'&&CA b)<|.ck (CA (Bv v0,Bm v0)&&CA (Bv v1,Bm v1))<|.ck (CA c&&CA a&&decide (Sp.vR a≠0))<|.leaf (.dat ze<|IA c a) []):=by kernel_rfl
end T33
namespace T34
def T(a b:Z):Tr:=tree yS false 9 34<|Ae ([ze,ze]) (a,b)
def L1(v0 v1:Z):Tr:=re ((T [] []).L.L.L.R)<|Aw 55 [(0,.dat ze v0),(1,.dat ze v1)] [] 0
theorem Aj(a b:Z):T a b=let c:=zc .i64<|gX a*gX b;let b':=zc .i64<|UW a*UW b;.ck (Be a) (.ck (Be b)<|.ite (Eo a) (.ite (Eo b) (.ck (Cn c&&Cn b'&&decide (zc .i64 (UW a*UW b)≠0))<|.leaf (.dat ze<|CT c b') [])<|L1 a b)<|L1 a b):=by kernel_rfl
theorem Al(v0 v1:Z):stepT yS (L1 v0 v1)=let a:=(HQ (Bv v0,Bm v0) (Bv v1,Bm v1),H3 (Bv v0,Bm v0) (Bv v1,Bm v1));let b':=(HQ (BY v0,BN v0) (BY v1,BN v1),H3 (BY v0,BN v0) (BY v1,BN v1));.ck (DR v0) (.ck (DR v1)<|.ck (CA (BY v0,BN v0)&&CA (BY v1,BN v1))<|.ck (CA (Bv v0,Bm v0)&&CA (Bv v1,Bm v1))<|.ck (CA b'&&CA a&&decide (Sp.vR a≠0))<|.leaf (.dat ze<|IA b' a) []):=by kernel_rfl
end T34
namespace T147
def T(a:Z):Tr:=tree yS false 9 147<|Ae ([ze]) a
theorem Aj(a:Z):T a=.ck (DR a) (.ck (CA (Bv a,Bm a)&&CA (BY a,BN a)&&decide (Sp.vR (BY a,BN a)≠0))<|.leaf (.dat ze<|IA (Bv a,Bm a) (BY a,BN a)) []):=by kernel_rfl
end T147
namespace T37
def T(a b:Z):Tr:=tree XR7 false 9 37<|Ae ([ze,ze]) (a,b)
theorem Aj(a b:Z):T a b=.cd (length b<=1000000) (.ck (Be a&&Be (Lx b))<|.leaf (.dat ze<|CC a<|Lx b) []):=by kernel_rfl
end T37
namespace T82
def T(a b:Z):Tr:=tree XR7 false 9 82<|Ae ([ze,ze]) (a,b)
theorem Aj(a b:Z):T a b=.ck (aE b) (.ck (Be a&&Be (RJ b))<|.leaf (.dat ze<|FH a<|RJ b) []):=by kernel_rfl
end T82
namespace T36
def T(a b:Z):Tr:=tree XR8 false 9 36<|Ae ([ze,ze]) (a,b)
theorem Aj(a b:Z):T a b=.ck (Be a&&Df b) (.cd (length (G7 a b)<=1000000)<|.leaf (.dat i64<|FT<|G7 a b) []):=by kernel_rfl
end T36
namespace T148
def T(a:Z):Tr:=tree XR8 false 9 148<|Ae ([ze]) a
theorem Aj(a:Z):T a=.cd (length a<=1000000) (.leaf (.dat zk<|A0 a==(length a:Int)) []):=by kernel_rfl
end T148
namespace T80
def T(a:Z):Tr:=tree XR8 false 9 80<|Ae ([ze]) a
theorem Aj(a:Z):T a=let b:=decide (length a<=1000000);let b':Tr:=.leaf (.dat i64 (4:Int)) [];.ck b (.cd (length (AB a)<=1000000)<|.di ((↑(length<|A9<|AB a):Int)>600) b'<|.ck b<|.di ((↑(length<|T1 a):Int)>600) b'<|.leaf (.dat i64 (0:Int)) []):=by kernel_rfl
end T80
namespace T85
def T(a:Z):Tr:=tree XR9 false 9 85<|Ae ([ze]) a
theorem Aj(a:Z):T a=let b:=(Ju (BY a,BN a) (Bv a,Bm a),Jo (BY a,BN a) (Bv a,Bm a));.cd (length a<=1000000) (.ite (KL a) (.leaf (.dat ze a) [])<|.ck (DR a)<|.ck (CA (BY a,BN a)&&CA (Bv a,Bm a)&&decide (0<Sp.vR (Bv a,Bm a)))<|.ck (CA b)<|.leaf (.dat ze<|FQ b) []):=by kernel_rfl
end T85
namespace T195
def T(a:List Int)(i:Int):Tr:=tree XR0 false 9 195<|Ae ([zi i64,qk z8]) (a,i)
theorem Aj(a:List Int)(i:Int):T a i=.di (i<(length a:Int)) (.ck (decide (0<=i)&&decide (i<(length a:Int)))<|.leaf (.dat i64<|getD a (toNat i) 0) []) (.leaf (.dat i64 (0:Int)) []):=by kernel_rfl
end T195
namespace T156
def T(a b:List Int):Tr:=tree WR false 9 156<|Ae ([zi i64,zi i64]) (a,b)
def L1(v0 v1:List Int)(b a:Int):Tr:=re ((T [] []))<|Aw 42 [(0,.dat (zi i64) v0),(1,.dat (zi i64) v1),(5,.nil),(6,.dat i64 b),(7,.dat i64 a)] [] 0
theorem Aj(a b:List Int):T a b=L1 a b 0 0:=by kernel_rfl
def L2(v0 v1:List Int)(a:Nat)(b c:Int)(d:List Int):Tr:=re ((stepT WR<|L1 [] [] 0 0).L.L.L.L.L.L)<|Aw 42 [(0,.dat (zi i64) v0),(1,.dat (zi i64) v1),(5,.sl 0 1 0 a none),(6,.dat i64 b),(7,.dat i64 c)] [(0,.arr false 3 i64 d)] 1
theorem Al(v0 v1:List Int)(b a:Int):stepT WR (L1 v0 v1 b a)=.di (a<(length v0:Int)) (.cd (0<=a)<|.cd (0<=a)<|.ck true<|.ck (aa 8)<|.ck true<|L2 v0 v1 1 (zc .i64<|yk (zc .i64<|zc .i64 (IB v0 a+IB v1 a)+b) 1000000000) (zc .i64<|a+1)<|[zu (zc .i64<|zc .i64 (IB v0 a+IB v1 a)+b) 1000000000]) (.di (a<(length v1:Int)) (.cd (0<=a)<|.cd (0<=a)<|.ck true<|.ck (aa 8)<|.ck true<|L2 v0 v1 1 (zc .i64<|yk (zc .i64<|zc .i64 (IB v0 a+IB v1 a)+b) 1000000000) (zc .i64<|a+1)<|[zu (zc .i64<|zc .i64 (IB v0 a+IB v1 a)+b) 1000000000])<|.di (b>0) (.cd (0<=a)<|.cd (0<=a)<|.ck true<|.ck (aa 8)<|.ck true<|L2 v0 v1 1 (zc .i64<|yk (zc .i64<|zc .i64 (IB v0 a+IB v1 a)+b) 1000000000) (zc .i64<|a+1)<|[zu (zc .i64<|zc .i64 (IB v0 a+IB v1 a)+b) 1000000000])<|.leaf .nil []):=by kernel_rfl
theorem AG(v0 v1:List Int)(b:Nat)(c a:Int)(d:List Int):stepT WR (L2 v0 v1 b c a d)=.di (a<(length v0:Int)) (.cd (0<=a)<|.cd (0<=a)<|.ck true<|.ck (ac b (length d) 8)<|.ck true<|L2 v0 v1 (qn b 1) (zc .i64<|yk (zc .i64<|zc .i64 (IB v0 a+IB v1 a)+c) 1000000000) (zc .i64<|a+1)<|d++[zu (zc .i64<|zc .i64 (IB v0 a+IB v1 a)+c) 1000000000]) (.di (a<(length v1:Int)) (.cd (0<=a)<|.cd (0<=a)<|.ck true<|.ck (ac b (length d) 8)<|.ck true<|L2 v0 v1 (qn b 1) (zc .i64<|yk (zc .i64<|zc .i64 (IB v0 a+IB v1 a)+c) 1000000000) (zc .i64<|a+1)<|d++[zu (zc .i64<|zc .i64 (IB v0 a+IB v1 a)+c) 1000000000])<|.di (c>0) (.cd (0<=a)<|.cd (0<=a)<|.ck true<|.ck (ac b (length d) 8)<|.ck true<|L2 v0 v1 (qn b 1) (zc .i64<|yk (zc .i64<|zc .i64 (IB v0 a+IB v1 a)+c) 1000000000) (zc .i64<|a+1)<|d++[zu (zc .i64<|zc .i64 (IB v0 a+IB v1 a)+c) 1000000000])<|.leaf (.sl 0 1 0 b none)<|[(0,.arr false 3 i64 d)]):=by kernel_rfl
end T156
namespace T158
def T(a b:List Int):Tr:=tree WR false 9 158<|Ae ([zi i64,zi i64]) (a,b)
def L1(v0 v1:List Int)(b a:Int):Tr:=re ((T [] []))<|Aw 35 [(0,.dat (zi i64) v0),(1,.dat (zi i64) v1),(5,.nil),(6,.dat i64 b),(7,.dat i64 a)] [] 0
theorem Aj(a b:List Int):T a b=L1 a b 0 0:=by kernel_rfl
def L2(v0 v1:List Int)(a:Nat)(b c:Int)(d:List Int):Tr:=re ((stepT WR<|L1 [] [] 0 0).L.L.L.L.L)<|Aw 35 [(0,.dat (zi i64) v0),(1,.dat (zi i64) v1),(5,.sl 0 1 0 a none),(6,.dat i64 b),(7,.dat i64 c)] [(0,.arr false 3 i64 d)] 1
theorem Al(v0 v1:List Int)(b a:Int):stepT WR (L1 v0 v1 b a)=.di (a<(length v0:Int)) (.ck (decide (0<=a)&&decide (a<(length v0:Int)))<|.cd (0<=a)<|.di (zc .i64 (zc .i64 (getD v0 (toNat a) 0-IB v1 a)-b)<0) (.ck (aa 8)<|L2 v0 v1 1 1 (zc .i64<|a+1)<|[zc .i64<|zc .i64 (zc .i64 (getD v0 (toNat a) 0-IB v1 a)-b)+1000000000])<|.ck (aa 8)<|L2 v0 v1 1 0 (zc .i64<|a+1)<|[zc .i64<|zc .i64 (getD v0 (toNat a) 0-IB v1 a)-b]) (.ck true<|.leaf (.dat (zi i64)<|Ay []) []):=by kernel_rfl
theorem AG(v0 v1:List Int)(a:Nat)(d b:Int)(c:List Int):stepT WR (L2 v0 v1 a d b c)=.di (b<(length v0:Int)) (.ck (decide (0<=b)&&decide (b<(length v0:Int)))<|.cd (0<=b)<|.di (zc .i64 (zc .i64 (getD v0 (toNat b) 0-IB v1 b)-d)<0) (.ck (ac a (length c) 8)<|L2 v0 v1 (qn a 1) 1 (zc .i64<|b+1)<|c++[zc .i64<|zc .i64 (zc .i64 (getD v0 (toNat b) 0-IB v1 b)-d)+1000000000])<|.ck (ac a (length c) 8)<|L2 v0 v1 (qn a 1) 0 (zc .i64<|b+1)<|c++[zc .i64<|zc .i64 (getD v0 (toNat b) 0-IB v1 b)-d]) (.ck (decide (0+a<=length c)&&true&&decide (length (take a c)<=20000))<|.leaf (.dat (zi i64)<|Ay<|take a c) []):=by kernel_rfl
end T158
namespace T94
def T(a b:Bool×List Int):Tr:=tree XR2 false 9 94<|Ae ([yi zk<|zi i64,yi zk<|zi i64]) (a,b)
theorem Aj(a b:Bool×List Int):T a b=.ite (fst a==fst b) (.ck (kR (snd a)<|snd b)<|.cd (length (Io (snd a)<|snd b)<=20000)<|.leaf (qf [.dat zk<|CM (fst a)<|Io (snd a)<|snd b,.dat (zi i64)<|Ay<|Io (snd a)<|snd b]) []) (.ck (Bb (snd a)&&Bb (snd b))<|.di (Ck (An<|snd a) (An<|snd b)>=0) (.ck (kR (snd a) (snd b)&&decide (An (snd b)<=An (snd a)))<|.cd (length (I5 (snd a)<|snd b)<=20000)<|.leaf (qf [.dat zk<|CM (fst a)<|I5 (snd a)<|snd b,.dat (zi i64)<|Ay<|I5 (snd a)<|snd b]) [])<|.ck (kR (snd b) (snd a)&&decide (An (snd a)<=An (snd b)))<|.cd (length (I5 (snd b)<|snd a)<=20000)<|.leaf (qf [.dat zk<|CM (fst b)<|I5 (snd b)<|snd a,.dat (zi i64)<|Ay<|I5 (snd b)<|snd a]) []):=by kernel_rfl
end T94
namespace T95
def T(a b:Bool×List Int):Tr:=tree XR2 false 9 95<|Ae ([yi zk<|zi i64,yi zk<|zi i64]) (a,b)
theorem Aj(a b:Bool×List Int):T a b=.ck (Sp.hR (snd a)&&Sp.hR (snd b)) (.cd (length (BS<|An (snd a)*An (snd b))<=20000)<|.leaf (qf [.dat zk<|CM (!fst a==fst b)<|BS<|An (snd a)*An (snd b),.dat (zi i64)<|Ay<|BS<|An (snd a)*An (snd b)]) []):=by kernel_rfl
end T95
namespace T153
def T(a:Bool×List Int):Tr:=tree XR2 false 9 153<|Ae ([yi zk<|zi i64]) a
theorem Aj(a:Bool×List Int):T a=.cd (length (snd a)<=20000) (.leaf (qf [.dat zk<|CM (!fst a)<|snd a,.dat (zi i64)<|Ay<|snd a]) []):=by kernel_rfl
end T153
namespace T150
def T(a b:Bool×List Int):Tr:=tree XR2 false 9 150<|Ae ([yi zk<|zi i64,yi zk<|zi i64]) (a,b)
theorem Aj(a b:Bool×List Int):T a b=.ck (Bb (snd a)&&Bb (snd b)&&decide (length (snd a)<=9000)&&decide (length (snd b)<=9000)&&decide (0<An (snd b))) (.ite (fst a) (.di ((↑(length<|BS<|An (snd a) % An (snd b)):Int)>0) (.ck (kR (BS<|An (snd a)/An (snd b)) [1])<|.cd (length (Io (BS<|An (snd a)/An (snd b)) [1])<=20000)<|.leaf (qf [.dat zk<|CM (fst a)<|Io (BS<|An (snd a)/An (snd b)) [1],.dat (zi i64)<|Ay<|Io (BS<|An (snd a)/An (snd b)) [1]]) [])<|.cd (length (BS<|An (snd a)/An (snd b))<=20000)<|.leaf (qf [.dat zk<|CM (fst a)<|BS<|An (snd a)/An (snd b),.dat (zi i64)<|Ay<|BS<|An (snd a)/An (snd b)]) [])<|.cd (length (BS<|An (snd a)/An (snd b))<=20000)<|.leaf (qf [.dat zk<|CM (fst a)<|BS<|An (snd a)/An (snd b),.dat (zi i64)<|Ay<|BS<|An (snd a)/An (snd b)]) []):=by kernel_rfl
end T150
namespace T96
def T(a:Bool×List Int):Tr:=tree XR3 false 9 96<|Ae ([yi zk<|zi i64]) a
def L1(v3:Z)(v4:Int)(b:Bool)(a:List Int):Tr:=re ((T (false,[])).R.L.L)<|Aw 39 [(1,.ptr 0 0),(3,.dat ze v3),(4,.dat i64 v4)] [(0,.box [.dat zk b,.dat (zi i64) a])] 1
theorem Aj(a:Bool×List Int):T a=.ite ((↑(length<|snd a):Int)==0) (.leaf (.dat ze [(48:UInt8)]) []) (.ck (decide (0<=zc .i64 ((↑(length<|snd a):Int)-1))&&decide (zc .i64 ((↑(length<|snd a):Int)-1)<(↑(length<|snd a):Int)))<|.ck (decide (0<=getD (snd a) (toNat<|zc .i64<|(↑(length<|snd a):Int)-1) 0)&&decide (getD (snd a) (toNat<|zc .i64<|(↑(length<|snd a):Int)-1) 0<9223372036854775808)&&decide (0<=1)&&decide (1<=20))<|L1 (IG (getD (snd a) (toNat<|zc .i64<|(↑(length<|snd a):Int)-1) 0) 1) (zc .i64<|(↑(length<|snd a):Int)-2) (fst a)<|snd a):=by kernel_rfl
theorem Al(v3:Z)(v4:Int)(b:Bool)(a:List Int):stepT XR3 (L1 v3 v4 b a)=.di (v4>=0) (.ck (decide (0<=v4)&&decide (v4<(length a:Int)))<|.ck (decide (0<=getD a (toNat v4) 0)&&decide (getD a (toNat v4) 0<9223372036854775808)&&decide (0<=9)&&decide (9<=20))<|.cd (length v3+length (IG (getD a (toNat v4) 0) 9)<=4611686018427387904)<|L1 (v3++IG (getD a (toNat v4) 0) 9) (zc .i64<|v4-1) b a) (.ite b (.cd (1+length v3<=4611686018427387904)<|.leaf (.dat ze<|[(45:UInt8)]++v3) [])<|.leaf (.dat ze v3) []):=by kernel_rfl
end T96
namespace T93
def T(a b:Bool×List Int):Tr:=tree qU false 9 93<|Ae ([yi zk<|zi i64,yi zk<|zi i64]) (a,b)
def L1(o1:Bool)(a:List Int)(c:Bool)(b:List Int):Tr:=re ((T (false,[]) (false,[])).L.L.L)<|Aw 57 [(2,.ptr 0 0),(3,.ptr 1 0)] [(1,.box [.dat zk o1,.dat (zi i64) a]),(0,.box [.dat zk c,.dat (zi i64) b])] 2
theorem Aj(a b:Bool×List Int):T a b=.ite (fst b) (.ck (CA a)<|.ck (CA b)<|L1 (UH b) (SL b) (UH a)<|SL a) (L1 (fst b) (snd b) (fst a)<|snd a):=by kernel_rfl
def L2(b:List Int)(a:Z):Tr:=re ((stepT qU<|L1 false [] false []).L.L.L.L.L)<|Aw 57 [(8,.dat (zi i64) b),(10,.dat ze a)] [] 0
theorem Al(o1:Bool)(b:List Int)(c:Bool)(a:List Int):stepT qU (L1 o1 b c a)=.ck (Bb a&&Bb b&&decide (length a<=9000)&&decide (length b<=9000)) (.ck (Bb a&&Bb (CF a b)&&decide (length a<=9000)&&decide (length (CF a b)<=9000)&&decide (0<An (CF a b)))<|.ck (Bb b&&Bb (CF a b)&&decide (length b<=9000)&&decide (length (CF a b)<=9000)&&decide (0<An (CF a b)))<|.cd (length (BS<|An a/An (CF a b))<=20000)<|.ck (CA (CM c<|BS<|An a/An (CF a b),Ay<|BS<|An a/An (CF a b)))<|L2 (BS<|An b/An (CF a b))<|FQ (CM c<|BS<|An a/An (CF a b),Ay<|BS<|An a/An (CF a b))):=by kernel_rfl
def L3(b:List Int)(a:Z):Tr:=re ((stepT qU<|L2 [] []).L.L.R)<|Aw 57 [(8,.dat (zi i64) b),(10,.dat ze a)] [] 0
theorem AG(b:List Int)(a:Z):stepT qU (L2 b a)=.ite ((length b:Int)==1) (.cd (0<(length b:Int))<|.ite (getD b 0 0==1) (.leaf (.dat ze a) [])<|L3 b a) (L3 b a):=by kernel_rfl
theorem BA(b:List Int)(a:Z):stepT qU (L3 b a)=.cd (length a+1<=4611686018427387904) (.cd (length b<=20000)<|.ck (CA (CM false b,Ay b))<|.cd (length (a++[(47:UInt8)])+length (FQ (CM false b,Ay b))<=4611686018427387904)<|.leaf (.dat ze<|a++[(47:UInt8)]++FQ (CM false b,Ay b)) []):=by kernel_rfl
end T93
namespace T40
def T(n d:Int):Tr:=tree fC false 9 40<|Ae ([qk z8,qk z8]) (n,d)
def L1(v0 v1:Int):Tr:=re ((T 0 0).R.R.R.R)<|Aw 61 [(0,.dat i64 v0),(1,.dat i64 v1)] [] 0
theorem Aj(n d:Int):T n d=.di (n<(-4000000000000000000)) (.ck (Cn n)<|.ck (Cn d)<|.ck (CA (ym n,yn n)&&CA (ym d,yn d)&&decide (Sp.vR (ym d,yn d)≠0))<|.leaf (.dat ze<|IA (ym n,yn n) (ym d,yn d)) []) (.di (n>4000000000000000000) (.ck (Cn n)<|.ck (Cn d)<|.ck (CA (ym n,yn n)&&CA (ym d,yn d)&&decide (Sp.vR (ym d,yn d)≠0))<|.leaf (.dat ze<|IA (ym n,yn n) (ym d,yn d)) [])<|.di (d<(-4000000000000000000)) (.ck (Cn n)<|.ck (Cn d)<|.ck (CA (ym n,yn n)&&CA (ym d,yn d)&&decide (Sp.vR (ym d,yn d)≠0))<|.leaf (.dat ze<|IA (ym n,yn n) (ym d,yn d)) [])<|.di (d>4000000000000000000) (.ck (Cn n)<|.ck (Cn d)<|.ck (CA (ym n,yn n)&&CA (ym d,yn d)&&decide (Sp.vR (ym d,yn d)≠0))<|.leaf (.dat ze<|IA (ym n,yn n) (ym d,yn d)) [])<|L1 n d):=by kernel_rfl
def L2(v0 v1:Int):Tr:=re ((stepT fC<|L1 0 0).L)<|Aw 61 [(0,.dat i64 v0),(1,.dat i64 v1)] [] 0
theorem Al(v0 v1:Int):stepT fC (L1 v0 v1)=.di (v1<0) (L2 (zc .i64<|0-v0)<|zc .i64<|0-v1) (L2 v0 v1):=by kernel_rfl
def L3(v0 v1:Int):Tr:=re ((stepT fC<|L2 0 0).L.L.L)<|Aw 61 [(0,.dat i64 v0),(1,.dat i64 v1)] [] 0
theorem AG(v0 v1:Int):stepT fC (L2 v0 v1)=.ck (Adu (imax v0<|zc .i64<|0-v0) v1) (.cd (Sp.gI (imax v0<|zc .i64<|0-v0) v1≠0)<|.cd (Sp.gI (imax v0<|zc .i64<|0-v0) v1≠0)<|L3 (zc .i64<|yk v0<|Sp.gI (imax v0<|zc .i64<|0-v0) v1)<|zc .i64<|yk v1<|Sp.gI (imax v0<|zc .i64<|0-v0) v1):=by kernel_rfl
def L4(v1:Int)(a:Z):Tr:=re ((stepT fC<|L3 0 0).L.L.L)<|Aw 61 [(1,.dat i64 v1),(6,.dat ze a)] [] 0
theorem BA(v0 v1:Int):stepT fC (L3 v0 v1)=.di (v0<0) (.ck (decide (0<=imax v0 (zc .i64<|0-v0))&&decide (imax v0 (zc .i64<|0-v0)<9223372036854775808)&&decide (0<=1)&&decide (1<=20))<|.cd (1+length (IG (imax v0<|zc .i64<|0-v0) 1)<=4611686018427387904)<|L4 v1<|[(45:UInt8)]++IG (imax v0<|zc .i64<|0-v0) 1) (.ck (decide (0<=imax v0 (zc .i64<|0-v0))&&decide (imax v0 (zc .i64<|0-v0)<9223372036854775808)&&decide (0<=1)&&decide (1<=20))<|.cd (0+length (IG (imax v0<|zc .i64<|0-v0) 1)<=4611686018427387904)<|L4 v1<|[]++IG (imax v0<|zc .i64<|0-v0) 1):=by kernel_rfl
theorem Ci(v1:Int)(a:Z):stepT fC (L4 v1 a)=.di (v1>1) (.cd (length a+1<=4611686018427387904)<|.ck (decide (0<=v1)&&decide (v1<9223372036854775808)&&decide (0<=1)&&decide (1<=20))<|.cd (length (a++[(47:UInt8)])+length (IG v1 1)<=4611686018427387904)<|.leaf (.dat ze<|a++[(47:UInt8)]++IG v1 1) []) (.leaf (.dat ze a) []):=by kernel_rfl
end T40
namespace T98
def T(a b:Int):Tr:=tree OJ false 9 98<|Ae ([qk z8,qk z8]) (a,b)
def L1(v0 v1:Int):Tr:=re ((T 0 0))<|Aw 12 [(0,.dat i64 v0),(1,.dat i64 v1)] [] 0
theorem Aj(a b:Int):T a b=L1 a b:=by kernel_rfl
theorem Al(v0 v1:Int):stepT OJ (L1 v0 v1)=.di (v1>0) (.cd (v1≠0)<|L1 v1<|zu v0 v1) (.leaf (.dat i64 v0) []):=by kernel_rfl
end T98
namespace T38
def T(s:Z):Tr:=tree OJ false 9 38<|Ae ([ze]) s
theorem Aj(s:Z):T s=let a:Tr:=.leaf (.dat i64 (1:Int)) [];.ite (s==[(48:UInt8)]) (.leaf (.dat i64 (0:Int)) []) (.di ((length s:Int)>0) (.cd (0<(length s:Int))<|.ite ((↑(UInt8.toNat<|getD s 0 (0:UInt8)):Int)==45) (.leaf (.dat i64 (-1:Int)) []) a) a):=by kernel_rfl
end T38
namespace T84
def T(s:Z):Tr:=tree XO2 false 9 84<|Ae ([ze]) s
theorem Aj(s:Z):T s=let a:=decide (length s<=1000000);.ck a (.di (FT s<0) (.ck (decide (1<=length s)&&decide (length s<=length s))<|.leaf (.dat ze<|take (zy (length s) 1)<|drop 1 s) [])<|.ck a<|.ite (FT s==0) (.leaf (.dat ze s) [])<|.cd (1+length s<=4611686018427387904)<|.leaf (.dat ze<|[(45:UInt8)]++s) []):=by kernel_rfl
end T84
namespace T99
def T(n l:Int):Tr:=tree OJ false 9 99<|Ae ([qk z8,qk z8]) (n,l)
def L1(v0 v1:Int)(v5:Z):Tr:=re ((T 0 0))<|Aw 25 [(0,.dat i64 v0),(1,.dat i64 v1),(5,.dat ze v5)] [] 0
theorem Aj(n l:Int):T n l=L1 n l []:=by kernel_rfl
theorem Al(v0 v1:Int)(v5:Z):stepT OJ (L1 v0 v1 v5)=let a:=zc .i64<|zu v0 10+1;let b:=toNat<|zu v0 10;let b':=drop b [(48:UInt8),49,50,51,52,53,54,55,56,57];let c:Tr:=.ck true<|.ck true<|.ck (decide (0<=zu v0 10)&&decide (0<=zc .i64 (zu v0 10+1))&&decide (toNat (zu v0 10)<=toNat a)&&decide (toNat a<=10))<|.cd (length (take (zy (toNat a) b) b')+length v5<=4611686018427387904)<|.ck true<|L1 (zc .i64<|yk v0 10) v1<|take (zy (toNat a) b) b'++v5;.di (v0>0) c (.di ((length v5:Int)<v1) c<|.leaf (.dat ze v5) []):=by kernel_rfl
end T99
namespace T91
def T(s:Z):Tr:=tree Oq false 9 91<|Ae ([ze]) s
def L1(v5:Z)(a:Bool):Tr:=re ((T []).R.L.L)<|Aw 54 [(5,.dat ze v5),(6,.dat zk a)] [] 0
def L2(v5:Z):Tr:=re ((T []).R.R)<|Aw 54 [(5,.dat ze v5),(6,.bl false)] [] 0
theorem Aj(s:Z):T s=let a:=(length s:Int);.di (a>20) (.leaf (.tup [.dat i64 (0:Int),.dat i64 (0:Int),.bl false]) []) (.di (a>0) (.cd (0<a)<|L1 s<|(↑(UInt8.toNat<|getD s 0 (0:UInt8)):Int)==45)<|L2 s):=by kernel_rfl
def L3(v5:Z)(a:Bool):Tr:=re ((stepT Oq<|L1 [] false).L.L)<|Aw 54 [(5,.dat ze v5),(6,.dat zk a)] [] 0
theorem Al(v5:Z)(a:Bool):stepT Oq (L1 v5 a)=.ite a (.ck (decide (1<=length v5)&&decide (length v5<=length v5))<|L3 (take (zy (length v5) 1)<|drop 1 v5) a) (L3 v5 a):=by kernel_rfl
def L4(v5:Z):Tr:=re ((stepT Oq<|L2 []))<|Aw 54 [(5,.dat ze v5),(6,.bl false)] [] 0
theorem AG(v5:Z):stepT Oq (L2 v5)=L4 v5:=by kernel_rfl
def L5(v5:Z)(b:Bool)(c a v9:Int):Tr:=re ((stepT Oq<|L3 [] false).L.R.R.L.L)<|Aw 54 [(5,.dat ze v5),(6,.dat zk b),(7,.dat i64 c),(8,.dat i64 a),(9,.dat i64 v9)] [] 0
theorem BA(v5:Z)(a:Bool):stepT Oq (L3 v5 a)=let b:Tr:=.leaf (.tup [.dat i64 (0:Int),.dat i64 (0:Int),.bl false]) [];let b':=A0 v5;.cd (length v5<=1000000) (.di (A0 v5>9) b<|.di (zc .i64 ((length v5:Int)-A0 v5)>10) b<|.ck (decide (0<=A0 v5)&&decide (0<=toNat b')&&decide (toNat b'<=length v5))<|.ck (El<|take (toNat b') v5)<|L5 v5 a b' (B2<|take (toNat b') v5) 1):=by kernel_rfl
def L6(v5:Z)(b a v9:Int):Tr:=re ((stepT Oq<|L4 []).L.R.R.L.L)<|Aw 54 [(5,.dat ze v5),(6,.bl false),(7,.dat i64 b),(8,.dat i64 a),(9,.dat i64 v9)] [] 0
theorem Ci(v5:Z):stepT Oq (L4 v5)=let a:Tr:=.leaf (.tup [.dat i64 (0:Int),.dat i64 (0:Int),.bl false]) [];let b':=A0 v5;.cd (length v5<=1000000) (.di (A0 v5>9) a<|.di (zc .i64 ((length v5:Int)-A0 v5)>10) a<|.ck (decide (0<=A0 v5)&&decide (0<=toNat b')&&decide (toNat b'<=length v5))<|.ck (El<|take (toNat b') v5)<|L6 v5 b' (B2<|take (toNat b') v5) 1):=by kernel_rfl
def L7(b:Bool)(a v9:Int):Tr:=re ((stepT Oq<|L5 [] false 0 0 0).L.L.L)<|Aw 54 [(6,.dat zk b),(8,.dat i64 a),(9,.dat i64 v9)] [] 0
theorem EO(v5:Z)(c:Bool)(a b v9:Int):stepT Oq (L5 v5 c a b v9)=let b':=zc .i64<|a+1;let d:=take (zy (length v5)<|toNat b')<|drop (toNat b') v5;.di (a<(length v5:Int)) (.ck (decide (0<=zc .i64 (a+1))&&true&&decide (toNat b'<=length v5)&&decide (length v5<=length v5))<|.ck (El d)<|L7 c b<|B2 d) (L7 c b v9):=by kernel_rfl
def L8(a v9:Int):Tr:=re ((stepT Oq<|L6 [] 0 0 0).L.L.L)<|Aw 54 [(6,.bl false),(8,.dat i64 a),(9,.dat i64 v9)] [] 0
theorem EX(v5:Z)(a b v9:Int):stepT Oq (L6 v5 a b v9)=let b':=zc .i64<|a+1;let c:=take (zy (length v5)<|toNat b')<|drop (toNat b') v5;.di (a<(length v5:Int)) (.ck (decide (0<=zc .i64 (a+1))&&true&&decide (toNat b'<=length v5)&&decide (length v5<=length v5))<|.ck (El c)<|L8 b<|B2 c) (L8 b v9):=by kernel_rfl
theorem D5(b:Bool)(a v9:Int):stepT Oq (L7 b a v9)=.ite b (.leaf (.tup [.dat i64<|zc .i64<|0-a,.dat i64 v9,.bl true]) []) (.leaf (.tup [.dat i64 a,.dat i64 v9,.bl true]) []):=by kernel_rfl
theorem Ho(a v9:Int):stepT Oq (L8 a v9)=.leaf (.tup [.dat i64 a,.dat i64 v9,.bl true]) []:=by kernel_rfl
end T91
namespace T144
def T(a:Z):Tr:=tree OJ false 9 144<|Ae ([ze]) a
theorem Aj(a:Z):T a=let b:Tr:=.ck (decide (1<=length a)&&decide (length a<=length a))<|.leaf (.dat ze<|take (zy (length a) 1)<|drop 1 a) [];let b':Tr:=.ite false b<|.leaf (.dat ze a) [];.ite (a==[(48:UInt8)]) b' (.di ((length a:Int)>0) (.cd (0<(length a:Int))<|.ite ((↑(UInt8.toNat<|getD a 0 (0:UInt8)):Int)==45) (.ite true b<|.leaf (.dat ze a) []) b') b'):=by kernel_rfl
end T144
namespace T145
def T(a:Z):Tr:=tree XM5 false 9 145<|Ae ([ze]) a
theorem Aj(a:Z):T a=.cd (length a<=1000000) (.ck (decide (0<=A0 a)&&decide (0<=toNat (A0 a))&&decide (toNat (A0 a)<=length a))<|.leaf (.dat ze<|take (toNat<|A0 a) a) []):=by kernel_rfl
end T145
namespace T146
def T(a:Z):Tr:=tree XM5 false 9 146<|Ae ([ze]) a
theorem Aj(a:Z):T a=let b:=zc .i64<|A0 a+1;.cd (length a<=1000000) (.ite (A0 a==(length a:Int)) (.leaf (.dat ze [(49:UInt8)]) [])<|.ck (decide (0<=zc .i64 (A0 a+1))&&true&&decide (toNat b<=length a)&&decide (length a<=length a))<|.leaf (.dat ze<|take (zy (length a)<|toNat b)<|drop (toNat b) a) []):=by kernel_rfl
end T146
end
theorem Zw:CX XM5:=Aa T128.ok AE
theorem T144.ok:Af A8 144 lG:=by
 refine BR Fh<|fun(a:Z) i=>?_;have i:a.length<=1000000:=w6 i;have b:∀s ob,s=A9 a->Ad lG a (.dat .str s) ob:=fun s ob h=>ye rfl rfl h
 refine zt (T144.Aj a)<|z6 (fun c=>zl rfl (zg<|b _ _ ?_))<|fun c=>?_
 ·have c:a=[48]:=by simpa using c
  subst c;rfl
 ·cases a with
  |nil=>exact zl rfl (zl rfl (zg<|b _ _ rfl))
  |cons x r=>
   have g:(x::r).getD 0 0=x:=rfl;have e:(qp 1 (x::r)).take (zy (x::r).length 1)=r:=by show r.take ((r.length+1)-1)=r;rw[yh];exact List.take_length
   rw[g,e];refine zd (by simp) (zd (by simp)<|z6 (fun d=>zd rfl (zd (by simp)<|zg<|b _ _ ?_))<|fun d=>zl rfl (zg<|b _ _ ?_))
   ·have f:x=45:=by
     have:(x.toNat:Int)=45:=by simpa using d
     exact UInt8.toNat_inj.1 (by show _=45;omega)
    unfold A9;rw[g,wd f];rfl
   ·have f:x≠45:=by rintro rfl;exact wh d af
    unfold A9;rw[g,wc f]
theorem T145.ok:Af A8 145 zB:=by
 refine BR Zw<|fun(a:Z) hl=>?_;have b:=(T122.DH a).1;refine zt (T145.Aj a)<|zd hl ?_;rw[show A0 a=((AB a).length:Int)from rfl,zj];exact zd (by simp;omega)<|zg<|ye rfl rfl (BW a).1.symm
theorem T146.ok:Af A8 146 lP:=by
 refine BR Zw<|fun(a:Z) hl=>?_;have g:a.length<=1000000:=w6 hl;obtain⟨m,j,d⟩:=BW a;have c:∀s ob,s=T1 a->Ad lP a (.dat .str s) ob:=fun s ob h=>ye rfl rfl h
 have e:=(T122.DH a).1;have es:A0 a=((AB a).length:Int):=rfl;refine zt (T146.Aj a)<|zd hl ?_;rw[es];cases b:Bs a with
 |false=>
  refine zd (by rw[(d b).1];simp)<|zg<|c _ _ ?_;unfold T1;rw[b];rfl
 |true=>
  obtain⟨l,i⟩:=j b;have k:zc .i64 (((AB a).length:Int)+1)=(((AB a).length+1:Nat):Int):=by rw[wr _ ae ae];omega
  have f:(a.drop<|(AB a).length+1).take (zy a.length<|(AB a).length+1)=a.drop ((AB a).length+1):=zr (by rw[zw];exact yv _);rw[k,zj,f];refine zl (by simp;omega) (zd (by simp;omega)<|zg<|c _ _ ?_);unfold T1;rw[b,i];rfl
namespace T98
theorem Ar(g:Nat)(b:∀ob,Q (.dat i64 (g:Int)) ob):∀(f x y:Nat),y<f->Nat.gcd x y=g->Ends OJ (L1 (x:Int) (y:Int)) Q
 |0,x,y,h,_=>by omega
 |f+1,x,y,d,a=>by
  refine yj (Al ..) ?_;conv=>zeta
  by_cases h0:y=0
  ·subst h0;rw[Nat.gcd_zero_right]at a;subst a;exact zl rfl (zg<|b _)
  ·have e:zu (x:Int) (y:Int)=((x % y:Nat):Int):=by rw[yt<|yg x];rfl
   rw[e];have c:x % y<y:=ql _ ae;exact zd (by simp;omega) (zd (by simp;omega) (Ar g b f y (x % y) ae<|by rw[Nat.gcd_comm, <-Nat.gcd_rec,Nat.gcd_comm];exact a))
theorem ok:Af A8 98 zY:=by
 refine BR Fh<|fun(i:Int×Int) c=>?_;obtain⟨a,b⟩:=i;have c:(decide (0<=a)&&decide (a<9223372036854775808)&&decide (0<=b)&&decide (b<9223372036854775808))=true:=c;rw[zf,zf,zf,w5,w5,w5,w5]at c;obtain⟨⟨⟨a0,_⟩,b0⟩,_⟩:=c;obtain⟨x,rfl⟩:=zq a0;obtain⟨y,rfl⟩:=zq b0;refine zt (Aj x y)<|Ar (Nat.gcd x y) (fun ob=>ye rfl rfl ?_) (y+1) x y (Nat.lt_succ_self _) rfl;show((Nat.gcd x y:Nat):Int)=Sp.gI (x:Int) (y:Int);rw[Gx];rfl
end T98
namespace T38
theorem ok:Af A8 38 M6:=by
 refine BR Fh<|fun(s:Z) hl=>?_;have a:∀v ob,v=FT s->Ad M6 s (.dat i64 v) ob:=fun v ob f=>ye rfl rfl f
 refine zt (Aj s)<|z6 (fun c=>zg<|a _ _ ?_)<|fun c=>?_
 ·have c:s=[48]:=by simpa using c
  unfold FT;rw[wd c]
 ·have c:¬s=[48]:=by simpa using c
  cases s with
  |nil=>exact zl rfl (zg<|a _ _ rfl)
  |cons x r=>
   have e:(x::r).getD 0 0=x:=rfl;rw[e];refine zd (by simp) (zd (by simp)<|z6 (fun d=>zg<|a _ _ ?_)<|fun d=>zg<|a _ _ ?_)
   ·have b:x=45:=by
     have:(x.toNat:Int)=45:=by simpa using d
     exact UInt8.toNat_inj.1 (by show _=45;omega)
    unfold FT;rw[wc c,e,wd b]
   ·have b:x≠45:=by rintro rfl;exact wh d af
    unfold FT;rw[wc c,e,wc b]
end T38
theorem tL:CX XO2:=Aa T38.ok AE
theorem T84.ok:Af A8 84 ZL:=by
 refine BR tL<|fun(s:Z) b=>?_;have b:s.length<=1000000:=w6 b;have a:∀v ob,v=Lx s->Ad ZL s (.dat .str v) ob:=fun v ob f=>ye rfl rfl f
 refine zt (T84.Aj s)<|zd (w4 b) ?_;unfold Lx at a;unfold FT;by_cases c:s=[48]
 ·rw[wd c];rw[wd c]at a;exact zl rfl (zd (w4 b)<|zd rfl (zg<|a _ _ rfl))
 ·rw[wc c];rw[wc c]at a;by_cases d:s.getD 0 0=45
  ·rw[wd d];rw[wd d]at a;have e:s≠[]:=by rintro rfl;exact wh d af
   have hp:1<=s.length:=yq.2 e;refine zd rfl (zd (by simp;omega)<|zg<|a _ _ ?_);exact zr (by rw[zw];exact yv _)
  ·rw[wc d];rw[wc d]at a;exact zl rfl (zd (w4 b)<|zl rfl (zd (by simp;omega)<|zg<|a _ _ rfl))
namespace T99
theorem eG:∀k:Fin 10,y8 (zy (k.1+1) k.1) (qp k.1 [(48:UInt8),49,50,51,52,53,54,55,56,57])=[yx<|48+k.1]:=af
theorem Ar{Q:PV->Ob->Prop}(l:Nat)(s:l<=20):∀(f n:Nat) (a:Z),n<9223372036854775808->n<10^f->l<=a.length+f->a.length+f<=64->(∀ob,Q (.dat .str<|HO (f+1) n l a) ob)->Ends OJ (L1 (n:Int) (l:Int) a) Q:=by
 intro f;induction f with
 |zero=>
  intro n a o i g d b;have h0:n=0:=by rw[Nat.pow_zero]at i;omega
  subst h0;unfold HO at b;rw[wd ⟨rfl,by omega⟩]at b;exact yj (Al ..) (zl rfl (zl (by simp;omega)<|zg<|b _))
 |succ f r=>
  intro n a o i g d b;have m:zu (n:Int) 10=((n % 10:Nat):Int):=by rw[yt<|yg n];rfl
  have k:zc .i64 (((n % 10:Nat):Int)+1)=((n % 10+1:Nat):Int):=by rw[wr _ ae ae];omega
  have q:zc .i64 (yk (n:Int) 10)=((n/10:Nat):Int):=by rw[Int.tdiv_eq_ediv_of_nonneg<|yg n,wr _ ae ae];rfl
  have h:=eG ⟨n % 10,ql _ af⟩;have h:y8 (zy (n % 10+1)<|n % 10) (qp (n % 10) [(48:UInt8),49,50,51,52,53,54,55,56,57])=[yx<|48+n % 10]:=h;have t:n % 10<10:=ql _ af;rw[Nat.pow_succ]at i;refine yj (Al ..) ?_;conv=>zeta
  rw[m,k,q,zj,zj,h];by_cases j:n=0/\l<=a.length
  ·obtain⟨p,z2⟩:=j;subst p;unfold HO at b;rw[wd ⟨rfl,z2⟩]at b;exact zl rfl (zl (by simp;omega)<|zg<|b _)
  ·have e:∀ob,Q (.dat .str<|HO (f+1) (n/10) l (yx (48+n % 10)::a)) ob:=by
    intro ob;have:=b ob;unfold HO at this;rw[wc j]at this;exact this
   have go:Ends OJ (L1 ((n/10:Nat):Int) (l:Int)<|[yx<|48+n % 10]++a) Q:=r (n/10) (yx (48+n % 10)::a) ae ae (by rw[ya];omega) (by rw[ya];omega) e;refine z6 (fun _=>?_)<|fun c=>zd ?_ ?_
   ·exact zd rfl (zd rfl (zd (by simp;omega)<|zd (by simp;omega)<|zd rfl go))
   ·have c:=w7 c;exact w4 ae
   ·exact zd rfl (zd rfl (zd (by simp;omega)<|zd (by simp;omega)<|zd rfl go))
theorem ok:Af A8 99 Pg:=by
 refine BR Fh<|fun(i:Int×Int) c=>?_;obtain⟨a,b⟩:=i;have c:(decide (0<=a)&&decide (a<9223372036854775808)&&decide (0<=b)&&decide (b<=20))=true:=c;rw[zf,zf,zf,w5,w5,w5,w5]at c;obtain⟨⟨⟨a0,a1⟩,b0⟩,b1⟩:=c;obtain⟨x,rfl⟩:=zq a0;obtain⟨y,rfl⟩:=zq b0;refine zt (Aj x y) (Ar y ae 63 x [] ae ae (by show y<=0+63;omega) af<|fun ob=>ye rfl rfl ?_);show HO 64 x y []=HO 64 (x:Int).toNat (y:Int).toNat [];rw[zj,zj]
end T99
theorem xY:CX Oq:=Aa T152.ok<|Aa T128.ok AE
namespace T91
theorem CG(neg:Bool)(n d:Int)(h0:0<=n)(b:n<1000000000)(a:∀ob,Q (.tup [.dat i64<|if neg=true then -n else n,.dat i64 d,.bl true]) ob):Ends Oq (L7 neg n d) Q:=by
 refine yj (D5 ..) ?_;conv=>zeta
 cases neg with
 |true=>
  refine zd rfl (zg ?_);rw[wr _ ae ae,Int.zero_sub];exact a _
 |false=>exact zl rfl (zg<|a _)
theorem CP(s:Z)(neg:Bool)(n:Int)(h0:0<=n)(e:n<1000000000)(m:s.length<=20)(o:(yo s).length<=9)(db:Aq (yo s)=true)(a:∀ob,Q (.tup [.dat i64<|if neg=true then -n else n,.dat i64<|if Bs s=true then AF 0 (yo s)else 1,.bl true]) ob):Ends Oq (L5 s neg (A0 s) n 1) Q:=by
 obtain⟨l,k,f⟩:=BW s;refine yj (EO ..) ?_;conv=>zeta
 have es:A0 s=((AB s).length:Int):=rfl;have g:=(T122.DH s).1;cases b:Bs s with
 |true=>
  rw[b]at a;obtain⟨d,c⟩:=k b;have j:zc .i64 (A0 s+1)=(((AB s).length+1:Nat):Int):=by rw[es,wr _ ae ae];omega
  have h:(yo s).length=s.length-((AB s).length+1):=by rw[c,zw]
  have i:(yo s).take (zy s.length<|(AB s).length+1)=yo s:=zr (by show _<=s.length-_;omega);rw[j,zj, <-c,i];exact zd (by simp[es];omega) (zd (by simp;omega) (zd (T149.Cg db ae)<|CG neg n _ h0 e a))
 |false=>
  obtain⟨d,c⟩:=f b;rw[b]at a;exact zl (by simp[es,d])<|CG neg n 1 h0 e a
theorem Dp(s:Z)(neg:Bool)(f:s.length<=20)(l:(AB s).length<=9)(i:(yo s).length<=9)(c:Aq (AB s)=true)(db:Aq (yo s)=true)(j:∀n ob,n=AF 0 (AB s)->Q (.tup [.dat i64<|if neg=true then -n else n,.dat i64<|if Bs s=true then AF 0 (yo s)else 1,.bl true]) ob):Ends Oq (L3 s neg ) Q:=by
 obtain⟨e,m,g⟩:=BW s;have es:A0 s=((AB s).length:Int):=rfl;have h:=(T122.DH s).1;have b:s.length-(AB s).length<=10:=by
  cases a:Bs s with
  |true=>
   obtain⟨o,d⟩:=m a;have:(yo s).length=s.length-((AB s).length+1):=by rw[d,zw]
   omega
  |false=>rw[(g a).1];omega
 have k:y8 (Int.toNat<|A0 s) s=AB s:=by rw[es,zj];exact e.symm
 obtain⟨v0,v1⟩:=T149.CN c l;refine yj (BA ..) ?_;conv=>zeta
 rw[k];refine zd (by simp;omega) (zl (by simp[es];omega) (zl ?_<|zd (by simp[es];omega)<|zd (T149.Cg c ae) ?_))
 ·rw[es,wr _ ae ae];exact w8 ae
 ·exact CP s neg (AF 0<|AB s) v0 v1 f i db<|fun ob=>j _ ob rfl
theorem FX(n d:Int)(a:∀ob,Q (.tup [.dat i64 n,.dat i64 d,.bl true]) ob):Ends Oq (L8 n d) Q:=by
 refine yj (Ho ..) ?_;conv=>zeta
 exact zg<|a _
theorem Fa(s:Z)(n:Int)(l:s.length<=20)(m:(yo s).length<=9)(db:Aq (yo s)=true)(a:∀ob,Q (.tup [.dat i64 n,.dat i64<|if Bs s=true then AF 0 (yo s)else 1,.bl true]) ob):Ends Oq (L6 s (A0 s) n 1) Q:=by
 obtain⟨k,j,g⟩:=BW s;refine yj (EX ..) ?_;conv=>zeta
 have es:A0 s=((AB s).length:Int):=rfl;have h:=(T122.DH s).1;cases b:Bs s with
 |true=>
  rw[b]at a;obtain⟨d,c⟩:=j b;have i:zc .i64 (A0 s+1)=(((AB s).length+1:Nat):Int):=by rw[es,wr _ ae ae];omega
  have e:(yo s).length=s.length-((AB s).length+1):=by rw[c,zw]
  have f:(yo s).take (zy s.length<|(AB s).length+1)=yo s:=zr (by show _<=s.length-_;omega);rw[i,zj, <-c,f];exact zd (by simp[es];omega) (zd (by simp;omega)<|zd (T149.Cg db ae)<|FX n _ a)
 |false=>
  obtain⟨d,c⟩:=g b;rw[b]at a;exact zl (by simp[es,d])<|FX n 1 a
theorem Cb(s:Z)(f:s.length<=20)(l:(AB s).length<=9)(i:(yo s).length<=9)(c:Aq (AB s)=true)(db:Aq (yo s)=true)(j:∀n ob,n=AF 0 (AB s)->Q (.tup [.dat i64 n,.dat i64<|if Bs s=true then AF 0 (yo s)else 1,.bl true]) ob):Ends Oq (L4 s ) Q:=by
 obtain⟨e,m,g⟩:=BW s;have es:A0 s=((AB s).length:Int):=rfl;have h:=(T122.DH s).1;have b:s.length-(AB s).length<=10:=by
  cases a:Bs s with
  |true=>
   obtain⟨o,d⟩:=m a;have:(yo s).length=s.length-((AB s).length+1):=by rw[d,zw]
   omega
  |false=>rw[(g a).1];omega
 have k:y8 (Int.toNat<|A0 s) s=AB s:=by rw[es,zj];exact e.symm
 obtain⟨v0,v1⟩:=T149.CN c l;refine yj (Ci ..) ?_;conv=>zeta
 rw[k];refine zd (by simp;omega) (zl (by simp[es];omega)<|zl ?_<|zd (by simp[es];omega)<|zd (T149.Cg c ae) ?_)
 ·rw[es,wr _ ae ae];exact w8 ae
 ·exact Fa s (AF 0<|AB s) f i db<|fun ob=>j _ ob rfl
end T91
end Go.Pe
namespace Go.Sp
theorem Hs(a:List Int)(i:Nat):val B9 (a.drop i)=a.getD i 0+1000000000*val B9 (a.drop<|i+1):=by
 by_cases h:i<a.length
 ·rw[Cx h];rfl
 ·rw[zn ae,zn ae,show a.getD i 0=0 by rw[List.getD_eq_getElem?_getD,List.getElem?_eq_none ae];rfl];rfl
structure Gg(a b:List Int)(i:Nat)(o:List Int)(c:Int):Prop where
 len:o.length=i
 d:Az B9 o
 c01:0<=c/\c<=1
 v:val B9 o+(B9:Int)^i*(c+val B9 (a.drop i)+val B9 (b.drop i))=An a+An b
 top:a.length<=i->b.length<=i->i=0\/(B9:Int)^(i-1)<=val B9 o+(B9:Int)^i*c
theorem Gg.start(a b:List Int):Gg a b 0 [] 0:=⟨rfl,(fun x c=>by cases c),by decide,by
 show 0+(B9:Int)^0*(0+val B9 a+val B9 b)=val B9 a+val B9 b;rw[Int.pow_zero,qg];omega,fun _ _=>.inl rfl⟩
theorem BI{a:List Int}(h:Bb a=true)(i:Nat):0<=a.getD i 0/\a.getD i 0<1000000000:=Hg (Bu h).2.1 i
theorem Uv{a:List Int}(h:Bb a=true){i:Nat}(b:i<a.length)(c:a.length<=i+1):1<=a.getD i 0:=by
 have:=(Go.Pe.G3 (Bu h).2.1 (Bu h).2.2 (k:=i) ae).1;omega
theorem Gg.step{a b:List Int}{i:Nat}{o:List Int}{c:Int}(h:Gg a b i o c)(m:Bb a=true)(n:Bb b=true)(g:i<a.length\/i<b.length\/0<c):
  Gg a b (i+1) (o++[(a.getD i 0+b.getD i 0+c) % 1000000000]) ((a.getD i 0+b.getD i 0+c)/1000000000):=by
 obtain⟨u,s⟩:=BI m i;obtain⟨y0,y1⟩:=BI n i;obtain⟨c0,c1⟩:=h.c01;have l:=h.v;rw[Hs a i,Hs b i]at l;have j:1<=a.getD i 0+b.getD i 0+c\/¬(a.length<=i+1/\b.length<=i+1):=by
  by_cases k:a.length<=i+1/\b.length<=i+1
  ·refine .inl ?_;rcases g with g|g|g
   ·have:=Uv m g k.1;omega
   ·have:=Uv n g k.2;omega
   ·omega
  ·exact .inr k
 have t:=AD (b:=B9) af h.d;have r:=AU (b:=B9) af i;generalize a.getD i 0=x at*;generalize b.getD i 0=y at*;have f:val B9 (o++[(x+y+c) % 1000000000])=val B9 o+(B9:Int)^i*((x+y+c) % 1000000000):=by rw[Cv,h.len]
 refine⟨by rw[zp,h.len];rfl,FR h.d ae,by omega,?_,fun p q=>.inr ?_⟩
 ·rw[f,Kf,qj, <-yw, <-l];congr 2;omega
 ·rw[f,Kf,qj, <-yw,yh];have e:(x+y+c) % 1000000000+1000000000*((x+y+c)/1000000000)=x+y+c:=ae
  rw[e];rcases j with j|j
  ·have:=zx j<|yb r;rw[qh]at this;omega
  ·exact wh ⟨p,q⟩ j
theorem AdR{o:List Int}(k:Az B9 o)(h:o=[]\/(B9:Int)^(o.length-1)<=val B9 o):nz o:=by
 rcases h with rfl|h
 ·unfold nz;simp
 ·intro e;have a:o≠[]:=by rintro rfl;simp at e
  have f:o=o.dropLast++[0]:=by
   have d:=(List.dropLast_concat_getLast a).symm;rw[List.getLast?_eq_some_getLast a]at e;rw[Option.some.inj e]at d;exact d
  have g:o.length=o.dropLast.length+1:=by rw[List.length_dropLast];have:=yq.2 a;omega
  have i:val B9 o=val B9 o.dropLast:=by
   conv=>lhs;rw[f]
   rw[Cv,qc,qd]
  have c:Az B9 o.dropLast:=fun x j=>k x (by rw[f];exact List.mem_append_left _ j)
  have:=Bz (b:=B9) af c;rw[i,g,yh]at h;omega
theorem Gg.fin{a b:List Int}{i:Nat}{o:List Int}(h:Gg a b i o 0)(f:a.length<=i)(e:b.length<=i):o=Io a b:=by
 have c:=h.v;rw[zn f,zn e]at c;have c:val B9 o+(B9:Int)^i*(0+0+0)=An a+An b:=c;rw[show(0+0+0:Int)=0 from rfl,qc,qd]at c;have g:=h.top f e;rw[qc,qd, <-h.len]at g;have j:nz o:=AdR h.d (by
  rcases g with k|k
  ·exact .inl<|y9.1 k
  ·exact .inr k)
 unfold Io;rw[<-c];exact Jt (b:=B9) af h.d j
structure Hf(a b:List Int)(i:Nat)(o:List Int)(c:Int):Prop where
 len:o.length=i
 d:Az B9 o
 c01:0<=c/\c<=1
 v:val B9 o+(B9:Int)^i*(val B9 (a.drop i)-val B9 (b.drop i)-c)=An a-An b
theorem Hf.start(a b:List Int):Hf a b 0 [] 0:=⟨rfl,(fun x c=>by cases c),by decide,by
 show 0+(B9:Int)^0*(val B9 a-val B9 b-0)=val B9 a-val B9 b;rw[Int.pow_zero,qg];omega⟩
theorem Hf.step{a b:List Int}{i:Nat}{o:List Int}{c:Int}(h:Hf a b i o c)(g:Bb a=true)(j:Bb b=true)(d e:Int)(m:(a.getD i 0-b.getD i 0-c<0/\d=a.getD i 0-b.getD i 0-c+1000000000/\e=1)\/(¬a.getD i 0-b.getD i 0-c<0/\d=a.getD i 0-b.getD i 0-c/\e=0)):
  Hf a b (i+1) (o++[d]) e:=by
 obtain⟨l,k⟩:=BI g i;obtain⟨y0,y1⟩:=BI j i;obtain⟨c0,c1⟩:=h.c01;have f:=h.v;rw[Hs a i,Hs b i]at f;generalize a.getD i 0=x at*;generalize b.getD i 0=y at*;refine⟨by rw[zp,h.len];rfl,FR h.d ae,by omega,?_⟩;rw[Cv,h.len,Kf,qj, <-yw, <-f];congr 2;omega
theorem Hf.fin{a b:List Int}{o:List Int}{c:Int}(h:Hf a b a.length o c)(l:Bb b=true)(i:An b<=An a):Ay o=I5 a b:=by
 have e:=h.v;rw[List.drop_length]at e;have h0:=AD (b:=B9) af<|E9 (Bu l).2.1 a.length;have f:=Bz (b:=B9) af h.d;rw[h.len]at f;obtain⟨m,n⟩:=h.c01;have j:=AU (b:=B9) af a.length;have e:val B9 o+(B9:Int)^a.length*(0-val B9 (b.drop a.length)-c)=An a-An b:=e;generalize val B9 (b.drop a.length)=z at*;have g:0-z-c=0:=by
  rcases Int.lt_or_le (0-z-c) 0 with k|k
  ·have:=zx (show 0-z-c<= -1 by omega)<|yb j;rw[yy,qh]at this;omega
  ·omega
 rw[g,qc,qd]at e;unfold I5;rw[FD h.d, <-e];rfl
open Go.Lib
theorem Xj(n:Int):rN n=decide (n<0):=rfl
theorem Jj(a:Bool×List Int):(a.1=true->vR a= -An a.2)/\(a.1=false->vR a=An a.2):=by
 unfold vR;exact⟨fun h=>by rw[wd h],fun h=>by rw[wc<|by rw[h];decide]⟩
theorem KI{neg:Bool}{w:List Int}{n:Int}(c:Az B9 w)(h0:0<=An w)(a:neg=true->n= -An w)(b:neg=false->n=An w):(CM neg w,Ay w)=(rN n,rW n):=by
 refine pB c ?_<|fun d=>?_
 ·rw[Ak];cases neg with
  |true=>have:=a rfl;omega
  |false=>have:=b rfl;omega
 ·rw[Xj];cases neg with
  |true=>have:=a rfl;symm;rw[w5];omega
  |false=>have:=b rfl;symm;rw[w9];omega
theorem EF{n:Int}(h:0<=n):An (BS n)=n/\Az B9 (BS n):=⟨Db (b:=B9) af h,F6 (b:=B9) af n⟩
theorem cO{a b:Bool×List Int}(e:CA a=true)(f:CA b=true)(h:a.1=b.1):(CM a.1<|Io a.2 b.2,Ay<|Io a.2 b.2)=(Nx a b,NW a b):=by
 have a0:=(E3 e).2;have g:=(E3 f).2;obtain⟨d,c⟩:=Jj a;obtain⟨f1,f2⟩:=Jj b;obtain⟨hv,hd⟩:=EF (n:=An a.2+An b.2) ae;refine KI hd (by show 0<=An (BS _);omega) (fun k=>?_)<|fun k=>?_
 ·rw[d k,f1<|by rw[<-h];exact k];show _= -An (BS _);omega
 ·rw[c k,f2<|by rw[<-h];exact k];show _=An (BS _);omega
theorem Zg{a b:Bool×List Int}(c:CA b=true)(h:a.1≠b.1)(f:An b.2<=An a.2):(CM a.1<|I5 a.2 b.2,Ay<|I5 a.2 b.2)=(Nx a b,NW a b):=by
 have g:=(E3 c).2;obtain⟨e,d⟩:=Jj a;obtain⟨f1,f2⟩:=Jj b;obtain⟨hv,hd⟩:=EF (n:=An a.2-An b.2) ae;refine KI hd (by show 0<=An (BS _);omega) (fun k=>?_)<|fun k=>?_
 ·rw[e k,f2 (by rw[k]at h;cases c:b.1 with|true=>exact wh c.symm h|false=>rfl)];show _= -An (BS _);omega
 ·rw[d k,f1 (by rw[k]at h;cases c:b.1 with|true=>rfl|false=>exact wh c.symm h)];show _=An (BS _);omega
theorem uK{a b:Bool×List Int}(c:CA a=true)(h:a.1≠b.1)(d:An a.2<=An b.2):(CM b.1<|I5 b.2 a.2,Ay<|I5 b.2 a.2)=(Nx a b,NW a b):=by
 have:=Zg c (fun k=>h k.symm) d;rw[this];unfold Nx NW;rw[Int.add_comm]
theorem iJ{a b:Bool×List Int}(h:CA a=true)(i:CA b=true):(CM (a.1 !=b.1)<|BS<|An a.2*An b.2,Ay<|BS<|An a.2*An b.2)=(HQ a b,H3 a b):=by
 have a0:=(E3 h).2;have g:=(E3 i).2;obtain⟨f,e⟩:=Jj a;obtain⟨f1,f2⟩:=Jj b;have p0:=Int.mul_nonneg a0 g;obtain⟨hv,hd⟩:=EF p0;refine KI hd ae (fun k=>?_)<|fun k=>?_
 ·rw[hv];cases d:a.1<;>cases c:b.1<;>rw[d,c]at k
  ·exact wh k af
  ·rw[e d,f1 c,yy]
  ·rw[f d,f2 c,Int.neg_mul]
  ·exact wh k af
 ·rw[hv];cases d:a.1<;>cases c:b.1<;>rw[d,c]at k
  ·rw[e d,f2 c]
  ·exact wh k af
  ·exact wh k af
  ·rw[f d,f1 c,Int.neg_mul,yy,Int.neg_neg]
theorem gM{a:Bool×List Int}(b:CA a=true):(CM (!a.1) a.2,Ay a.2)=(UH a,SL a):=by
 have a0:=(E3 b).2;obtain⟨c,d⟩:=Jj a;refine KI (Bu (Dk b).1).2.1 a0 (fun k=>?_)<|fun k=>?_
 ·rw[d<|by simpa using k]
 ·rw[c (by simpa using k),Int.neg_neg]
theorem MO{b:Bool×List Int}(c:CA b=true)(h0:0<vR b):b.1=false/\vR b=An b.2:=by
 have e:=(E3 c).2;obtain⟨d,a⟩:=Jj b;cases h:b.1 with
 |true=>have:=d h;omega
 |false=>exact⟨rfl,a h⟩
theorem jX{A b:Int}(c:0<b)(hr:A % b≠0): -A/b= -(A/b+1):=by
 have e:=Int.mul_ediv_add_emod A b;have d:=Int.emod_nonneg A (show b≠0 by omega);have f:=Int.emod_lt_of_pos A c;refine((Int.ediv_emod_unique (a:= -A) (b:=b) (r:=b-A % b) (q:= -(A/b+1)) c).2 ⟨?_,by omega,by omega⟩).1;rw[yy,yw,qh];omega
theorem XT{A b:Int}(c:0<b)(hr:A % b=0): -A/b= -(A/b):=by
 have d:=Int.mul_ediv_add_emod A b;refine((Int.ediv_emod_unique (a:= -A) (b:=b) (r:=0) (q:= -(A/b)) c).2 ⟨?_,by omega,c⟩).1;rw[yy];omega
theorem Q4{a b:Bool×List Int}(d:CA a=true)(g:CA b=true)(h0:0<vR b)(h:a.1=false\/An a.2 % An b.2=0):(CM a.1<|BS<|An a.2/An b.2,Ay<|BS<|An a.2/An b.2)=(Ju a b,Jo a b):=by
 have a0:=(E3 d).2;obtain⟨e,c⟩:=Jj a;obtain⟨_,f⟩:=MO g h0;rw[f]at h0;have q0:=Int.ediv_nonneg a0<|yb h0;obtain⟨hv,hd⟩:=EF q0;refine KI hd ae (fun k=>?_)<|fun k=>?_
 ·rw[hv,e k,f];rcases h with h|h
  ·rw[k]at h;cases h
  ·exact XT h0 h
 ·rw[hv,c k,f]
theorem WY{a b:Bool×List Int}(c:CA a=true)(j:CA b=true)(h0:0<vR b)(h:a.1=true)(hr:An a.2 % An b.2≠0):(CM a.1<|Io (BS<|An a.2/An b.2) [1],Ay<|Io (BS<|An a.2/An b.2) [1])=(Ju a b,Jo a b):=by
 have a0:=(E3 c).2;obtain⟨i,l⟩:=Jj a;obtain⟨_,f⟩:=MO j h0;rw[f]at h0;have q0:=Int.ediv_nonneg a0<|yb h0;have e:Io (BS<|An a.2/An b.2) [1]=BS (An a.2/An b.2+1):=by
  unfold Io;rw[(EF q0).1];rfl
 rw[e];obtain⟨g,d⟩:=EF (n:=An a.2/An b.2+1) ae;refine KI d ae (fun k=>?_)<|fun k=>?_
 ·rw[g,i k,f];exact jX h0 hr
 ·rw[h]at k;cases k
theorem rO{w:List Int}{i:Nat}(a:w.length=i+1):val B9 (w.drop i)=w.getD i 0:=by
 rw[Hs,zn ae];show _+1000000000*0=_;omega
theorem XY{w:List Int}(a:Bb w=true){i:Nat}(b:w.length=i+1):IG (w.getD i 0) 1=decDigits (val B9<|w.drop i).toNat/\0<val B9 (w.drop i):=by
 have g:=BI a i;have t:=Uv a (i:=i) ae ae;rw[rO b];exact⟨QK g.1 ae,by omega⟩
theorem bT{w:List Int}(a:Bb w=true)(i:Nat)(h0:0<val B9 (w.drop<|i+1)):decDigits (val B9<|w.drop<|i+1).toNat++IG (w.getD i 0) 9=decDigits (val B9<|w.drop i).toNat/\0<val B9 (w.drop i):=by
 have g:=BI a i;rw[Hs w i,eO g.1 g.2];generalize val B9 (w.drop<|i+1)=V at*;generalize w.getD i 0=x at*;have h:=TR 9 V.toNat x.toNat af ae ae;refine⟨?_,by omega⟩;rw[<-h];congr 1;omega
theorem mH{a:Bool×List Int}(d:CA a=true)(c:a.2≠[]):(if a.1=true then 45::decDigits (An a.2).toNat else decDigits (An a.2).toNat)=FQ a:=by
 obtain⟨e,f⟩:=Jj a;have h0:0<An a.2:=J7 (b:=B9) af (Bu (Dk d).1).2.1 (Bu (Dk d).1).2.2 c;unfold FQ AY itoa;by_cases h:a.1=true
 ·rw[wd h,e h,wd ae,show(-An a.2).natAbs=(An a.2).toNat by omega]
 ·have h:a.1=false:=by simpa using h
  rw[wc (by rw[h];decide),f h,wc ae]
theorem nX{a:Bool×List Int}(h:a.2=[]):[48]=FQ a:=by
 have:vR a=0:=by
  unfold vR;rw[h];split<;>rfl
 unfold FQ AY itoa;rw[this,wc af,show(0:Int).toNat=0 from rfl,decDigits_one af];rfl
theorem HY{N D:Int}(b:0<D):0<gI (Ah N) D/\Ah N/gI (Ah N) D=Ah (zm N D).num/\D/gI (Ah N) D=((zm N D).den:Int)/\(N<0↔(zm N D).num<0):=by
 have l:D.sign=1:=Int.sign_eq_one_of_pos b;have j:(zm N D).num=N/(qi N D:Int):=by rw[Rat.num_divInt,l,qg,Int.gcd_comm]
 have f:((zm N D).den:Int)=D/(qi N D:Int):=by
  rw[Rat.den_divInt,wc<|Int.ne_of_gt b,Int.gcd_comm,Int.natCast_ediv];rw[Int.natAbs_of_nonneg<|yb b]
 have i:gI (Ah N) D=(qi N D:Int):=by rw[Gx,Ak];rfl
 have a:0<qi N D:=Int.gcd_pos_of_ne_zero_right _ ae;obtain⟨k,d⟩:(qi N D:Int)∣N:=Int.gcd_dvd_left ..;rw[i,j,f];have a:(0:Int)<(qi N D:Int):=ae
 generalize (qi N D:Int)=g at*;have c:N/g=k:=by rw[d,yz _ ae]
 have e:Ah N/g=Ah k:=by
  rw[Ak,Ak,d,Int.natAbs_mul,Int.natCast_mul,show((g.natAbs:Nat):Int)=g by omega,yz _ ae]
 refine⟨a,by rw[c,e],rfl,?_⟩;rw[c];constructor
 ·intro h;rcases Int.lt_or_le k 0 with x|x
  ·exact x
  ·have:=Int.mul_nonneg (yb a) x;omega
 ·intro h;have:=Int.mul_neg_of_pos_of_neg a h;omega
theorem hH{N D:Int}(b:0<D){neg:Bool}(d:neg=rN N):(CM neg<|BS<|Ah N/gI (Ah N) D,Ay<|BS<|Ah N/gI (Ah N) D)=(rN (zm N D).num,rW (zm N D).num):=by
 obtain⟨_,a,_,c⟩:=HY (N:=N) b;rw[a];have a0:=OO (zm N D).num;obtain⟨hv,hd⟩:=EF a0;refine pB hd hv<|fun _=>?_;rw[d,Xj,Xj,decide_eq_decide];exact c
theorem uY{n:Int}(h0:0<=n):BS n=[1]↔n=1:=by
 constructor
 ·intro h;have:=(EF h0).1;rw[h]at this;exact this.symm
 ·rintro rfl;rfl
theorem Sq{N D:Int}:CT N D=if (zm N D).den=1 then AY (zm N D).num else AY (zm N D).num++47::AY ((zm N D).den:Int):=by
 unfold CT AP;split
 ·rfl
 ·rw[show AY ((zm N D).den:Int)=decDigits (zm N D).den from Lib.itoa_nonneg _];rfl
theorem V9(N D:Int):CT (-N) (-D)=CT N D:=by
 unfold CT;rw[Rat.neg_divInt_neg]
theorem Qk{s:Z}(h:Be s=true):Bf s=Ji s/\AN s=TO s/\Aq (AB<|A9 s)=true/\Aq (AV<|A9 s)=true:=by
 obtain⟨t,_⟩:=F5 h;obtain⟨c1,c2,c3⟩:=Fj<|Au s;obtain⟨p1,p2,p3,p4⟩:=TA s;obtain⟨i1,i2,i3,i4⟩:=DA (Au s).num;rw[t]at c1 c2 c3;have b:Aq (AV s)=true:=by
  rw[c2];split
  ·rfl
  ·exact Ec _
 refine⟨?_,?_,?_,?_⟩
 ·unfold Bf Ji BO;rw[p1, <-p4];unfold A9 preB;by_cases a:(AB s).getD 0 0=45
  ·rw[wd a,wd a,wd<|w4 a]
  ·rw[wc a,wc a,wc<|by rw[w8 a];decide]
 ·unfold AN TO BO;rw[p2,p3,wc<|F8 b]
 ·rw[p1,c1,i2];exact Ec _
 ·rw[p2];exact b
theorem GV{s:Z}(h:Be s=true)(a:Eo s=true):gX s=Bf s/\UW s=AN s/\ -1000000000<Bf s/\Bf s<1000000000/\0<AN s/\AN s<1000000000:=by
 obtain⟨b,c,e,d⟩:=Qk h;have f:0<AN s:=by
  have:=(D7 h).2.2.2.2.2.1;have:=(Au s).den_pos;omega
 unfold gX UW;rw[wd a,wd a];unfold Eo at a;rw[zf,zf,w5,w5,w5]at a;obtain⟨⟨_,l1⟩,g⟩:=a;have j:=Bl e;have k:=Bl d;have l:(10:Int)^(AB<|A9 s).length<=10^9:=AQ af l1;have i:(10:Int)^(AV<|A9 s).length<=10^9:=AQ af g;refine⟨b.symm,c.symm,?_,?_,f,?_⟩
 ·rw[b];unfold Ji;split<;>omega
 ·rw[b];unfold Ji;split<;>omega
 ·rw[c];unfold TO;split<;>omega
theorem dI{a b:Z}(d:Be a=true)(g:Be b=true):CC a b=CT (Bf a*AN b+AN a*Bf b) (AN a*AN b)/\CC a b=CT (Bf a*AN b+Bf b*AN a) (AN a*AN b):=by
 have c:AN a≠0:=by
  have:=(D7 d).2.2.2.2.2.1;have:=(Au a).den_pos;omega
 have f:AN b≠0:=by
  have:=(D7 g).2.2.2.2.2.1;have:=(Au b).den_pos;omega
 have e:CC a b=CT (Bf a*AN b+Bf b*AN a) (AN a*AN b):=by
  unfold CC CT Au;rw[Rat.divInt_add_divInt _ _ c f]
 exact⟨by rw[e,Int.mul_comm (AN a)<|Bf b],e⟩
theorem cB{a b:Z}:FH a b=CT (Bf a*Bf b) (AN a*AN b):=by
 unfold FH CT Au;rw[Rat.divInt_mul_divInt]
theorem dQ{a:Z}:RJ a=CT (AN a) (Bf a):=by
 unfold RJ CT Au;rw[Rat.inv_divInt]
end Go.Sp
