import Derived.Test.YtlohiljbghionaaGreatDoorX13
/- A part of a proof; no law is stated here. -/
noncomputable section
open Go.IntKind renaming wrap -> zc, i64 -> zo
open Go.Pe.Ends renaming tt -> zd, leaf -> ze, ff -> zl, eq -> zt, ite -> zw, Ah -> yk
open Bool renaming and_eq_true -> zf, true_and -> yo
open Go.Pe.Sh renaming str -> zg, list -> zi, bool -> zk, int -> yr, pair -> yu
open Go.Lib renaming decDigits -> zh, decDigits_length -> yq
open Int renaming toNat_natCast -> zj, eq_ofNat_of_zero_le -> zr, tmod -> zx, mul_le_mul_of_nonneg_left -> zz, lt_of_lt_of_le -> z7, natCast_pow -> z8, natCast_nonneg -> yh, tdiv -> ym, ofNat_lt -> yv, le_of_lt -> yw, natAbs_natCast -> yz, tmod_eq_emod_of_nonneg -> y7, mul_ediv_cancel_left -> qc, mul_zero -> qf, add_zero -> qg, one_mul -> qk, mul_add -> ql, gcd -> qn, add_assoc -> qp
open Rat renaming divInt -> zm, le_of_lt -> yb, div_mul_cancel -> yg, ne_of_gt -> yj, mul_le_mul_of_nonneg_left -> yp, le_of_mul_le_mul_right -> yx, mul_nonneg -> yy, num_intCast -> qh
open List renaming drop_eq_nil_of_le -> zn, length_append -> zq, take_of_length_le -> zu, length_drop -> zy, length_cons -> yc, length_flatten -> yd, length_pos_iff -> yt, take -> qd, length_eq_zero_iff -> qe, length -> qi, all -> qt, drop -> qu
open Go.Sp renaming vI -> zp, rN -> ye, rW -> yf, AS -> yn, first -> qj, CP -> qo
open Nat renaming sub -> z6, add_sub_cancel -> yi, le_refl -> y8, mod_lt -> qq, add -> qv
open Go.Pe.Ad renaming of -> ya
open UInt8 renaming ofNat -> y9
open Go.Pe.T122 renaming DB -> qm
namespace Go.Sp
structure Nu(k:Nat)(s:Z)(q:Rat):Prop where
 t:s=A6 q
 z:Gm k q
theorem Nu.rat{k:Nat}{s:Z}{q:Rat}(h:Nu k s q):Az s=q:=by rw[h.t,FU]
theorem Yk{k:Nat}{q:Rat}(h:Gm k q)(a:k<=600):Py q=false:=XK.2<|h.mono a
theorem Nu.check{k:Nat}{s:Z}{q:Rat}(h:Nu k s q)(a:k<=600):Am s=0:=by
 rw[h.t,XL,Yk h.z a,wc af]
theorem Nu.num{k:Nat}{s:Z}{q:Rat}(h:Nu k s q)(a:k<=1999):B4 s=true:=by rw[h.t];exact RB h.z a
theorem Nu.EE{k:Nat}{s:Z}{q:Rat}(h:Nu k s q)(a:k<=1400):Sp.EE s=true:=by
 unfold Sp.EE;rw[h.num ae,yo,w5,h.t];have:=Qh (h.z.mono<|show k<=k+1 by omega) ae;omega
theorem Nu.len{k:Nat}{s:Z}{q:Rat}(h:Nu k s q)(a:k<=1999):s.length<=1000000:=by
 rw[h.t];exact Vo h.z ae
theorem fI{k:Nat}{q:Rat}(h:Gm k q)(a:k<=600):jH 0 q=A6 q/\pC 0 q=0:=by
 unfold jH pC;rw[Yk h a];exact⟨rfl,rfl⟩
theorem Nu.op{k:Nat}{q:Rat}(h:Gm k q)(a:k<=600):Nu k (jH 0 q) q/\pC 0 q=0:=by
 rw[(fI h a).1];exact⟨⟨rfl,h⟩,(fI h a).2⟩
theorem Nu.cmp{i j:Nat}{a b:Z}{p q:Rat}(d:Nu i a p)(c:Nu j b q):E0 a b=if p<q then -1 else if q<p then 1 else 0:=by
 unfold E0;rw[d.rat,c.rat]
theorem QQ{a:Z}(h:Am a=0):Nu 600 a (Az a):=by
 obtain⟨t,_,_,z⟩:=Ml h;exact⟨t.symm,z⟩
theorem aW(n:Int):AZ n=A6 (n:Rat):=by
 unfold A6 AZ;rw[wd<|Rat.den_intCast ..,qh]
theorem iP(p q:Rat):(if q<p then(-1:Int)else if p<q then 1 else 0)= -(if p<q then(-1:Int)else if q<p then 1 else 0):=by
 by_cases h:p<q
 ·have:¬q<p:=Rat.not_lt.2<|yb h;rw[wc this,wd h,wd h];rfl
 ·rw[wc h,wc h];split<;>rfl
theorem Nu.FJ{i j:Nat}{a b:Z}{p q:Rat}(d:Nu i a p)(c:Nu j b q):Nu (i+j+1) (Sp.FJ a b) (p+q):=⟨by unfold Sp.FJ;rw[d.rat,c.rat],d.z.add c.z⟩
theorem Nu.LB{i j:Nat}{a b:Z}{p q:Rat}(d:Nu i a p)(c:Nu j b q):Nu (i+j+1) (Sp.LB a b) (p-q):=⟨by unfold Sp.LB;rw[d.rat,c.rat],d.z.sub c.z⟩
theorem Nu.Q1{i j:Nat}{a b:Z}{p q:Rat}(d:Nu i a p)(c:Nu j b q):Nu (i+j) (Sp.Q1 a b) (p*q):=⟨by unfold Sp.Q1;rw[d.rat,c.rat],d.z.mul c.z⟩
theorem nD{q:Rat}{k:Nat}(h:Gm k q):Gm k (q.floor:Rat):=by
 obtain⟨a,c⟩:=h;have b:=q.den_pos;unfold Gm;rw[qh,Rat.den_intCast,Rat.floor_def];refine⟨Nat.lt_of_le_of_lt (Int.natAbs_ediv_le_natAbs _ _) a,by omega⟩
def aX(w:Z):Nat:=max (A2<|AA w).length (Sa w).length
def XS(n:Int):Bool:=decide (n.natAbs<9223372036854775808)
def Ww(n:Int):Z:=A6 ((n:Int):Rat)
def CY(n m:Int):Int:=if n=0 then 12 else if m<n then 5 else 0
end Go.Sp
variable {Q:Go.Pe.PV->Go.Pe.Ob->Prop}
namespace Go.Pe
open Go.Det
def kW:An:=⟨[i64,i64],fun _=>true,[i64],fun i=>Sp.CY i.1 i.2,false⟩
def Aco:An:=⟨[.list .str],fun l=>decide (qi (α:=Z) l<=1000000)&&qt (α:=Z) l (fun s=>decide (s.length<=9223372036854775807)),[i64],fun l=>Sp.Cw l,false⟩
def eV:An:=⟨[i64],fun n=>Sp.XS n,[.str],fun n=>Sp.Ww n,false⟩
def AcC:AT:=X7 [(50,GY),(51,Ib)]
def AcV:AT:=X7 [(134,YM),(135,lT)]
def Yv:AT:=X7 [(62,TU)]
def yM:AT:=X7 [(97,H3),(96,T8)]
end Go.Pe
namespace Go.Sp
def GO(q:Rat):Int:= -(-q).floor
theorem T9{q:Rat}{n:Int}:GO q<=n↔q<=(n:Rat):=by
 unfold GO;have h:=Rat.le_floor_iff (x:= -n) (a:= -q);rw[Rat.intCast_neg]at h;constructor
 ·intro k;have:=h.1 ae;exact Rat.neg_le_neg_iff.1 this
 ·intro k;have:=h.2<|Rat.neg_le_neg k;omega
theorem Zs{q:Rat}{n:Int}:n<GO q↔(n:Rat)<q:=by
 have:=T9 (q:=q) (n:=n);constructor
 ·intro h;exact Rat.not_le.1 fun k=>by have:=this.2 k;omega
 ·intro h;have h':¬GO q<=n:=fun k=>Rat.not_le.2 h<|this.1 k
  omega
def Jf(p h n r:Rat):Int:=max 1<|GO<|(p-h+n)/(n+r)
theorem Vd{p h n r:Rat}(a:0<n+r):p<=h+r+((Jf p h n r-1:Int):Rat)*(n+r):=by
 have b:(p-h+n)/(n+r)<=((Jf p h n r:Int):Rat):=T9.1 (by unfold Jf;omega);have c:=Rat.mul_le_mul_of_nonneg_right b<|yb a;rw[yg<|yj a]at c;rw[Rat.intCast_sub,show((1:Int):Rat)=1 from rfl];grind
theorem cB{p h n r:Rat}(a:0<n+r)(k:1<Jf p h n r):h+r+((Jf p h n r-1:Int):Rat)*(n+r)-(n+r)<p:=by
 have h0:Jf p h n r-1<GO ((p-h+n)/(n+r)):=by unfold Jf at*;omega
 have b:=Zs.1 h0;have c:=Rat.mul_lt_mul_of_pos_right b a;rw[yg<|yj a]at c;grind
def U3(p h n r:Rat):Rat:=if p<=h+r then p*h/(h+r)else h+(p-(h+r))*n/(n+r)
theorem Aa5{p h n r:Rat}(hp:0<=p)(c:0<h)(b:0<n)(hr:0<=r):U3 p h n r<=p:=by
 have s1:0<h+r:=by grind
 have s2:0<n+r:=by grind
 unfold U3;split
 ·refine yx ?_ s1;rw[yg<|yj s1];exact yp (by grind) hp
 ·next k=>
  have a:0<=p-(h+r):=by grind
  have:(p-(h+r))*n/(n+r)<=p-(h+r):=by
   refine yx ?_ s2;rw[yg<|yj s2];exact yp (by grind) a
  grind
theorem Wz{p h n r:Rat}(hp:0<=p)(a:0<h)(b:0<n)(hr:0<=r):0<=U3 p h n r:=by
 have s1:0<h+r:=by grind
 have s2:0<n+r:=by grind
 unfold U3;split
 ·rw[Rat.div_def];exact yy (yy hp<|yb a)<|yb<|Rat.inv_pos.2 s1
 ·next k=>
  have c:0<=p-(h+r):=by grind
  refine Rat.add_nonneg (yb a) ?_;rw[Rat.div_def];exact yy (yy c<|yb b)<|yb<|Rat.inv_pos.2 s2
theorem oZ{p h n:Rat}(a:0<h)(b:0<n):U3 p h n 0=p:=by
 unfold U3;rw[Rat.add_zero,Rat.add_zero];split
 ·exact Rat.mul_div_cancel<|yj a
 ·rw[Rat.mul_div_cancel<|yj b];grind
abbrev BT:=BM×BM×BM×List BB×List BB
abbrev Hw:=BM×Int
abbrev BR:=BM×BM×BM×BM×List Hw
abbrev CB:=BM×List Int
abbrev AW:=List BR×List CB×List BT
def BA(a:BM)(lo b:Int):Int:=if Am a≠0 then Am a else if Az a<(lo:Rat)\/(b:Rat)<Az a then 3 else 0
def Wk(seen:List BM):List BB->Int
 |[]=>0
 |w::l=>if isName w.1=false then 8 else if has seen w.1=true then 9 else if Am w.2≠0 then Am w.2 else if Az w.2<0 then 3 else Wk (w.1::seen) l
def Mz(l:List BB):Int:=if 16<l.length then 5 else Wk [] l
def RL:Option BM->List BB->Int
 |_,[]=>0
 |none,p::l=>RL (some p.2) l
 |some y,p::l=>if E0 p.2 y<0 then 11 else RL (some p.2) l
def KU(l:BT):Int:=first [Cs (!isName l.1) 8,BA l.2.1 1 10000,BA l.2.2.1 1 10000,BV l.2.2.2.1]
def Iq(l:BT):Int:=if KU l≠0 then KU l else if RL none l.2.2.2.1≠0 then RL none l.2.2.2.1 else Mz l.2.2.2.2
def dX:List Hw->Int
 |[]=>0
 |o::l=>if isName o.1=false then 8 else if o.2<0\/10<o.2 then 3 else dX l
def TJ(s:BR):Int:=first [BA s.1 (-10000) 10000,BA s.2.1 (-10000) 10000,BA s.2.2.1 0 10000,BA s.2.2.2.1 0 10000,Cs (decide (16<s.2.2.2.2.length)) 5]
def KQ(s:BR):Int:=if TJ s≠0 then TJ s else dX s.2.2.2.2
def IQ:List BR->Int
 |[]=>0
 |s::l=>if KQ s≠0 then KQ s else IQ l
def Em(l:List Int):Bool:=l.any fun n=>decide (n<1)||decide (10000<n)
def Fs(n:Int)(seen:List BM):List CB->Int
 |[]=>0
 |t::l=>if isName t.1=false then 8 else if has seen t.1=true then 9 else if (t.2.length:Int)≠n then 2 else if Em t.2=true then 3 else Fs n (t.1::seen) l
def LJ(seen:List BM):List BT->Int
 |[]=>0
 |l::r=>if Iq l≠0 then Iq l else if has seen l.1=true then 9 else LJ (l.1::seen) r
def Mi(c:AW):Int:=if c.2.2=[]then 12 else if 8<c.2.2.length then 5 else LJ [] c.2.2
def Q6(c:AW):Int:=if c.2.1=[]then 12 else if 8<c.2.1.length then 5 else if Fs (c.1.length:Int) [] c.2.1≠0 then Fs (c.1.length:Int) [] c.2.1 else Mi c
def Od(c:AW):Int:=if c.1=[]then 12 else if 36<c.1.length then 5 else if IQ c.1≠0 then IQ c.1 else Q6 c
def KP(l:List BB)(n m:Nat):Bool:=l.all fun p=>decide (p.1.length<=n)&&decide (p.2.length<=m)
def CF(l:BT):Bool:=decide (l.1.length<=40)&&decide (l.2.1.length<=20)&&decide (l.2.2.1.length<=20)&&decide (l.2.2.2.1.length<=70)&&decide (l.2.2.2.2.length<=20)&&KP l.2.2.2.1 20 20&&KP l.2.2.2.2 40 20
def Ce(s:BR):Bool:=decide (s.1.length<=20)&&decide (s.2.1.length<=20)&&decide (s.2.2.1.length<=20)&&decide (s.2.2.2.1.length<=20)&&decide (s.2.2.2.2.length<=20)
def Ek(t:CB):Bool:=decide (t.1.length<=40)&&decide (t.2.length<=40)
def Kq(c:AW):Bool:=decide (c.1.length<=38)&&decide (c.2.1.length<=10)&&decide (c.2.2.length<=10)&&c.1.all Ce&&c.2.1.all Ek&&c.2.2.all CF
def MW(l:BT):Bool:=decide (l.2.1.length<=20)&&decide (l.2.2.1.length<=20)&&decide (l.2.2.2.1.length<=70)&&KP l.2.2.2.1 20 20&&l.2.2.2.2.all fun p=>decide (p.2.length<=20)
def UB(t:CB):Bool:=decide (t.2.length<=4611686018427387904)
def dZ(c:AW):Bool:=decide (c.1.length<=38)&&decide (c.2.1.length<=10)&&decide (c.2.2.length<=10)&&c.1.all Ce&&c.2.1.all UB&&c.2.2.all MW
def Ct(c:AW)(h:Int):BR:=c.1.getD h.toNat ([],[],[],[],[])
def KW(c:AW)(t h:Int):Int:=(c.2.1.getD t.toNat ([],[])).2.getD h.toNat 0
def Dq(c:AW)(l:Int):BT:=c.2.2.getD l.toNat ([],[],[],[],[])
def Kk(i n:Int):Bool:=decide (i<0)||decide (n<=i)
def NK(c:AW)(b:Bool):Int:=if Od c≠0 then Od c else if b=true then 10 else 0
def dI(c:AW)(t:Int):Bool:=Kk t (c.2.1.length:Int)
def So(c:AW)(h:Int):Bool:=Kk h (c.1.length:Int)
def kS(c:AW)(l:Int):Bool:=Kk l (c.2.2.length:Int)
def QY(c:AW)(t h:Int):Int:=NK c<|dI c t||So c h
def HN(c:AW)(t h l:Int):Int:=NK c<|dI c t||(So c h||kS c l)
def Acb(c:AW)(h l:Int):Int:=NK c<|So c h||kS c l
def plV(s:BR)(n:Int):Rat:=let p:=(n:Rat)+(Az s.1+Az s.2.1+Az s.2.2.1);if p<0 then 0 else p
def Fh(c:AW)(t h:Int):Rat:=plV (Ct c h)<|KW c t h
def Nl(c:AW)(t h l:Int):Int:=Jf (Fh c t h) (Az (Dq c l).2.1) (Az (Dq c l).2.2.1)<|Az (Ct c h).2.2.2.1
def Ui(c:AW)(t h l:Int):Rat:=U3 (Fh c t h) (Az (Dq c l).2.1) (Az (Dq c l).2.2.1)<|Az (Ct c h).2.2.2.1
def Ue(c:AW)(t h:Int):BM:=jH (QY c t h)<|Fh c t h
def xF(c:AW)(t h:Int):Int:=pC (QY c t h)<|Fh c t h
def Ug(c:AW)(t h l:Int):Int:=if HN c t h l≠0 then 0 else Nl c t h l
def U6(c:AW)(t h l:Int):BM:=jH (HN c t h l)<|Ui c t h l
def xH(c:AW)(t h l:Int):Int:=pC (HN c t h l)<|Ui c t h l
def Ad9(c:AW)(t h:Int):BM:=A6<|Fh c t h
def zF:Aj:=((0,CT 0),(1,CT 1))
def iF(n:Int):Aj:=((n,CT n),(1,CT 1))
def gC(c:AW)(t h:Int):Aj:=Cf (iF<|KW c t h)<|Cf (Cf (Cf zF<|E8 (Ct c h).1)<|E8 (Ct c h).2.1)<|E8 (Ct c h).2.2.1
def N7(c:AW)(t h:Int):Aj:=if P0 (gC c t h)<0 then zF else gC c t h
def Ig(c:AW)(h:Int):Aj:=E8 (Ct c h).2.2.2.1
def GC(c:AW)(l:Int):Aj:=E8 (Dq c l).2.1
def Mc(c:AW)(l:Int):Aj:=E8 (Dq c l).2.2.1
def eU(c:AW)(t h l:Int):Aj:=if FN (N7 c t h) (Cf (GC c l)<|Ig c h)<=0 then Kv (Lh (N7 c t h)<|GC c l) (Cf (GC c l)<|Ig c h)else Cf (GC c l)<|Kv (Lh (NB (N7 c t h)<|Cf (GC c l)<|Ig c h)<|Mc c l)<|Cf (Mc c l)<|Ig c h
def AeR(c:AW)(t h:Int):Int:=nS<|N7 c t h
def Aex(c:AW)(t h:Int):List Int:=nW<|N7 c t h
def AeC(c:AW)(t h:Int):Int:=dS<|N7 c t h
def Aej(c:AW)(t h:Int):List Int:=dW<|N7 c t h
def AeP(c:AW)(t h l:Int):Int:=nS<|eU c t h l
def Aer(c:AW)(t h l:Int):List Int:=nW<|eU c t h l
def AeL(c:AW)(t h l:Int):Int:=dS<|eU c t h l
def Ad5(c:AW)(t h l:Int):List Int:=dW<|eU c t h l
def Td(l:List (Int×Int)):Bool:=l.any fun p=>Kk p.1 p.2
def Kf(c:AW)(l:List (Int×Int)):Int:=NK c<|Td l
def qX(c:AW)(t h:Int):Bool:=Kq c&&decide (QY c t h=0)
def pS(c:AW)(t h l:Int):Bool:=Kq c&&decide (HN c t h l=0)
def okO(c:AW)(h l:Int):Bool:=Kq c&&decide (Acb c h l=0)
def eF(l:BT):Bool:=decide (l.2.2.2.2.length<=4398046511104)
def smS(s:BR):Bool:=decide (s.2.2.2.2.length<=5864062014805)
def xU(c:AW):Bool:=decide (c.1.length<=1599289640401)&&decide (c.2.1.length<=3518437208883)&&decide (c.2.2.length<=1466015503701)&&c.1.all smS&&c.2.2.all eF
def GB(n:Int):Bool:=decide (-100000<n)&&decide (n<100000)
def JU(s:BM)(l:List BM):Int:=if isName s=false then 8 else if has l s=true then 9 else 0
end Go.Sp
namespace Go.Pe
open Sp
open Go.Det
abbrev CF:Sh:=.pair .str<|.pair .str<|.pair .str<|.pair (.list CS)<|.list CS
abbrev kZ:Sh:=.pair .str i64
abbrev Ce:Sh:=.pair .str<|.pair .str<|.pair .str<|.pair .str<|.list kZ
abbrev Ek:Sh:=.pair .str AdG
abbrev BX:Sh:=.pair (.list Ce)<|.pair (.list Ek)<|.list CF
def cT:An:=⟨[.str],fun _=>true,[.bool],fun s=>Sp.isName s,false⟩
def UE:An:=⟨[.str,i64,i64],fun i=>decide (qi (α:=UInt8) i.1<=1000000)&&GB i.2.1&&GB i.2.2,[i64],fun i=>BA i.1 i.2.1 i.2.2,false⟩
def AaQ:An:=⟨[.list CS],fun l=>KP l 40 20,[i64],fun l=>Mz l,false⟩
def cLv:An:=⟨[CF],fun l=>Sp.CF l,[i64],fun l=>Iq l,false⟩
def bT:An:=⟨[Ce],fun s=>Sp.Ce s,[i64],fun s=>KQ s,false⟩
def cCo:An:=⟨[BX],fun c=>Kq c,[i64],fun c=>Od c,false⟩
def Aar:An:=⟨[CF],fun l=>MW l,[i64],fun l=>Iq l,false⟩
def Abi:An:=⟨[BX],fun c=>dZ c,[i64],fun c=>Od c,false⟩
def JQ:An:=⟨[BX],fun c=>xU c,[BX],fun c=>c,false⟩
def iB:An:=⟨[CF],fun l=>eF l,[CF],fun l=>l,false⟩
def TY:An:=⟨[BX,.list<|.pair i64 i64],fun i=>Kq i.1&&decide (qi (α:=Int×Int) i.2<=1000),[i64],fun i=>Kf i.1 i.2,false⟩
def cPl:An:=⟨[BX,i64,i64],fun i=>qX i.1 i.2.1 i.2.2,[AB],fun i=>((AeR i.1 i.2.1 i.2.2,Aex i.1 i.2.1 i.2.2),(AeC i.1 i.2.1 i.2.2,Aej i.1 i.2.1 i.2.2)),false⟩
def cEf:An:=⟨[BX,i64,i64,i64],fun i=>pS i.1 i.2.1 i.2.2.1 i.2.2.2,[AB],fun i=>((AeP i.1 i.2.1 i.2.2.1 i.2.2.2,Aer i.1 i.2.1 i.2.2.1 i.2.2.2),(AeL i.1 i.2.1 i.2.2.1 i.2.2.2,Ad5 i.1 i.2.1 i.2.2.1 i.2.2.2)),false⟩
def Zk:An:=⟨[BX,i64,i64],fun i=>Kq i.1,[.str,i64],fun i=>(Ue i.1 i.2.1 i.2.2,xF i.1 i.2.1 i.2.2),false⟩
def yB:An:=⟨[BX,i64,i64,i64],fun i=>Kq i.1,[i64,i64],fun i=>(Ug i.1 i.2.1 i.2.2.1 i.2.2.2,HN i.1 i.2.1 i.2.2.1 i.2.2.2),false⟩
def Ab7:An:=⟨[BX,i64,i64,i64],fun i=>Kq i.1,[.str,i64],fun i=>(U6 i.1 i.2.1 i.2.2.1 i.2.2.2,xH i.1 i.2.1 i.2.2.1 i.2.2.2),false⟩
def Tg:An:=⟨[.str,.list .str],fun i=>decide (qi (α:=Z) i.2<=1000),[i64],fun i=>JU i.1 i.2,false⟩
def Adr:AT:=X7 [(122,EH),(55,Nj),(56,Uo),(103,cF),(51,Ib)]
def sC:AT:=X7 [(52,cT),(50,GY),(51,Ib),(122,EH),(55,Nj),(115,gA)]
def vZ:AT:=X7 [(52,cT),(50,GY),(51,Ib),(53,UE),(54,Lz),(55,Nj),(56,Uo),(57,AaQ)]
def wR:AT:=X7 [(52,cT),(50,GY),(51,Ib),(53,UE)]
def Lq:AT:=X7 [(63,kW),(64,bT),(52,cT),(50,GY),(51,Ib),(13,cLv)]
def tN:AT:=X7 [(15,cCo),(51,Ib)]
def IB:AT:=X7 []
def Acr:AT:=X7 [(62,EH),(36,Wg),(97,H3),(96,T8)]
def qT:AT:=X7 [(58,cT)]
def QZ:AT:=X7 [(58,cT),(59,UE),(60,Lz),(36,Wg),(61,Tg),(62,EH),(38,MS)]
def wH:AT:=X7 [(59,UE),(58,cT)]
def ES:AT:=X7 [(67,bT),(61,Tg),(14,Aar)]
def BK:AT:=YT [(10,[2])] [(10,[(2,[(1,BX)])])] [(10,[(18,[1,2,3,8]),(16,[1,2,3,8]),(14,[1,2,3,7]),(12,[1,2,3,7]),(9,[1,2,3,4,5,6]),(7,[1,2,3,4,5,6]),(5,[1,2,3,4]),(3,[1,2,3,4]),(2,[1,2,3])])] [(12,iB)]
end Go.Pe
namespace Go.Sp
def ceI(a:Aj):AG:=Ck<|El (Ck a.1) a.2
def ceS(a:Aj):Int:=(ceI a).1
def ceW(a:Aj):List Int:=(ceI a).2
def sO(c:AW):Int:=(c.2.1.length:Int)
def sF(c:AW):Int:=(c.1.length:Int)
def nLv(c:AW):Int:=(c.2.2.length:Int)
end Go.Sp
namespace Go.Pe
open Go.Det
abbrev Ad2:Sh:=.pair i64<|.pair i64 i64
def yS:An:=⟨[AB],fun a=>qo (a:Sp.Aj),[AY],fun a=>(Sp.ceS a,Sp.ceW a),false⟩
def jR:An:=⟨[AY],fun _=>true,[i64,.bool],fun a=>((a:Sp.AG).1,decide ((a:Sp.AG).2=[])),false⟩
def yL:An:=⟨[BX,i64],fun _=>true,[.pair i64 i64],fun i=>(i.2,Sp.sO i.1),false⟩
def jP:An:=⟨[BX,i64],fun _=>true,[.pair i64 i64],fun i=>(i.2,Sp.sF i.1),false⟩
def Yo:An:=⟨[BX,i64],fun _=>true,[.pair i64 i64],fun i=>(i.2,Sp.nLv i.1),false⟩
def yR:An:=⟨[i64,i64],fun _=>true,[.bool],fun i=>Sp.Kk i.1 i.2,false⟩
def Acy:AT:=X7 [(137,fV),(142,lY),(143,RK)]
def SG:AT:=YT [(72,[2])] [(72,[(2,[(3,BX),(7,Ce)])])] [(72,[(2,[1,2,3,6,7])])] [(55,Nj),(103,cF),(75,R4),(115,gA)]
def mR:AT:=YT [(79,[4,6])] [(79,[(4,[(10,AB),(11,AB),(12,AB),(13,AB),(14,AB)])])] [(79,[(4,[8,10,11,12,13,14]),(6,[8,10,11,12,13,14])])] [(72,cPl),(55,Nj),(56,Uo),(75,R4),(74,pG),(102,pA),(76,fM)]
def XZ:AT:=YT [(18,[6,7])] [(18,[(6,[(4,BX),(12,AB),(13,AB),(14,AB)])])] [(18,[(6,[1,2,4,8,9,12,13,14]),(7,[8,9,15])])] [(69,yL),(70,jP),(73,Yo),(68,TY),(71,Yq),(72,cPl),(79,cEf),(55,Nj),(75,R4),(74,pG),(76,fM),(77,yS),(78,jR)]
end Go.Pe
namespace Go.Sp
def fwP(l:List BB)(d:Int):Bool:=l.all fun p=>Co p.1 d&&Co p.2 d
def xY(l:List BB)(d:Int):Bool:=l.all fun p=>Co p.2 d
def Fm(l:BT)(n d:Int):Bool:=decide (l.1.length<=30)&&decide ((l.2.2.2.1.length:Int)<=n)&&decide ((l.2.2.2.2.length:Int)<=n)&&Co l.2.1 d&&Co l.2.2.1 d&&(fwP l.2.2.2.1 d&&xY l.2.2.2.2 d)
def Ku(s:BR)(n d:Int):Bool:=decide ((s.2.2.2.2.length:Int)<=n)&&Co s.1 d&&Co s.2.1 d&&Co s.2.2.1 d&&Co s.2.2.2.1 d
def dV(c:AW)(n d:Int):Bool:=decide ((c.1.length:Int)<=n)&&decide ((c.2.1.length:Int)<=n)&&decide ((c.2.2.length:Int)<=n)&&(c.1.all (fun s=>Ku s n d)&&(c.2.2.all (fun l=>Fm l n d)&&decide (Od c=0)))
def Zi(n d:Int):Bool:=decide (0<=n)&&decide (n<=8)&&decide (0<=d)&&decide (d<=9)
end Go.Sp
namespace Go.Pe
open Sp
open Go.Det
def Zx:An:=⟨[CF,i64,i64],fun i=>Zi i.2.1 i.2.2,[.bool],fun i=>Fm i.1 i.2.1 i.2.2,false⟩
def tJ:An:=⟨[BX,i64,i64],fun i=>Zi i.2.1 i.2.2&&qt (α:=CB) (Prod.fst<|Prod.snd (i.1:AW)) UB,[.bool],fun i=>dV i.1 i.2.1 i.2.2,false⟩
def XT:AT:=X7 [(89,ZR)]
def XQ:AT:=X7 [(89,ZR),(90,Zx),(16,Abi)]
def MV:An:=⟨[BX,Ad2],fun i=>Sp.xU i.1&&qt (α:=Sp.CB) (Prod.fst<|Prod.snd (i.1:Sp.AW)) Sp.UB,[.bool],fun _=>true,false⟩
def Ab5:AT:=X7 [(8,X9),(10,JQ),(31,tJ),(21,yR),(17,Zk),(18,yB),(19,Ab7),(32,Aco),(33,VL),(34,UJ),(35,eV),(36,Wg),(37,fW),(38,MS)]
section
open List Int Prod
namespace T6
def T(c:AW)(a:Int×Int×Int):Tr:=tree Ab5 false 9 6<|Ae ([BX,yu i64<|yu i64 i64]) (c,a)
theorem Ak(c:AW)(a:Int×Int×Int):T c a=let e:=snd<|snd<|snd<|getD (fst c) (toNat<|fst<|snd a) ([],[],[],[],[]);let g:=snd<|getD (snd<|snd c) (toNat<|snd<|snd a) ([],[],[],[],[]);let i:=zc .i64<|Ug c (fst a) (fst<|snd a) (snd<|snd a)-1;let d:Tr:=.ck true<|.leaf (.dat zk true) [];let h':=Ue c (fst a)<|fst<|snd a;let b:Tr:=.leaf (.bl false) [];let h:=U6 c (fst a) (fst<|snd a)<|snd<|snd a;let j:=(↑(length<|snd<|snd c):Int);let b':=FJ (fst<|snd g)<|fst e;let k:Tr:=.cd (length h<=1000000)<|.di (Ey h>=0) (.ck (B4 h&&EE h')<|.di (E0 h h'<=0) (.ite (!fst e==[(48:UInt8)]) (.leaf (.bl true) [])<|.leaf (.dat zk<|U6 c (fst a) (fst<|snd a) (snd<|snd a)==Ue c (fst a) (fst<|snd a)) []) b) b;let l':=FJ (fst g)<|fst e;let l:=Q1 (Ww i) b';let f:=FJ l' l;.ck true (.ite false d<|.ck (xU c)<|.ck (Zi 5 4&&qt (fst<|snd c) UB)<|.ite (!dV c 5 4) d<|.ck true<|.ite (Kk (fst a) (↑(length<|fst<|snd c):Int)) d<|.ck true<|.ite (Kk (fst<|snd a) (↑(length<|fst c):Int)) d<|.ck true<|.ite (Kk (snd<|snd a) j) d<|.ck (Kq c)<|.ck (Kq c)<|.ck (Kq c)<|.ite (zc .i64 (zc .i64 (xF c (fst a) (fst<|snd a)+HN c (fst a) (fst<|snd a) (snd<|snd a))+xH c (fst a) (fst<|snd a) (snd<|snd a)) !=0) b<|.ck (decide (2<=2)&&true&&(decide (2<=1000000)&&qt [Ue c (fst a)<|fst<|snd a,U6 c (fst a) (fst<|snd a)<|snd<|snd a] fun s=>decide (length s<=9223372036854775807)))<|.ite (Cw [Ue c (fst a)<|fst<|snd a,U6 c (fst a) (fst<|snd a)<|snd<|snd a] !=0) b<|.di (Ug c (fst a) (fst<|snd a) (snd<|snd a)<1) b<|.di (Ug c (fst a) (fst<|snd a) (snd<|snd a)>50000) b<|.ck (decide (0<=snd (snd a))&&decide (snd (snd a)<j))<|.ck (decide (0<=fst (snd a))&&decide (fst (snd a)<(↑(length<|fst c):Int)))<|.ck (B4 (fst<|snd g)&&B4 (fst e))<|.ck (B4 (fst g)&&B4 (fst e))<|.ck (XS i)<|.ck (B4 (Ww i)&&B4 b')<|.ck (B4 l'&&B4 l)<|.ck (B4 f&&EE h')<|.di (E0 f h'<0) b<|.di (Ug c (fst a) (fst<|snd a) (snd<|snd a)>1) (.ck (B4 f&&EE b')<|.ck (B4 (LB f b')&&EE h')<|.di (E0 (LB f b') h'>=0) b k) k):=by kernel_rfl
end T6
namespace T32
def T(l:List Z):Tr:=tree Yv false 9 32<|Ae ([zi zg]) l
def L1(v0:List Z)(v3:Int):Tr:=re ((T []))<|Av 19 [(0,.dat (zi zg) v0),(3,.dat i64 v3)] [] 0
theorem Ak(l:List Z):T l=L1 l 0:=by kernel_rfl
theorem Al(v0:List Z)(v3:Int):stepT Yv (L1 v0 v3)=let a:=getD v0 (toNat v3) [];let b':=decide (v3<(length v0:Int));.ite b' (.ck (decide (0<=v3)&&b')<|.cd (length a<=9223372036854775807)<|.ite (Sp.Am a !=0) (.leaf (.dat i64<|Sp.Am a) [])<|L1 v0<|zc .i64<|v3+1) (.leaf (.dat i64 (0:Int)) []):=by kernel_rfl
end T32
namespace T50
def T(l:List Int):Tr:=tree Wn false 9 50<|Ae ([zi i64]) l
def L1(v5:List Int)(b a:Int):Tr:=re ((T []))<|Av 15 [(5,.dat (zi i64) v5),(6,.dat i64 b),(7,.dat i64 a)] [] 0
theorem Ak(l:List Int):T l=L1 l ((length l:Int)) 0:=by kernel_rfl
theorem Al(v5:List Int)(b a:Int):stepT Wn (L1 v5 b a)=.di (a<b) (.ck (decide (0<=a)&&decide (a<(length v5:Int)))<|.ite (getD v5 (toNat a) 0 !=0) (.leaf (.dat i64<|getD v5 (toNat a) 0) [])<|L1 v5 b<|zc .i64<|a+1) (.leaf (.dat i64 (0:Int)) []):=by kernel_rfl
end T50
namespace T51
def T(c:Bool)(e:Int):Tr:=tree Wn false 9 51<|Ae ([zk,yr zo]) (c,e)
theorem Ak(c:Bool)(e:Int):T c e=.ite c (.leaf (.dat i64 e) []) (.leaf (.dat i64 (0:Int)) []):=by kernel_rfl
end T51
namespace T63
def T(n m:Int):Tr:=tree AcC false 9 63<|Ae ([yr zo,yr zo]) (n,m)
theorem Ak(n m:Int):T n m=.ck true (.ck true<|.ck (decide (2<=2)&&true&&decide (2<=1000000))<|.leaf (.dat i64<|qj [Cs (n==0) 12,Cs (decide (n>m)) 5]) []):=by kernel_rfl
end T63
namespace T71
def T(a:Aj):Tr:=tree AcV false 9 71<|Ae ([AB]) a
theorem Ak(a:Aj):T a=let b:=((fst a),fst<|snd a,snd<|snd a);.ck (Sp.De b) (.ite (IP b) (.leaf (.tup [.dat zg [],.dat i64 (4:Int)]) [])<|.ck (Sp.De b)<|.leaf (.tup [.dat zg<|J3 b,.dat i64 (0:Int)]) []):=by kernel_rfl
end T71
namespace T35
def T(n:Int):Tr:=tree yM false 9 35<|Ae ([yr zo]) n
theorem Ak(n:Int):T n=.ck (CG n) (.ck (CW (ye n,yf n))<|.leaf (.dat zg<|GF (ye n,yf n)) []):=by kernel_rfl
end T35
end
section
open List Int Prod
namespace T103
def T(n:Int):Tr:=tree pO false 9 103<|Ae ([yr zo]) n
theorem Ak(n:Int):T n=.ck true (.ck true<|.leaf (PV.agg [.dat i64 n,.dat wU<|Sp.CT n,.dat i64 (1:Int),.dat wU<|Sp.CT 1]) []):=by kernel_rfl
end T103
end
open Sp
section
open List Int Prod
namespace T174
def T(s t:Z):Tr:=tree XX0 false 9 174<|Ae ([zg,zg]) (s,t)
theorem Ak(s t:Z):T s t=let a:=(length t:Int);let b':=decide (toNat a<=length s);.di ((length s:Int)>=a) (.ck (decide (0<=a)&&decide (0<=toNat a)&&b')<|.ite (take (toNat a) s==t) (.ck (decide (0<=a)&&true&&b'&&decide (length s<=length s))<|.leaf (.dat zg<|take (z6 (length s)<|toNat a)<|drop (toNat a) s) [])<|.leaf (.dat zg s) []) (.leaf (.dat zg s) []):=by kernel_rfl
end T174
namespace T210
def T(a:AG):Tr:=tree XX1 false 9 210<|Ae ([AY]) a
theorem Ak(a:AG):T a=let c:=Bv<|Ag<|zp a;let b:=(↑(length c):Int);let b':=getD c (toNat<|zc .i64<|b-1) 0;.ck (Sp.C5 a) (.ite (b==0) (.leaf (.dat i64 (0:Int)) [])<|.ck (decide (0<=zc .i64 (b-1))&&decide (zc .i64 (b-1)<b))<|.ck (Sp.u64 b')<|.leaf (.dat i64<|zc .i64<|zc .i64 (64*zc .i64 (b-1))+Fo b') []):=by kernel_rfl
end T210
namespace T184
def T(a:AG):Tr:=tree Acl false 9 184<|Ae ([AY]) a
theorem Ak(a:AG):T a=.ck (Bb a) (.di (Oz a>1800) (.ck (Bb a)<|.ck (R6 (AZ<|zp a) [(45:UInt8)])<|.leaf (.dat zk<|decide ((↑(length<|A2<|AZ<|zp a):Int)>600)) [])<|.leaf (.bl false) []):=by kernel_rfl
end T184
namespace T134
def T(a:Aj):Tr:=tree XX2 false 9 134<|Ae ([AB]) a
theorem Ak(a:Aj):T a=.ck (Bb<|fst a) (.ite (Er<|fst a) (.leaf (.bl true) [])<|.ck (Bb<|snd a)<|.leaf (.dat zk<|Er<|snd a) []):=by kernel_rfl
end T134
namespace T135
def T(a:Aj):Tr:=tree XX2 false 9 135<|Ae ([AB]) a
theorem Ak(a:Aj):T a=let b:=zp<|fst a;.ck true (.ite (C4<|snd a) (.ck (Bb<|fst a)<|.leaf (.dat zg<|AZ b) [])<|.ck (Bb<|fst a)<|.cd (length (AZ b)+1<=4611686018427387904)<|.ck (Bb<|snd a)<|.cd (length (AZ b++[(47:UInt8)])+length (AZ<|zp<|snd a)<=4611686018427387904)<|.leaf (.dat zg<|AZ b++[(47:UInt8)]++AZ (zp<|snd a)) []):=by kernel_rfl
end T135
namespace T171
def T(l:List Z):Tr:=tree XX3 false 9 171<|Ae ([zi zg]) l
def L1(c:List Z)(b a:Int):Tr:=re ((T []))<|Av 18 [(6,.dat (zi zg) c),(7,.dat i64 b),(8,.dat i64 a)] [] 0
theorem Ak(l:List Z):T l=L1 l ((length l:Int)) 0:=by kernel_rfl
theorem Al(b:List Z)(c a:Int):stepT XX3 (L1 b c a)=let d:=getD b (toNat a) [];.di (a<c) (.ck (decide (0<=a)&&decide (a<(length b:Int)))<|.cd (length d<=1000000)<|.ite (Am d !=0) (.leaf (.dat i64<|Am d) [])<|L1 b c<|zc .i64<|a+1) (.leaf (.dat i64 (0:Int)) []):=by kernel_rfl
end T171
namespace T115
def T(a:Aj):Tr:=tree XX3 false 9 115<|Ae ([AB]) a
theorem Ak(a:Aj):T a=.ck (Sp.C5<|fst a) (.leaf (.dat i64<|Ic<|fst a) []):=by kernel_rfl
end T115
end
namespace T185
theorem Aq(neg:Bool)(V:Nat)(h0:0<V)(h:Small V)(hG:(Cu (V+1) V).length<=1000000)(e:Exit neg (Cu (V+1) V) Q):Ends Q0 (L1 neg (Bv (V:Int)) 1 [1000000000000000000]) Q:=by
 have d:V % 10^18<10^18:=qq _ af;have j:∀s,s=(if V/10^18=0 then zh (V % 10^18)else Gn 18<|V % 10^18)->[s]++(if V/10^18=0 then[]else Cu V<|V/10^18)=Cu (V+1) V:=by
  rintro s rfl;have k:Cu (V+1) V=if V<10^18 then[zh V]else Gn 18 (V % 10^18)::Cu V (V/10^18):=rfl
  rw[k];by_cases c:V<10^18
  ·rw[wd c,wd ae,wd ae,Nat.mod_eq_of_lt c];rfl
  ·rw[wc c,wc ae,wc ae];rfl
 have next:∀s,s=(if V/10^18=0 then zh (V % 10^18)else Gn 18<|V % 10^18)->Ends Q0 (L2 neg (Bv ((V/10^18:Nat):Int)) 1 1 [s] [1000000000000000000]) Q:=
  fun s i=>A0 neg _ hG e V (V/10^18) [s] ae (h.le<|Nat.div_le_self _ _)<|j s i
 refine yk (Al ..) (zd (w4 (by have:=Jt h0;omega))<|zd (Ab rfl h.div) ?_);rw[VM,Vl];rcases Nat.eq_zero_or_pos (V % 10^18)with f|f
 ·have q0:V/10^18≠0:=ae
  rw[f,show((0:Nat):Int)=0 from rfl,Lx];refine zl rfl (zd (w4 (by have:=Jt (V:=V/10^18) ae;omega))<|zd rfl (zd rfl (zd rfl (next _ ?_))));have hp:=Sf 0 af;rw[Lib.decDigits_one ae]at hp;rw[wc q0,f, <-hp];rfl
 ·rw[Vt (r:=((V % 10^18:Nat):Int)) ae ae];have g:List.getD [((V % 10^18:Nat):Int)] 0 0=((V % 10^18:Nat):Int):=rfl;rw[g,MC];have m:=Tk d;have b:((V % 10^18:Nat):Int)<1000000000000000000:=ae
  have l:0<(zh<|V % 10^18).length:=by
   rw[yq,Lib.nDigits];split<;>omega
  refine zd rfl (zd rfl (zd (Ab (Ab (w4<|yh _)<|w4 b) rfl) ?_));rw[wr _ ae ae];by_cases q0:V/10^18=0
  ·rw[q0];refine zl (by rw[show((0:Nat):Int)=0 from rfl,Lx];rfl)<|zd rfl ?_;have:=next _ rfl;rw[wd q0,q0]at this;exact this
  ·have a:=Sf _ d;refine zd (w4 (by have:=Jt (V:=V/10^18) ae;omega)) (zd (Ab (ad ae ae) rfl)<|zd (w4 ?_)<|zd rfl (next _ ?_))
   ·rw[<-zq,a];unfold Gn;rw[zq,List.length_replicate];omega
   ·rw[wc q0];exact a
end T185
theorem Aab(n:Nat):(18446744073709551616:Nat)^n<=10^(20*n):=by
 rw[Nat.pow_mul];exact Nat.pow_le_pow_left af n
theorem bS{V k:Nat}(h:(V:Int)<(Ao:Int)^k):V<18446744073709551616^k:=by
 rw[<-S6 k]at h;exact yv.mp h
theorem aR{V k:Nat}(h:(V:Int)<(Ao:Int)^k)(c:1<=k):(zh V).length<=20*k:=by
 rw[yq];obtain⟨j,b⟩:∃j,20*k=j+1:=⟨20*k-1,by omega⟩;have a:=Nat.lt_of_lt_of_le (bS h)<|Aab k;rw[b]at a ⊢;exact NU j V a
theorem HX{V:Nat}(h:Small V):(zh V).length<=180000:=aR (k:=9000) h.h af
theorem Mw:∀(f v:Nat) (s:Z),s∈Cu f v->0<s.length
 |0,v,s,h=>by cases h
 |f+1,v,s,h=>by
  have b:Cu (f+1) v=if v<10^18 then[zh v]else Gn 18 (v % 10^18)::Cu f (v/10^18):=rfl
  have a:∀r,0<(zh r).length:=fun r=>by rw[yq,Lib.nDigits];split<;>omega
  rw[b]at h;split at h
  ·rw[List.mem_singleton]at h;subst h;exact a _
  ·rcases List.mem_cons.1 h with rfl|h
   ·unfold Gn;rw[zq];have:=a<|v % 10^18;omega
   ·exact Mw f _ s h
theorem Pc:∀(l:List Z),(∀s∈l,0<s.length)->l.length<=l.flatten.length
 |[],_=>y8 _
 |s::l,h=>by
  have b:=Pc l fun x a=>h x<|List.mem_cons_of_mem _ a
  have c:=h s<|List.mem_cons_self ..;rw[List.flatten_cons,zq,yc];omega
theorem dG{V:Nat}(h:0<V):AZ (-(V:Int))=45::zh V:=Lib.itoa_neg V h
theorem wG(a:Af A9 213 UM):Dg Q0:=Aa rY<|Aa (T179.ok FI)<|Aa Ri<|Aa a<|Aa aD AI
namespace T185
theorem aB(neg:Bool){V:Nat}(f:Small V)(b:∀ob,Q (.dat .str (if neg=true then 45::zh V else zh V)) ob):Exit neg (Cu (V+1) V) Q:=by
 have a:=Mw (V+1) V;have d:=IF (V+1) V ae;have k:=HX f;have j:=Pc _ a;have hr:(Cu (V+1) V).flatten.length=(zh V).length:=by
  rw[<-d,yd,yd,List.map_reverse,List.sum_reverse]
 have e:0<(Cu (V+1) V).length:=by
  have g:Cu (V+1) V=if V<10^18 then[zh V]else Gn 18 (V % 10^18)::Cu V (V/10^18):=rfl
  rw[g];split<;>simp
 generalize Cu (V+1) V=G at*;unfold Exit;refine zw (fun c=>zd rfl (zd rfl ?_))<|fun c=>?_
 ·rw[wd c]at b;rw[wr _ ae ae];exact E5 G (45::zh V) (by rw[yc];omega) ae b G.length [45] _ 1 (y8 _) rfl rfl af (by rw[List.take_length,d];rfl)
 ·rw[wc<|by rw[c];decide]at b;rw[wr _ ae ae];obtain⟨i,h⟩:∃i,i+1=G.length:=⟨G.length-1,by omega⟩;exact FG G (zh V) ae ae b i h _ ae (a _<|List.getElem_mem _) d
theorem ok(b:Af A9 213 UM):Af A9 185 Aa6:=by
 refine Hp (X:=Q0) rfl (wG b) (d:=9) ag ag ag (fun(a:Int×List Int) f=>?_) (Be ag);have f:Bb a=true:=f;have j:=(BU f).1;have hr:=(D5 j).1;refine zt (Ak a)<|zw (fun c=>zd (DZ hr.1 hr.2)<|ze<|ya rfl rfl ?_)<|fun c=>zd j ?_
 ·have c:a.2=[]:=by simpa using c
  show AZ a.1=AZ (zp a);rw[Bo c]
 ·have c:a.2≠[]:=by rintro k;rw[k]at c;simp at c
  have l:=bounds f;have e:(9223372036854775808:Int)<=Ag (zp a):=by
   obtain⟨_,g⟩:=D5 j;obtain⟨s,w⟩:=a;rcases g with g|⟨_,_,m⟩
   ·exact wh g c
   ·rw[XJ c,Ai];have m:9223372036854775808<=As w:=m;split<;>omega
  obtain⟨V,p⟩:=zr<|AK<|zp a;have h:=Ai<|zp a;rw[p]at l e h ⊢;have i:Small V:=⟨l⟩;have t:=HX i;have hp:0<V:=ae
  have r:=Pc _<|Mw (V+1) V;have q:=IF (V+1) V ae;have o:(Cu (V+1) V).flatten.length=(zh V).length:=by
   rw[<-q,yd,yd,List.map_reverse,List.sum_reverse]
  refine Aq _ V hp i ae<|aB _ i fun ob=>ya rfl rfl ?_;show(if decide (zp a<0)=true then 45::zh V else zh V)=AZ (zp a);by_cases n:zp a<0
  ·rw[wd<|w4 n,show zp a= -(V:Int)from by omega,dG hp]
  ·rw[wc (by simpa using n),show zp a=(V:Int)from by omega,MC]
end T185
theorem XP{k:Nat}{n d:Int}(a:d≠0)(b:Ag n<(Ao:Int)^k)(c:Ag d<(Ao:Int)^k):KS k (zm n d):=by
 unfold KS;rw[Rat.num_divInt,Rat.den_divInt,wc a];constructor
 ·refine Int.lt_of_le_of_lt XV ?_;rw[Jj];have:Ag d.sign=1:=by rw[Ai,Int.natAbs_sign_of_ne_zero a];rfl
  rw[this,qk];exact b
 ·refine Int.lt_of_le_of_lt ?_ c;rw[Ai];exact Int.ofNat_le.mpr<|Nat.div_le_self _ _
theorem rA{f:Aj}(h:qo f=true)(h0:zp f.1≠0):qo (We f)=true:=by
 obtain⟨a1,a2,a,b,a0⟩:=E3 h;exact(Om a2 a1 h0).CP<|XP h0 b a
theorem ZD{f:Aj}(h:qo f=true):qo (uR f)=true:=by
 obtain⟨a1,a2,a,b,a0⟩:=E3 h;unfold qo Sp.De at*;have c:=Sl (k:=4000) (BU a1).1 ae ae<|SW (BU a1).1 a;exact Ab (Ab (GS c.1<|by show Ag (zp<|Ck f.1)<_;rw[HH,II];exact a)<|GS (BU a2).1 b)<|w4 a0
theorem YH:Dg XA3:=Aa T137.ok<|Aa T75.ok<|Aa T102.ok<|Aa T141.ok AI
theorem T74.ok:Af A9 74 pG:=by
 refine BN YH<|fun(i:((Int×List Int)×(Int×List Int))×((Int×List Int)×(Int×List Int))) c=>?_;obtain⟨a,b⟩:=i;have c:(qo a&&qo b)=true:=c;rw[zf]at c;obtain⟨b1,b2,lb1,lb2,b0⟩:=E3 c.2;exact zt (T74.Ak a b)<|zd (BU b1).1<|zd (Ab c.1<|ZD c.2)<|ze<|ya rfl rfl rfl
theorem T76.ok:Af A9 76 fM:=by
 refine BN YH<|fun(i:((Int×List Int)×(Int×List Int))×((Int×List Int)×(Int×List Int))) c=>?_;obtain⟨a,b⟩:=i;have c:(qo a&&qo b&&decide (zp b.1≠0))=true:=c;rw[zf,zf,w5]at c;exact zt (T76.Ak a b)<|zd (Ab c.1.2<|w4 c.2)<|zd (Ab c.1.1<|rA c.1.2 c.2)<|ze<|ya rfl rfl rfl
theorem T142.ok:Af A9 142 lY:=by
 refine BN GD<|fun(a:(Int×List Int)×(Int×List Int)) h=>?_;obtain⟨a1,a2,b,c,a0⟩:=E3 h;exact zt (T142.Ak a)<|zd (Ab (Ab a1 a2)<|w4 a0)<|ze<|ya rfl rfl rfl
end Go.Pe
namespace Go.Sp
theorem DI{a:Bool×List Int}(h:CW a=true):Ba a.2=true/\a.2.length<=3000/\(a.1=true->a.2≠[]):=by
 unfold CW at h;rw[zf,zf,w5,Bool.or_eq_true,w5,Bool.not_eq_true']at h;refine⟨h.1.1,h.1.2,fun k=>?_⟩;rcases h.2 with x|x
 ·rw[k]at x;cases x
 ·exact x
theorem G3{a:Bool×List Int}(h:CW a=true):Ag (vR a)=Au a.2/\0<=Au a.2:=by
 obtain⟨c,e,d⟩:=DI h;have h0:=AD (b:=B9) af (Bn c).2.1;have h0:0<=Au a.2:=h0;refine⟨?_,h0⟩;unfold vR;rw[Ai];split<;>omega
theorem PJ{a:Bool×List Int}(h:CW a=true):a.1=rN (vR a):=by
 obtain⟨c,f,d⟩:=DI h;obtain⟨_,h0⟩:=G3 h;unfold rN vR;cases e:a.1 with
 |false=>rw[wc af];symm;rw[w9];omega
 |true=>
  rw[wd rfl];symm;rw[w5];have:=Jk (b:=B9) af (Bn c).2.1 (Bn c).2.2<|d e;have:0<Au a.2:=this;omega
theorem AaR{a:Bool×List Int}(h:CW a=true):a.2=rW (vR a):=by
 unfold rW;rw[(G3 h).1];exact Jc (b:=B9) af (Bn (DI h).1).2.1 (Bn (DI h).1).2.2
theorem zK{a:Bool×List Int}(h:CW a=true):a=(rN<|vR a,rW<|vR a):=Prod.ext (PJ h)<|AaR h
theorem Xx(k:Nat):(B9:Int)^k=10^(9*k):=by
 have:(B9:Int)=10^9:=af
 rw[this, <-Int.pow_mul]
theorem sE{n:Int}{k:Nat}(h:n.natAbs<10^(9*k)):Ag n<(B9:Int)^k:=by
 rw[Ai,Xx];have:((10^(9*k):Nat):Int)=(10:Int)^(9*k):=by simp
 rw[<-this];exact yv.mpr h
theorem N5(n:Int):0<=Ag n:=by rw[Ai];omega
theorem KN(n:Int):Au (rW n)=Ag n:=C9 (b:=B9) af<|N5 n
theorem Fl(n:Int):vR (rN n,rW n)=n:=by
 unfold vR;show(if rN n=true then -Au (rW n)else Au<|rW n)=n;rw[KN,Ai];unfold rN;by_cases h:n<0
 ·rw[wd<|w4 h];omega
 ·rw[wc<|by simpa using h];omega
theorem Ua{n:Int}(h:n.natAbs<10^27000):CW (rN n,rW n)=true:=by
 have k:27000=9*3000:=rfl;rw[k]at h;obtain⟨c,_,i,f⟩:=Hk (n:=Ag n) (k:=3000) (N5 n) (sE h) af;unfold CW;have g:Ba (rW n)=true:=c;have d:(rW n).length<=3000:=f;rw[g,w4 d];cases b:rN n with
 |false=>rfl
 |true=>
  have:rW n≠[]:=by
   intro e;have a:=KN n;rw[e]at a;have a:0=Ag n:=a;unfold rN at b;have b:=w6 b;rw[Ai]at a;omega
  rw[w4 this];rfl
theorem eS(k:Nat):((10^k:Nat):Int)=(10:Int)^k:=by rw[z8];rfl
theorem AbL{x:Nat}(j k:Nat)(h:j<=k)(a:x<10^j):x<10^k:=Nat.lt_of_lt_of_le a (Nat.pow_le_pow_right af h)
theorem AbN{a:Bool×List Int}(h:CW a=true):(vR a).natAbs<10^27000:=by
 obtain⟨d,e,i⟩:=DI h;have f:=Bs (b:=B9) af (Bn d).2.1;have g:(B9:Int)^a.2.length<=(B9:Int)^3000:=AM af e;have c:Ag (vR a)<(B9:Int)^3000:=by rw[(G3 h).1];exact z7 f g
 rw[Ai,Xx]at c;have:=eS<|9*3000;rw[<-this]at c;have k:27000=9*3000:=rfl;rw[k];exact yv.mp c
theorem kC{neg:Bool}{w:List Int}{n:Int}(a:Aw B9 w)(c:Au w=Ag n)(b:n≠0->neg=rN n):(C1 neg w,Ax w)=(rN n,rW n):=by
 have h:=Go.Pe.MX (neg:=neg) a c;rw[h];have:(if neg=true then -Ag n else Ag n)=n:=by
  by_cases h0:n=0
  ·rw[h0];unfold Ag;split<;>simp
  ·rw[b h0];unfold rN;rw[Ai];by_cases h:n<0
   ·rw[wd<|w4 h];omega
   ·rw[wc<|by simpa using h];omega
 rw[this]
theorem EK{s:Z}(h:B4 s=true):CW (BZ s,BO s)=true/\vR (BZ s,BO s)=Bc s/\CW (BD s,Bt s)=true/\vR (BD s,Bt s)=AN s/\(Az s).num=Bc s/\((Az s).den:Int)=AN s/\EB s=true/\(Bc s).natAbs<10^4000/\(AN s).natAbs<10^4000:=by
 obtain⟨b,k⟩:=JB h;obtain⟨s1,s2⟩:=Tp h;have e:(Az s).num=Bc s/\((Az s).den:Int)=AN s:=by
  have:=Kr<|Az s;rw[b]at this;exact⟨this.1.symm,this.2.symm⟩
 have l1:(Bc s).natAbs<10^4000:=by rw[<-e.1];exact s1
 have a:(AN s).natAbs<10^4000:=by rw[<-e.2,yz];exact s2
 have m:∀x:Nat,x<10^4000->x<10^27000:=fun x i=>AbL 4000 27000 af i
 refine⟨Ua<|m _ l1,Fl _,Ua<|m _ a,Fl _,e.1,e.2,?_,l1,a⟩;obtain⟨d,f,g⟩:=Hq<|Az s;rw[b]at d f g;have j:=Go.Pe.T122.DB s;unfold EB Es;rw[w4 (p:=s.length<=5999) ae,w4 (p:=(AA s).length<=5999) ae,w4 (p:=(AS s).length<=5999) ae,yo,yo,Bool.and_true,zf];refine⟨?_,?_⟩
 ·obtain⟨l,i2,i3,i4⟩:=Ea (Az s).num;rw[d];unfold A2 at i2;split at i2
  ·next c=>rw[wd c,i2];exact D0 _
  ·next c=>rw[wc c,i2];exact D0 _
 ·rw[f];split
  ·rfl
  ·rw[wc<|FV<|D0 _];exact D0 _
end Go.Sp
namespace Go.Pe
open Sp
open Go.Det
theorem Tm{x:Int}{k:Nat}(h:x.natAbs<10^k):Ag x<(Ao:Int)^k:=by
 have a:((10^k:Nat):Int)=(10:Int)^k:=z8 ..;rw[Ai];refine z7 ?_<|fZ k;rw[<-a];exact yv.mpr h
theorem P6{q:Rat}{k:Nat}(h:Gm k q)(d:k<=4000):KS 4000 q:=by
 obtain⟨b,c⟩:=h.mono d;have a:=Tm (k:=4000) (x:=(q.den:Int)) (by rw[yz];exact c);rw[Ai,yz]at a;exact⟨Tm b,a⟩
def zG(s:Z):Aj:=((VQ s,Vx s),(TT s,Sv s))
theorem IL{s:Z}(h:B4 s=true):EX (zG s) (Az s):=by
 obtain⟨_,_,_,_,b,d,_,l1,a⟩:=EK h;have m:∀x:Int,x.natAbs<10^4000->Ag x<(Ao:Int)^9000:=fun x c=>z7 (Tm c) (AM af af)
 exact⟨(BU<|Ga<|D1<|m _ l1).1,(BU<|Ga<|D1<|m _ a).1,(LP _).trans b.symm,(LP _).trans d.symm⟩
theorem Z0{d:AG}(h:Sp.C5 d=true):C4 d=decide (zp d=1):=by
 unfold C4;rw[Bool.eq_iff_iff,zf,w5,w5,w5];refine⟨fun⟨f,g⟩=>by rw[Bo f];exact g,fun e=>?_⟩;by_cases c:d.2=[]
 ·rw[Bo c]at e;exact⟨c,e⟩
 ·obtain⟨_,a⟩:=D5 h;obtain⟨s,w⟩:=d;rcases a with a|⟨_,_,b⟩
  ·exact wh a c
  ·rw[XJ c]at e;have b:9223372036854775808<=As w:=b;split at e<;>omega
theorem aG{f:Aj}{q:Rat}(h:EX f q):IP f=Py q:=by
 unfold IP Er Py;rw[h.vn,h.vd]
theorem fB{f:Aj}{q:Rat}(h:EX f q):J3 f=A6 q:=by
 unfold J3 A6;rw[Z0 h.d,h.vn,h.vd];have e:decide ((q.den:Int)=1)=true↔q.den=1:=by rw[w5];omega
 by_cases c:q.den=1
 ·rw[wd<|e.2 c,wd c];rfl
 ·rw[wc<|fun k=>c<|e.1 k,wc c];show Lib.itoa q.num++47::Lib.itoa ((q.den:Nat):Int)=_;rw[Lib.itoa_nonneg]
theorem Yx{f:Aj}{q:Rat}(h:EX f q):ON f=jH 0 q/\Qw f=pC 0 q:=by
 unfold ON Qw jH pC;rw[aG h,fB h];exact⟨rfl,rfl⟩
theorem EX.De{f:Aj}{q:Rat}(h:EX f q)(a:KS 4000 q):Sp.De f=true:=by
 have:=h.CP a;unfold qo at this;rw[zf]at this;exact this.1
theorem EX.I3{f:Aj}{q:Rat}(h:EX f q):decide (zp f.1≠0)=decide (q≠0):=by
 rw[h.vn,decide_eq_decide,wm,Rat.num_eq_zero]
theorem EX.cmp{f g:Aj}{p q:Rat}(b:EX f p)(e:EX g q):FN f g=if p<q then -1 else if q<p then 1 else 0:=by
 unfold FN Cg;rw[b.vn,b.vd,e.vn,e.vd];have a:p<q↔p.num*(q.den:Int)<q.num*(p.den:Int):=Rat.lt_iff ..;have h:q<p↔q.num*(p.den:Int)<p.num*(q.den:Int):=Rat.lt_iff ..;by_cases c:p<q
 ·rw[wd c,wd<|a.1 c]
 ·rw[wc c,wc<|fun k=>c<|a.2 k];by_cases d:q<p
  ·rw[wd d,wd<|h.1 d]
  ·rw[wc d,wc<|fun k=>d<|h.2 k]
end Go.Pe
namespace Go.Sp
theorem oP{n:Int}(h:0<=n):n+1<=2^(Fo n).toNat:=by
 unfold Fo;split
 ·have:n=0:=ae
  subst this;decide
 ·have b:=Nat.lt_log2_self (n:=n.toNat);have e:((n.toNat.log2:Int)+1).toNat=n.toNat.log2+1:=ae
  have a:((2^(n.toNat.log2+1):Nat):Int)=(2:Int)^(n.toNat.log2+1):=z8 ..;rw[e, <-a];generalize 2^(n.toNat.log2+1)=P at*;omega
theorem Aaa{w:List Int}(d:Aw Ao w){k:Nat}(g:w.length=k+1):val Ao w<(Ao:Int)^k*(w.getD k 0+1):=by
 have a:=Cq (Ao:Int) w k ae;have e:=Bs (b:=(Ao:Int)) af<|AQ d k;rw[List.length_take,Nat.min_eq_left ae]at e;have c:w.drop k=[w.getD k 0]:=by
  rw[Cn ae,zn ae]
 rw[c]at a;have f:val Ao [w.getD k 0]=w.getD k 0:=by
  show w.getD k 0+(Ao:Int)*0=_;omega
 rw[f]at a;rw[ql,Int.mul_one];omega
theorem WY(k:Nat):((10^k:Nat):Int)=(10:Int)^k:=by rw[z8];rfl
theorem mC(k:Nat):2^(3*k)<=10^k:=by rw[Nat.pow_mul];exact Nat.pow_le_pow_left af k
theorem gD(k:Nat):(2:Int)^(3*k)<=10^k:=by
 have a:((2^(3*k):Nat):Int)<=((10^k:Nat):Int):=Int.ofNat_le.2<|mC k;rw[z8,z8]at a;exact a
theorem qD:(2:Int)^1800<=10^600:=by
 have h:=gD 600;have k:3*600=1800:=rfl;rw[k]at h;exact h
theorem qL{a:AG}(h:Oz a<=1800):Er a=false:=by
 have a0:0<=Ag (vI a):=by rw[Ai];omega
 have f:=C9 (b:=Ao) af a0;have c:=FO (b:=Ao) af<|Ag<|vI a;have key:Ag (vI a)<2^1800:=by
  unfold Oz at h;have f:val Ao (Bv<|Ag<|vI a)=Ag (vI a):=f;have c:Aw Ao (Bv<|Ag<|vI a):=c;generalize Bv (Ag<|vI a)=w at*;rw[<-f];by_cases d:w=[]
  ·subst d;show(0:Int)<_;exact Int.pow_pos af
  ·rw[wc d]at h;obtain⟨k,j⟩:∃k,w.length=k+1:=⟨w.length-1,by have:=yt.2 d;omega⟩;have l:=Aaa c j;have g:=Km (b:=(Ao:Int)) af c k;have hp:=oP g.1;have q:=(Go.Pe.SB g.1 (by have:(Ao:Int)=18446744073709551616:=rfl;omega)).1;rw[j,yi,show((k+1:Nat):Int)-1=(k:Int)by omega]at h;have o:(0:Int)<(Ao:Int)^k:=AR af k;have n:=zz hp<|yw o;have m:(Ao:Int)^k=2^(64*k):=by
    have:(Ao:Int)=2^64:=af
    rw[this, <-Int.pow_mul]
   rw[m, <-Int.pow_add]at n;rw[m]at l;have p:(2:Int)^(64*k+(Fo<|w.getD k 0).toNat)<=2^1800:=AM af ae;exact z7 l<|Int.le_trans n p
 have i:=z7 key qD;unfold Er QO;rw[w9];have:(vI a).natAbs<10^600:=by
  rw[Ai]at i;have e:=WY 600;rw[<-e]at i;exact yv.mp i
 have:=EU this af;omega
end Go.Sp
namespace Go.Pe
open Sp
open Go.Det
theorem uH:Dg XX0:=fun g sp h=>by cases h
theorem T174.ok:Af A9 174 TW:=by
 refine BN uH<|fun(i:Z×Z) a=>?_;obtain⟨s,t⟩:=i;have a:(decide (t=[45])&&decide (s.length<=1000000))=true:=a;rw[zf,w5,w5]at a;obtain⟨rfl,hl⟩:=a;have b:∀v ob,v=A2 s->Ad TW (s,[45]) (.dat .str v) ob:=fun v ob h=>ya rfl rfl h
 refine zt (T174.Ak s [45]) ?_;conv=>zeta
 cases s with
 |nil=>exact zl rfl (ze<|b _ _ rfl)
 |cons c r=>
  have k:Int.toNat (([(45:UInt8)].length:Nat):Int)=1:=rfl;have j:qd 1 (c::r)=[c]:=rfl;have g:qd (z6 (c::r).length 1) (qu 1 (c::r))=r:=zu<|y8 _;have f:(c::r).getD 0 0=c:=rfl;rw[k,j,g];refine zd (w4<|by simp;omega) (zd (by simp)<|zw (fun d=>zd (by simp)<|ze<|b _ _ ?_)<|fun d=>ze<|b _ _ ?_)
  ·have e:c=45:=by simpa using d
   unfold A2;rw[f,wd e];rfl
  ·have e:c≠45:=by simpa using d
   unfold A2;rw[f,wc e]
theorem vX:Dg XX1:=Aa (T179.ok FI)<|Aa T228.ok AI
theorem wA{a:AG}(h:Bb a=true):(Bv<|Ag<|zp a).length<=9000:=by
 have b:=bounds h;have h0:=AK<|zp a;refine N9 Ao af 9000 _ _ ?_;have e:((Ao^9000:Nat):Int)=(Ao:Int)^9000:=S6 9000;rw[<-e]at b;generalize Ao^9000=P at*;omega
theorem T210.ok:Af A9 210 kU:=by
 refine BN vX<|fun(a:Int×List Int) d=>?_;have d:Bb a=true:=d;have j:=(BU d).1;have m:=wA d;have e:=FO (b:=Ao) af<|Ag<|zp a;have e:Aw Ao (Bv<|Ag<|zp a):=e;have f:∀v ob,v=Oz a->Ad kU a (.dat i64 v) ob:=fun v ob h=>ya rfl rfl h
 unfold Oz at f;refine zt (T210.Ak a)<|zd j ?_;generalize Bv (Ag<|zp a)=w at*;refine zw (fun c=>ze<|f _ _ ?_)<|fun c=>?_
 ·have:w=[]:=qe.1 (by have:(w.length:Int)=0:=(by simpa using c);omega);rw[wd this]
 ·have c:(w.length:Int)≠0:=by simpa using c
  have i:w≠[]:=by rintro rfl;exact c rfl
  have g:=AX e<|w.length-1;have k:zc .i64 ((w.length:Int)-1)=((w.length-1:Nat):Int):=by rw[wr _ ae ae];omega
  have l:=SB (Sp.A5 g).1 (Sp.A5 g).2;rw[k,zj,wr (64*_) ae ae,wr _ ae ae];refine zd (ad ae ae)<|zd g<|ze<|f _ _ ?_;rw[wc i];omega
theorem kO:Dg Acl:=Aa T210.ok<|Aa (T185.ok gO)<|Aa T174.ok AI
theorem hH(n:Int):A2 (AZ n)=zh n.natAbs:=(Ea n).2.1
theorem Pn{a:AG}(h:Bb a=true):(AZ<|zp a).length<=180001:=by
 have b:=bounds h;have c:=Ai<|zp a;have d:(zh (zp a).natAbs).length<=180000:=HX ⟨by rw[<-c];exact b⟩;unfold AZ Lib.itoa;split
 ·rw[yc];omega
 ·rw[show(zp a).toNat=(zp a).natAbs by omega];omega
theorem T184.ok:Af A9 184 Yb:=by
 refine BN kO<|fun(a:Int×List Int) b=>?_;have b:Bb a=true:=b;have f:=Pn b;have e:∀v ob,v=Er a->Ad Yb a (.dat .bool v) ob:=fun v ob h=>ya rfl rfl h
 have d:∀v ob,v=Er a->Ad Yb a (.bl v) ob:=fun v ob h=>ya rfl rfl h
 refine zt (T184.Ak a) (zd b<|zw (fun c=>zd b<|zd (Ab (w4 rfl)<|w4<|by show(AZ<|zp a).length<=1000000;omega)<|ze<|e _ _ ?_)<|fun c=>ze<|d _ _ ?_)
 ·show decide (((A2<|AZ<|zp a).length:Int)>600)=Er a;rw[hH];unfold Er QO;rw[decide_eq_decide];omega
 ·have c:=w7 c;have c:¬Oz a>1800:=c;exact(qL ae).symm
theorem mT{a:AG}(h:NJ a=true):Bb a=true:=by
 unfold NJ at h;rw[zf,w5]at h;unfold Bb;rw[h.1,yo];exact w4 ae
theorem mM{a:Aj}(h:Sp.De a=true):Bb a.1=true/\Bb a.2=true:=by
 unfold Sp.De at h;rw[zf]at h;exact⟨mT h.1,mT h.2⟩
theorem ZB:Dg XX2:=Aa T184.ok<|Aa T138.ok<|Aa (T185.ok gO) AI
theorem T134.ok:Af A9 134 YM:=by
 refine BN ZB<|fun(a:(Int×List Int)×(Int×List Int)) ha=>?_;obtain⟨b,d⟩:=mM (a:=a) ha;refine zt (T134.Ak a)<|zd b<|zw (fun c=>ze<|ya rfl rfl ?_)<|fun c=>zd d<|ze<|ya rfl rfl ?_
 ·have c:Er a.1=true:=c;show true=(Er a.1||Er a.2);rw[c];rfl
 ·have c:Er a.1=false:=c;show Er a.2=(Er a.1||Er a.2);rw[c];rfl
theorem T135.ok:Af A9 135 lT:=by
 refine BN ZB<|fun(a:(Int×List Int)×(Int×List Int)) ha=>?_;obtain⟨b,d⟩:=mM (a:=a) ha;have l1:=Pn b;have e:=Pn d;refine zt (T135.Ak a) (zd rfl (zw (fun c=>zd b<|ze<|ya rfl rfl ?_)<|fun c=>zd b<|zd (w4<|by show(AZ<|zp a.1).length+1<=_;omega)<|zd d<|zd (w4<|by rw[zq,List.length_singleton];show(AZ<|zp a.1).length+1+(AZ<|zp a.2).length<=_;omega)<|ze<|ya rfl rfl ?_))
 ·have c:C4 a.2=true:=c;show AZ (zp a.1)=J3 a;unfold J3;rw[wd c]
 ·have c:C4 a.2=false:=c;show AZ (zp a.1)++[47]++AZ (zp a.2)=J3 a;unfold J3;rw[wc (by rw[c];decide),List.append_assoc];rfl
theorem Yd:Dg XX3:=Aa T122.ok<|Aa T161.ok AI
namespace T171
theorem Aq{Q:PV->Ob->Prop}(l:List Z)(n:l.length<=1000)(b:∀s∈l,s.length<=1000000):∀(r:List Z) (i:Nat),l.drop i=r->i<=l.length->(∀ob,Q (.dat i64<|Cw r) ob)->Ends XX3 (L1 l (l.length:Int) (i:Int)) Q
 |[],i,h,e,a=>by
  have:=drop_nil h e;exact yk (Al ..) (zl (w8 ae)<|ze<|a _)
 |x::r,i,h,e,a=>by
  obtain⟨m,j,f⟩:=drop_cons (d:=([]:Z)) h;have g:x∈l:=List.mem_of_mem_drop (by rw[h];exact List.mem_cons_self ..);have k:=wn (i:=i) ae;unfold Cw at a;refine yk (Al ..) ?_;conv=>zeta
  rw[zj,j,k];refine zd (w4 ae) (zd (ad ae ae)<|zd (w4<|b x g)<|zw (fun c=>ze ?_)<|fun c=>Aq l n b r (i+1) f m ?_)
  ·have c:Am x≠0:=by simpa using c
   rw[wd c]at a;exact a _
  ·have c:Am x=0:=by simpa using c
   rw[wc<|by rw[c];decide]at a;exact a
theorem ok:Af A9 171 Y8:=by
 refine BN Yd<|fun(l:List Z) a=>?_;have a:(decide (l.length<=1000)&&l.all fun s=>decide (s.length<=1000000))=true:=a;rw[zf,w5,List.all_eq_true]at a;exact zt (Ak l)<|Aq l a.1 (fun s h=>w6<|a.2 s h) l 0 rfl (Nat.zero_le _) (fun ob=>ya rfl rfl rfl)
end T171
theorem T115.ok:Af A9 115 gA:=by
 refine BN Yd<|fun(a:(Int×List Int)×(Int×List Int)) ha=>?_;exact zt (T115.Ak a)<|zd ha<|ze<|ya rfl rfl rfl
theorem T103.ok:Af A9 103 cF:=by
 refine BN GD<|fun(n:Int) _=>?_;exact zt (T103.Ak n)<|zd rfl (zd rfl (ze<|ya rfl rfl rfl))
theorem AaP{f:Aj}{q:Rat}(h:EX f q){e:Int}(a:e=0):(ON f,Qw f)=(jH e q,pC e q):=by
 rw[a,(Yx h).1,(Yx h).2]
theorem EX.div{f g:Aj}{p q:Rat}(b:EX f p)(c:EX g q)(sp:KS 4000 p)(a:KS 4000 q)(d:KS 4000 q⁻¹)(h0:q≠0):EX (Kv f g) (p/q):=by
 rw[Rat.div_def];exact EX.mul b (EX.inv c a h0) sp d
theorem Jo(x y:Int):qj [x,y]=if x≠0 then x else y:=by
 by_cases h:x≠0
 ·rw[wd h];unfold qj
  simp[h]
 ·rw[wc h];have h:x=0:=ae
  subst h;unfold qj qj qj
  simp;intro k;exact k.symm
theorem tU(n:Int):CT n=[]:=by unfold CT;split<;>rfl
theorem YK{n:Int}(h:CG n=true):Bb (n,CT n)=true/\zp (n,CT n)=n:=by
 rw[tU];have hr:=Et h;refine⟨?_,Bo rfl⟩;unfold Bb;rw[show Sp.C5 (n,([]:List Int))=true from Lb h,yo];rfl
theorem Acs(n:Int)(h:CG n=true):EX ((n,CT n),(1,CT 1)) (n:Rat):=by
 obtain⟨b,a⟩:=YK h;obtain⟨h3,h4⟩:=YK (n:=1) rfl;exact⟨(BU b).1,(BU h3).1,a.trans (qh n).symm,h4.trans rfl⟩
section
open List Int Prod
namespace T33
def T(a b:Z):Tr:=tree zI false 9 33<|Ae ([zg,zg]) (a,b)
def L1(v0 v1:Z):Tr:=re ((T [] []).L.L.L.R)<|Av 63 [(0,.dat zg v0),(1,.dat zg v1)] [] 0
theorem Ak(a b:Z):T a b=let c:=zc .i64<|zc .i64 (fE a*VP b)+zc .i64 (fE b*VP a);let b':=zc .i64<|VP a*VP b;.ck (B4 a) (.ck (B4 b)<|.ite (D4 a) (.ite (D4 b) (.ck (CG c&&CG b'&&decide (zc .i64 (VP a*VP b)≠0))<|.leaf (.dat zg<|Dp c b') [])<|L1 a b)<|L1 a b):=by kernel_rfl
theorem Al(v0 v1:Z):stepT zI (L1 v0 v1)=let b':=(HG (BZ v0,BO v0) (BD v1,Bt v1),HF (BZ v0,BO v0) (BD v1,Bt v1));let a:=(HG (BZ v1,BO v1) (BD v0,Bt v0),HF (BZ v1,BO v1) (BD v0,Bt v0));let b:=(HG (BD v0,Bt v0) (BD v1,Bt v1),HF (BD v0,Bt v0) (BD v1,Bt v1));let c:=(Nw b' a,Nb b' a);.ck (EB v0) (.ck (EB v1)<|.ck (CW (BZ v0,BO v0)&&CW (BD v1,Bt v1))<|.ck (CW (BZ v1,BO v1)&&CW (BD v0,Bt v0))<|.ck (CW b'&&CW a)<|.ck (CW (BD v0,Bt v0)&&CW (BD v1,Bt v1))<|.ck (CW c&&CW b&&decide (Sp.vR b≠0))<|.leaf (.dat zg<|Ij c b) []):=by kernel_rfl
end T33
namespace T34
def T(a b:Z):Tr:=tree zI false 9 34<|Ae ([zg,zg]) (a,b)
def L1(v0 v1:Z):Tr:=re ((T [] []).L.L.L.R)<|Av 55 [(0,.dat zg v0),(1,.dat zg v1)] [] 0
theorem Ak(a b:Z):T a b=let c:=zc .i64<|fE a*fE b;let b':=zc .i64<|VP a*VP b;.ck (B4 a) (.ck (B4 b)<|.ite (D4 a) (.ite (D4 b) (.ck (CG c&&CG b'&&decide (zc .i64 (VP a*VP b)≠0))<|.leaf (.dat zg<|Dp c b') [])<|L1 a b)<|L1 a b):=by kernel_rfl
theorem Al(v0 v1:Z):stepT zI (L1 v0 v1)=let a:=(HG (BD v0,Bt v0) (BD v1,Bt v1),HF (BD v0,Bt v0) (BD v1,Bt v1));let b':=(HG (BZ v0,BO v0) (BZ v1,BO v1),HF (BZ v0,BO v0) (BZ v1,BO v1));.ck (EB v0) (.ck (EB v1)<|.ck (CW (BZ v0,BO v0)&&CW (BZ v1,BO v1))<|.ck (CW (BD v0,Bt v0)&&CW (BD v1,Bt v1))<|.ck (CW b'&&CW a&&decide (Sp.vR a≠0))<|.leaf (.dat zg<|Ij b' a) []):=by kernel_rfl
end T34
namespace T147
def T(a:Z):Tr:=tree zI false 9 147<|Ae ([zg]) a
theorem Ak(a:Z):T a=.ck (EB a) (.ck (CW (BD a,Bt a)&&CW (BZ a,BO a)&&decide (Sp.vR (BZ a,BO a)≠0))<|.leaf (.dat zg<|Ij (BD a,Bt a) (BZ a,BO a)) []):=by kernel_rfl
end T147
namespace T37
def T(a b:Z):Tr:=tree XR7 false 9 37<|Ae ([zg,zg]) (a,b)
theorem Ak(a b:Z):T a b=.cd (length b<=1000000) (.ck (B4 a&&B4 (Lm b))<|.leaf (.dat zg<|FJ a<|Lm b) []):=by kernel_rfl
end T37
namespace T36
def T(a b:Z):Tr:=tree XR8 false 9 36<|Ae ([zg,zg]) (a,b)
theorem Ak(a b:Z):T a b=.ck (B4 a&&EE b) (.cd (length (LB a b)<=1000000)<|.leaf (.dat i64<|Ey<|LB a b) []):=by kernel_rfl
end T36
namespace T195
def T(a:List Int)(i:Int):Tr:=tree XR0 false 9 195<|Ae ([zi i64,yr zo]) (a,i)
theorem Ak(a:List Int)(i:Int):T a i=.di (i<(length a:Int)) (.ck (decide (0<=i)&&decide (i<(length a:Int)))<|.leaf (.dat i64<|getD a (toNat i) 0) []) (.leaf (.dat i64 (0:Int)) []):=by kernel_rfl
end T195
namespace T156
def T(a b:List Int):Tr:=tree Wl false 9 156<|Ae ([zi i64,zi i64]) (a,b)
def L1(v0 v1:List Int)(b a:Int):Tr:=re ((T [] []))<|Av 42 [(0,.dat (zi i64) v0),(1,.dat (zi i64) v1),(5,.nil),(6,.dat i64 b),(7,.dat i64 a)] [] 0
theorem Ak(a b:List Int):T a b=L1 a b 0 0:=by kernel_rfl
def L2(v0 v1:List Int)(a:Nat)(d b:Int)(c:List Int):Tr:=re ((stepT Wl<|L1 [] [] 0 0).L.L.L.L.L.L)<|Av 42 [(0,.dat (zi i64) v0),(1,.dat (zi i64) v1),(5,.sl 0 1 0 a none),(6,.dat i64 d),(7,.dat i64 b)] [(0,.arr false 3 i64 c)] 1
theorem Al(v0 v1:List Int)(b a:Int):stepT Wl (L1 v0 v1 b a)=.di (a<(length v0:Int)) (.cd (0<=a)<|.cd (0<=a)<|.ck true<|.ck (aa 8)<|.ck true<|L2 v0 v1 1 (zc .i64<|ym (zc .i64<|zc .i64 (Ia v0 a+Ia v1 a)+b) 1000000000) (zc .i64<|a+1)<|[zx (zc .i64<|zc .i64 (Ia v0 a+Ia v1 a)+b) 1000000000]) (.di (a<(length v1:Int)) (.cd (0<=a)<|.cd (0<=a)<|.ck true<|.ck (aa 8)<|.ck true<|L2 v0 v1 1 (zc .i64<|ym (zc .i64<|zc .i64 (Ia v0 a+Ia v1 a)+b) 1000000000) (zc .i64<|a+1)<|[zx (zc .i64<|zc .i64 (Ia v0 a+Ia v1 a)+b) 1000000000])<|.di (b>0) (.cd (0<=a)<|.cd (0<=a)<|.ck true<|.ck (aa 8)<|.ck true<|L2 v0 v1 1 (zc .i64<|ym (zc .i64<|zc .i64 (Ia v0 a+Ia v1 a)+b) 1000000000) (zc .i64<|a+1)<|[zx (zc .i64<|zc .i64 (Ia v0 a+Ia v1 a)+b) 1000000000])<|.leaf .nil []):=by kernel_rfl
theorem AJ(v0 v1:List Int)(b:Nat)(d a:Int)(c:List Int):stepT Wl (L2 v0 v1 b d a c)=.di (a<(length v0:Int)) (.cd (0<=a)<|.cd (0<=a)<|.ck true<|.ck (ac b (length c) 8)<|.ck true<|L2 v0 v1 (qv b 1) (zc .i64<|ym (zc .i64<|zc .i64 (Ia v0 a+Ia v1 a)+d) 1000000000) (zc .i64<|a+1)<|c++[zx (zc .i64<|zc .i64 (Ia v0 a+Ia v1 a)+d) 1000000000]) (.di (a<(length v1:Int)) (.cd (0<=a)<|.cd (0<=a)<|.ck true<|.ck (ac b (length c) 8)<|.ck true<|L2 v0 v1 (qv b 1) (zc .i64<|ym (zc .i64<|zc .i64 (Ia v0 a+Ia v1 a)+d) 1000000000) (zc .i64<|a+1)<|c++[zx (zc .i64<|zc .i64 (Ia v0 a+Ia v1 a)+d) 1000000000])<|.di (d>0) (.cd (0<=a)<|.cd (0<=a)<|.ck true<|.ck (ac b (length c) 8)<|.ck true<|L2 v0 v1 (qv b 1) (zc .i64<|ym (zc .i64<|zc .i64 (Ia v0 a+Ia v1 a)+d) 1000000000) (zc .i64<|a+1)<|c++[zx (zc .i64<|zc .i64 (Ia v0 a+Ia v1 a)+d) 1000000000])<|.leaf (.sl 0 1 0 b none)<|[(0,.arr false 3 i64 c)]):=by kernel_rfl
end T156
namespace T158
def T(a b:List Int):Tr:=tree Wl false 9 158<|Ae ([zi i64,zi i64]) (a,b)
def L1(v0 v1:List Int)(b a:Int):Tr:=re ((T [] []))<|Av 35 [(0,.dat (zi i64) v0),(1,.dat (zi i64) v1),(5,.nil),(6,.dat i64 b),(7,.dat i64 a)] [] 0
theorem Ak(a b:List Int):T a b=L1 a b 0 0:=by kernel_rfl
def L2(v0 v1:List Int)(a:Nat)(d b:Int)(c:List Int):Tr:=re ((stepT Wl<|L1 [] [] 0 0).L.L.L.L.L)<|Av 35 [(0,.dat (zi i64) v0),(1,.dat (zi i64) v1),(5,.sl 0 1 0 a none),(6,.dat i64 d),(7,.dat i64 b)] [(0,.arr false 3 i64 c)] 1
theorem Al(v0 v1:List Int)(b a:Int):stepT Wl (L1 v0 v1 b a)=.di (a<(length v0:Int)) (.ck (decide (0<=a)&&decide (a<(length v0:Int)))<|.cd (0<=a)<|.di (zc .i64 (zc .i64 (getD v0 (toNat a) 0-Ia v1 a)-b)<0) (.ck (aa 8)<|L2 v0 v1 1 1 (zc .i64<|a+1)<|[zc .i64<|zc .i64 (zc .i64 (getD v0 (toNat a) 0-Ia v1 a)-b)+1000000000])<|.ck (aa 8)<|L2 v0 v1 1 0 (zc .i64<|a+1)<|[zc .i64<|zc .i64 (getD v0 (toNat a) 0-Ia v1 a)-b]) (.ck true<|.leaf (.dat (zi i64)<|Ax []) []):=by kernel_rfl
theorem AJ(v0 v1:List Int)(a:Nat)(d b:Int)(c:List Int):stepT Wl (L2 v0 v1 a d b c)=.di (b<(length v0:Int)) (.ck (decide (0<=b)&&decide (b<(length v0:Int)))<|.cd (0<=b)<|.di (zc .i64 (zc .i64 (getD v0 (toNat b) 0-Ia v1 b)-d)<0) (.ck (ac a (length c) 8)<|L2 v0 v1 (qv a 1) 1 (zc .i64<|b+1)<|c++[zc .i64<|zc .i64 (zc .i64 (getD v0 (toNat b) 0-Ia v1 b)-d)+1000000000])<|.ck (ac a (length c) 8)<|L2 v0 v1 (qv a 1) 0 (zc .i64<|b+1)<|c++[zc .i64<|zc .i64 (getD v0 (toNat b) 0-Ia v1 b)-d]) (.ck (decide (0+a<=length c)&&true&&decide (length (take a c)<=20000))<|.leaf (.dat (zi i64)<|Ax<|take a c) []):=by kernel_rfl
end T158
namespace T94
def T(a b:Bool×List Int):Tr:=tree XR2 false 9 94<|Ae ([yu zk<|zi i64,yu zk<|zi i64]) (a,b)
theorem Ak(a b:Bool×List Int):T a b=.ite (fst a==fst b) (.ck (pV (snd a)<|snd b)<|.cd (length (QC (snd a)<|snd b)<=20000)<|.leaf (PV.agg [.dat zk<|C1 (fst a)<|QC (snd a)<|snd b,.dat (zi i64)<|Ax<|QC (snd a)<|snd b]) []) (.ck (Ba (snd a)&&Ba (snd b))<|.di (Cg (Au<|snd a) (Au<|snd b)>=0) (.ck (pV (snd a) (snd b)&&decide (Au (snd b)<=Au (snd a)))<|.cd (length (IS (snd a)<|snd b)<=20000)<|.leaf (PV.agg [.dat zk<|C1 (fst a)<|IS (snd a)<|snd b,.dat (zi i64)<|Ax<|IS (snd a)<|snd b]) [])<|.ck (pV (snd b) (snd a)&&decide (Au (snd a)<=Au (snd b)))<|.cd (length (IS (snd b)<|snd a)<=20000)<|.leaf (PV.agg [.dat zk<|C1 (fst b)<|IS (snd b)<|snd a,.dat (zi i64)<|Ax<|IS (snd b)<|snd a]) []):=by kernel_rfl
end T94
namespace T95
def T(a b:Bool×List Int):Tr:=tree XR2 false 9 95<|Ae ([yu zk<|zi i64,yu zk<|zi i64]) (a,b)
theorem Ak(a b:Bool×List Int):T a b=.ck (Sp.hR (snd a)&&Sp.hR (snd b)) (.cd (length (B5<|Au (snd a)*Au (snd b))<=20000)<|.leaf (PV.agg [.dat zk<|C1 (!fst a==fst b)<|B5<|Au (snd a)*Au (snd b),.dat (zi i64)<|Ax<|B5<|Au (snd a)*Au (snd b)]) []):=by kernel_rfl
end T95
namespace T153
def T(a:Bool×List Int):Tr:=tree XR2 false 9 153<|Ae ([yu zk<|zi i64]) a
theorem Ak(a:Bool×List Int):T a=.cd (length (snd a)<=20000) (.leaf (PV.agg [.dat zk<|C1 (!fst a)<|snd a,.dat (zi i64)<|Ax<|snd a]) []):=by kernel_rfl
end T153
namespace T96
def T(a:Bool×List Int):Tr:=tree XR3 false 9 96<|Ae ([yu zk<|zi i64]) a
def L1(v3:Z)(v4:Int)(b:Bool)(a:List Int):Tr:=re ((T (false,[])).R.L.L)<|Av 39 [(1,.ptr 0 0),(3,.dat zg v3),(4,.dat i64 v4)] [(0,.box [.dat zk b,.dat (zi i64) a])] 1
theorem Ak(a:Bool×List Int):T a=.ite ((↑(length<|snd a):Int)==0) (.leaf (.dat zg [(48:UInt8)]) []) (.ck (decide (0<=zc .i64 ((↑(length<|snd a):Int)-1))&&decide (zc .i64 ((↑(length<|snd a):Int)-1)<(↑(length<|snd a):Int)))<|.ck (decide (0<=getD (snd a) (toNat<|zc .i64<|(↑(length<|snd a):Int)-1) 0)&&decide (getD (snd a) (toNat<|zc .i64<|(↑(length<|snd a):Int)-1) 0<9223372036854775808)&&decide (0<=1)&&decide (1<=20))<|L1 (Il (getD (snd a) (toNat<|zc .i64<|(↑(length<|snd a):Int)-1) 0) 1) (zc .i64<|(↑(length<|snd a):Int)-2) (fst a)<|snd a):=by kernel_rfl
theorem Al(v3:Z)(v4:Int)(b:Bool)(a:List Int):stepT XR3 (L1 v3 v4 b a)=.di (v4>=0) (.ck (decide (0<=v4)&&decide (v4<(length a:Int)))<|.ck (decide (0<=getD a (toNat v4) 0)&&decide (getD a (toNat v4) 0<9223372036854775808)&&decide (0<=9)&&decide (9<=20))<|.cd (length v3+length (Il (getD a (toNat v4) 0) 9)<=4611686018427387904)<|L1 (v3++Il (getD a (toNat v4) 0) 9) (zc .i64<|v4-1) b a) (.ite b (.cd (1+length v3<=4611686018427387904)<|.leaf (.dat zg<|[(45:UInt8)]++v3) [])<|.leaf (.dat zg v3) []):=by kernel_rfl
end T96
namespace T93
def T(a b:Bool×List Int):Tr:=tree pU false 9 93<|Ae ([yu zk<|zi i64,yu zk<|zi i64]) (a,b)
def L1(o1:Bool)(b:List Int)(c:Bool)(a:List Int):Tr:=re ((T (false,[]) (false,[])).L.L.L)<|Av 57 [(2,.ptr 0 0),(3,.ptr 1 0)] [(1,.box [.dat zk o1,.dat (zi i64) b]),(0,.box [.dat zk c,.dat (zi i64) a])] 2
theorem Ak(a b:Bool×List Int):T a b=.ite (fst b) (.ck (CW a)<|.ck (CW b)<|L1 (S5 b) (Tf b) (S5 a)<|Tf a) (L1 (fst b) (snd b) (fst a)<|snd a):=by kernel_rfl
def L2(b:List Int)(a:Z):Tr:=re ((stepT pU<|L1 false [] false []).L.L.L.L.L)<|Av 57 [(8,.dat (zi i64) b),(10,.dat zg a)] [] 0
theorem Al(o1:Bool)(b:List Int)(c:Bool)(a:List Int):stepT pU (L1 o1 b c a)=.ck (Ba a&&Ba b&&decide (length a<=9000)&&decide (length b<=9000)) (.ck (Ba a&&Ba (Cy a b)&&decide (length a<=9000)&&decide (length (Cy a b)<=9000)&&decide (0<Au (Cy a b)))<|.ck (Ba b&&Ba (Cy a b)&&decide (length b<=9000)&&decide (length (Cy a b)<=9000)&&decide (0<Au (Cy a b)))<|.cd (length (B5<|Au a/Au (Cy a b))<=20000)<|.ck (CW (C1 c<|B5<|Au a/Au (Cy a b),Ax<|B5<|Au a/Au (Cy a b)))<|L2 (B5<|Au b/Au (Cy a b))<|GF (C1 c<|B5<|Au a/Au (Cy a b),Ax<|B5<|Au a/Au (Cy a b))):=by kernel_rfl
def L3(b:List Int)(a:Z):Tr:=re ((stepT pU<|L2 [] []).L.L.R)<|Av 57 [(8,.dat (zi i64) b),(10,.dat zg a)] [] 0
theorem AJ(b:List Int)(a:Z):stepT pU (L2 b a)=.ite ((length b:Int)==1) (.cd (0<(length b:Int))<|.ite (getD b 0 0==1) (.leaf (.dat zg a) [])<|L3 b a) (L3 b a):=by kernel_rfl
theorem Ca(b:List Int)(a:Z):stepT pU (L3 b a)=.cd (length a+1<=4611686018427387904) (.cd (length b<=20000)<|.ck (CW (C1 false b,Ax b))<|.cd (length (a++[(47:UInt8)])+length (GF (C1 false b,Ax b))<=4611686018427387904)<|.leaf (.dat zg<|a++[(47:UInt8)]++GF (C1 false b,Ax b)) []):=by kernel_rfl
end T93
namespace T40
def T(n d:Int):Tr:=tree eE false 9 40<|Ae ([yr zo,yr zo]) (n,d)
def L1(v0 v1:Int):Tr:=re ((T 0 0).R.R.R.R)<|Av 61 [(0,.dat i64 v0),(1,.dat i64 v1)] [] 0
theorem Ak(n d:Int):T n d=.di (n<(-4000000000000000000)) (.ck (CG n)<|.ck (CG d)<|.ck (CW (ye n,yf n)&&CW (ye d,yf d)&&decide (Sp.vR (ye d,yf d)≠0))<|.leaf (.dat zg<|Ij (ye n,yf n) (ye d,yf d)) []) (.di (n>4000000000000000000) (.ck (CG n)<|.ck (CG d)<|.ck (CW (ye n,yf n)&&CW (ye d,yf d)&&decide (Sp.vR (ye d,yf d)≠0))<|.leaf (.dat zg<|Ij (ye n,yf n) (ye d,yf d)) [])<|.di (d<(-4000000000000000000)) (.ck (CG n)<|.ck (CG d)<|.ck (CW (ye n,yf n)&&CW (ye d,yf d)&&decide (Sp.vR (ye d,yf d)≠0))<|.leaf (.dat zg<|Ij (ye n,yf n) (ye d,yf d)) [])<|.di (d>4000000000000000000) (.ck (CG n)<|.ck (CG d)<|.ck (CW (ye n,yf n)&&CW (ye d,yf d)&&decide (Sp.vR (ye d,yf d)≠0))<|.leaf (.dat zg<|Ij (ye n,yf n) (ye d,yf d)) [])<|L1 n d):=by kernel_rfl
def L2(v0 v1:Int):Tr:=re ((stepT eE<|L1 0 0).L)<|Av 61 [(0,.dat i64 v0),(1,.dat i64 v1)] [] 0
theorem Al(v0 v1:Int):stepT eE (L1 v0 v1)=.di (v1<0) (L2 (zc .i64<|0-v0)<|zc .i64<|0-v1) (L2 v0 v1):=by kernel_rfl
def L3(v0 v1:Int):Tr:=re ((stepT eE<|L2 0 0).L.L.L)<|Av 61 [(0,.dat i64 v0),(1,.dat i64 v1)] [] 0
theorem AJ(v0 v1:Int):stepT eE (L2 v0 v1)=.ck (Ab9 (imax v0<|zc .i64<|0-v0) v1) (.cd (Sp.gI (imax v0<|zc .i64<|0-v0) v1≠0)<|.cd (Sp.gI (imax v0<|zc .i64<|0-v0) v1≠0)<|L3 (zc .i64<|ym v0<|Sp.gI (imax v0<|zc .i64<|0-v0) v1)<|zc .i64<|ym v1<|Sp.gI (imax v0<|zc .i64<|0-v0) v1):=by kernel_rfl
def L4(v1:Int)(a:Z):Tr:=re ((stepT eE<|L3 0 0).L.L.L)<|Av 61 [(1,.dat i64 v1),(6,.dat zg a)] [] 0
theorem Ca(v0 v1:Int):stepT eE (L3 v0 v1)=.di (v0<0) (.ck (decide (0<=imax v0 (zc .i64<|0-v0))&&decide (imax v0 (zc .i64<|0-v0)<9223372036854775808)&&decide (0<=1)&&decide (1<=20))<|.cd (1+length (Il (imax v0<|zc .i64<|0-v0) 1)<=4611686018427387904)<|L4 v1<|[(45:UInt8)]++Il (imax v0<|zc .i64<|0-v0) 1) (.ck (decide (0<=imax v0 (zc .i64<|0-v0))&&decide (imax v0 (zc .i64<|0-v0)<9223372036854775808)&&decide (0<=1)&&decide (1<=20))<|.cd (0+length (Il (imax v0<|zc .i64<|0-v0) 1)<=4611686018427387904)<|L4 v1<|[]++Il (imax v0<|zc .i64<|0-v0) 1):=by kernel_rfl
theorem CD(v1:Int)(a:Z):stepT eE (L4 v1 a)=.di (v1>1) (.cd (length a+1<=4611686018427387904)<|.ck (decide (0<=v1)&&decide (v1<9223372036854775808)&&decide (0<=1)&&decide (1<=20))<|.cd (length (a++[(47:UInt8)])+length (Il v1 1)<=4611686018427387904)<|.leaf (.dat zg<|a++[(47:UInt8)]++Il v1 1) []) (.leaf (.dat zg a) []):=by kernel_rfl
end T40
namespace T98
def T(a b:Int):Tr:=tree NQ false 9 98<|Ae ([yr zo,yr zo]) (a,b)
def L1(v0 v1:Int):Tr:=re ((T 0 0))<|Av 12 [(0,.dat i64 v0),(1,.dat i64 v1)] [] 0
theorem Ak(a b:Int):T a b=L1 a b:=by kernel_rfl
theorem Al(v0 v1:Int):stepT NQ (L1 v0 v1)=.di (v1>0) (.cd (v1≠0)<|L1 v1<|zx v0 v1) (.leaf (.dat i64 v0) []):=by kernel_rfl
end T98
namespace T38
def T(s:Z):Tr:=tree NQ false 9 38<|Ae ([zg]) s
theorem Ak(s:Z):T s=let a:Tr:=.leaf (.dat i64 (1:Int)) [];.ite (s==[(48:UInt8)]) (.leaf (.dat i64 (0:Int)) []) (.di ((length s:Int)>0) (.cd (0<(length s:Int))<|.ite ((↑(UInt8.toNat<|getD s 0 (0:UInt8)):Int)==45) (.leaf (.dat i64 (-1:Int)) []) a) a):=by kernel_rfl
end T38
namespace T84
def T(s:Z):Tr:=tree XO2 false 9 84<|Ae ([zg]) s
theorem Ak(s:Z):T s=let a:=decide (length s<=1000000);.ck a (.di (Ey s<0) (.ck (decide (1<=length s)&&decide (length s<=length s))<|.leaf (.dat zg<|take (z6 (length s) 1)<|drop 1 s) [])<|.ck a<|.ite (Ey s==0) (.leaf (.dat zg s) [])<|.cd (1+length s<=4611686018427387904)<|.leaf (.dat zg<|[(45:UInt8)]++s) []):=by kernel_rfl
end T84
namespace T99
def T(n l:Int):Tr:=tree NQ false 9 99<|Ae ([yr zo,yr zo]) (n,l)
def L1(v0 v1:Int)(v5:Z):Tr:=re ((T 0 0))<|Av 25 [(0,.dat i64 v0),(1,.dat i64 v1),(5,.dat zg v5)] [] 0
theorem Ak(n l:Int):T n l=L1 n l []:=by kernel_rfl
theorem Al(v0 v1:Int)(v5:Z):stepT NQ (L1 v0 v1 v5)=let a:=zc .i64<|zx v0 10+1;let b:=toNat<|zx v0 10;let b':=drop b [(48:UInt8),49,50,51,52,53,54,55,56,57];let c:Tr:=.ck true<|.ck true<|.ck (decide (0<=zx v0 10)&&decide (0<=zc .i64 (zx v0 10+1))&&decide (toNat (zx v0 10)<=toNat a)&&decide (toNat a<=10))<|.cd (length (take (z6 (toNat a) b) b')+length v5<=4611686018427387904)<|.ck true<|L1 (zc .i64<|ym v0 10) v1<|take (z6 (toNat a) b) b'++v5;.di (v0>0) c (.di ((length v5:Int)<v1) c<|.leaf (.dat zg v5) []):=by kernel_rfl
end T99
namespace T91
def T(s:Z):Tr:=tree NN false 9 91<|Ae ([zg]) s
def L1(v5:Z)(a:Bool):Tr:=re ((T []).R.L.L)<|Av 54 [(5,.dat zg v5),(6,.dat zk a)] [] 0
def L2(v5:Z):Tr:=re ((T []).R.R)<|Av 54 [(5,.dat zg v5),(6,.bl false)] [] 0
theorem Ak(s:Z):T s=let a:=(length s:Int);.di (a>20) (.leaf (.tup [.dat i64 (0:Int),.dat i64 (0:Int),.bl false]) []) (.di (a>0) (.cd (0<a)<|L1 s<|(↑(UInt8.toNat<|getD s 0 (0:UInt8)):Int)==45)<|L2 s):=by kernel_rfl
def L3(v5:Z)(a:Bool):Tr:=re ((stepT NN<|L1 [] false).L.L)<|Av 54 [(5,.dat zg v5),(6,.dat zk a)] [] 0
theorem Al(v5:Z)(a:Bool):stepT NN (L1 v5 a)=.ite a (.ck (decide (1<=length v5)&&decide (length v5<=length v5))<|L3 (take (z6 (length v5) 1)<|drop 1 v5) a) (L3 v5 a):=by kernel_rfl
def L4(v5:Z):Tr:=re ((stepT NN<|L2 []))<|Av 54 [(5,.dat zg v5),(6,.bl false)] [] 0
theorem AJ(v5:Z):stepT NN (L2 v5)=L4 v5:=by kernel_rfl
def L5(v5:Z)(c:Bool)(a b v9:Int):Tr:=re ((stepT NN<|L3 [] false).L.R.R.L.L)<|Av 54 [(5,.dat zg v5),(6,.dat zk c),(7,.dat i64 a),(8,.dat i64 b),(9,.dat i64 v9)] [] 0
theorem Ca(v5:Z)(a:Bool):stepT NN (L3 v5 a)=let b:Tr:=.leaf (.tup [.dat i64 (0:Int),.dat i64 (0:Int),.bl false]) [];let b':=A3 v5;.cd (length v5<=1000000) (.di (A3 v5>9) b<|.di (zc .i64 ((length v5:Int)-A3 v5)>10) b<|.ck (decide (0<=A3 v5)&&decide (0<=toNat b')&&decide (toNat b'<=length v5))<|.ck (D9<|take (toNat b') v5)<|L5 v5 a b' (BP<|take (toNat b') v5) 1):=by kernel_rfl
def L6(v5:Z)(a b v9:Int):Tr:=re ((stepT NN<|L4 []).L.R.R.L.L)<|Av 54 [(5,.dat zg v5),(6,.bl false),(7,.dat i64 a),(8,.dat i64 b),(9,.dat i64 v9)] [] 0
theorem CD(v5:Z):stepT NN (L4 v5)=let a:Tr:=.leaf (.tup [.dat i64 (0:Int),.dat i64 (0:Int),.bl false]) [];let b':=A3 v5;.cd (length v5<=1000000) (.di (A3 v5>9) a<|.di (zc .i64 ((length v5:Int)-A3 v5)>10) a<|.ck (decide (0<=A3 v5)&&decide (0<=toNat b')&&decide (toNat b'<=length v5))<|.ck (D9<|take (toNat b') v5)<|L6 v5 b' (BP<|take (toNat b') v5) 1):=by kernel_rfl
def L7(b:Bool)(a v9:Int):Tr:=re ((stepT NN<|L5 [] false 0 0 0).L.L.L)<|Av 54 [(6,.dat zk b),(8,.dat i64 a),(9,.dat i64 v9)] [] 0
theorem Eu(v5:Z)(c:Bool)(a b v9:Int):stepT NN (L5 v5 c a b v9)=let b':=zc .i64<|a+1;let d:=take (z6 (length v5)<|toNat b')<|drop (toNat b') v5;.di (a<(length v5:Int)) (.ck (decide (0<=zc .i64 (a+1))&&true&&decide (toNat b'<=length v5)&&decide (length v5<=length v5))<|.ck (D9 d)<|L7 c b<|BP d) (L7 c b v9):=by kernel_rfl
def L8(a v9:Int):Tr:=re ((stepT NN<|L6 [] 0 0 0).L.L.L)<|Av 54 [(6,.bl false),(8,.dat i64 a),(9,.dat i64 v9)] [] 0
theorem EP(v5:Z)(a b v9:Int):stepT NN (L6 v5 a b v9)=let b':=zc .i64<|a+1;let c:=take (z6 (length v5)<|toNat b')<|drop (toNat b') v5;.di (a<(length v5:Int)) (.ck (decide (0<=zc .i64 (a+1))&&true&&decide (toNat b'<=length v5)&&decide (length v5<=length v5))<|.ck (D9 c)<|L8 b<|BP c) (L8 b v9):=by kernel_rfl
theorem DT(b:Bool)(a v9:Int):stepT NN (L7 b a v9)=.ite b (.leaf (.tup [.dat i64<|zc .i64<|0-a,.dat i64 v9,.bl true]) []) (.leaf (.tup [.dat i64 a,.dat i64 v9,.bl true]) []):=by kernel_rfl
theorem Hu(a v9:Int):stepT NN (L8 a v9)=.leaf (.tup [.dat i64 a,.dat i64 v9,.bl true]) []:=by kernel_rfl
end T91
namespace T144
def T(a:Z):Tr:=tree NQ false 9 144<|Ae ([zg]) a
theorem Ak(a:Z):T a=let b:Tr:=.ck (decide (1<=length a)&&decide (length a<=length a))<|.leaf (.dat zg<|take (z6 (length a) 1)<|drop 1 a) [];let b':Tr:=.ite false b<|.leaf (.dat zg a) [];.ite (a==[(48:UInt8)]) b' (.di ((length a:Int)>0) (.cd (0<(length a:Int))<|.ite ((↑(UInt8.toNat<|getD a 0 (0:UInt8)):Int)==45) (.ite true b<|.leaf (.dat zg a) []) b') b'):=by kernel_rfl
end T144
namespace T145
def T(a:Z):Tr:=tree XM5 false 9 145<|Ae ([zg]) a
theorem Ak(a:Z):T a=.cd (length a<=1000000) (.ck (decide (0<=A3 a)&&decide (0<=toNat (A3 a))&&decide (toNat (A3 a)<=length a))<|.leaf (.dat zg<|take (toNat<|A3 a) a) []):=by kernel_rfl
end T145
namespace T146
def T(a:Z):Tr:=tree XM5 false 9 146<|Ae ([zg]) a
theorem Ak(a:Z):T a=let b:=zc .i64<|A3 a+1;.cd (length a<=1000000) (.ite (A3 a==(length a:Int)) (.leaf (.dat zg [(49:UInt8)]) [])<|.ck (decide (0<=zc .i64 (A3 a+1))&&true&&decide (toNat b<=length a)&&decide (length a<=length a))<|.leaf (.dat zg<|take (z6 (length a)<|toNat b)<|drop (toNat b) a) []):=by kernel_rfl
end T146
namespace T89
def T(a:Z)(n:Int):Tr:=tree XM3 false 9 89<|Ae ([zg,yr zo]) (a,n)
theorem Ak(a:Z)(n:Int):T a n=let b:=decide (length a<=1000000);let b':Tr:=.leaf (.bl false) [];.di ((length a:Int)<=zc .i64 (zc .i64 (2*n)+2)) (.ck b<|.ite (Am a==0) (.ck b<|.cd (length (AA a)<=1000000)<|.di ((↑(length<|A2<|AA a):Int)<=n) (.ck b<|.leaf (.dat zk<|decide ((↑(length<|Sa a):Int)<=n)) []) b') b') b':=by kernel_rfl
end T89
end
theorem Zm:Dg XM5:=Aa T128.ok AI
theorem T144.ok:Af A9 144 Zr:=by
 refine BN E4<|fun(a:Z) i=>?_;have i:a.length<=1000000:=w6 i;have b:∀s ob,s=A2 a->Ad Zr a (.dat .str s) ob:=fun s ob h=>ya rfl rfl h
 refine zt (T144.Ak a)<|zw (fun c=>zl rfl (ze<|b _ _ ?_))<|fun c=>?_
 ·have c:a=[48]:=by simpa using c
  subst c;rfl
 ·cases a with
  |nil=>exact zl rfl (zl rfl (ze<|b _ _ rfl))
  |cons x r=>
   have f:(x::r).getD 0 0=x:=rfl;have e:(qu 1 (x::r)).take (z6 (x::r).length 1)=r:=by show r.take ((r.length+1)-1)=r;rw[yi];exact List.take_length
   rw[f,e];refine zd (by simp) (zd (by simp)<|zw (fun d=>zd rfl (zd (by simp)<|ze<|b _ _ ?_))<|fun d=>zl rfl (ze<|b _ _ ?_))
   ·have g:x=45:=by
     have:(x.toNat:Int)=45:=by simpa using d
     exact UInt8.toNat_inj.1 (by show _=45;omega)
    unfold A2;rw[f,wd g];rfl
   ·have g:x≠45:=by rintro rfl;exact wh d af
    unfold A2;rw[f,wc g]
theorem T145.ok:Af A9 145 jB:=by
 refine BN Zm<|fun(a:Z) hl=>?_;have b:=(qm a).1;refine zt (T145.Ak a)<|zd hl ?_;rw[show A3 a=((AA a).length:Int)from rfl,zj];exact zd (by simp;omega)<|ze<|ya rfl rfl (BQ a).1.symm
theorem T146.ok:Af A9 146 ZJ:=by
 refine BN Zm<|fun(a:Z) hl=>?_;have e:a.length<=1000000:=w6 hl;obtain⟨l,f,g⟩:=BQ a;have c:∀s ob,s=Sa a->Ad ZJ a (.dat .str s) ob:=fun s ob h=>ya rfl rfl h
 have k:=(qm a).1;have es:A3 a=((AA a).length:Int):=rfl;refine zt (T146.Ak a)<|zd hl ?_;rw[es];cases b:Bq a with
 |false=>
  refine zd (by rw[(g b).1];simp)<|ze<|c _ _ ?_;unfold Sa;rw[b];rfl
 |true=>
  obtain⟨m,j⟩:=f b;have d:zc .i64 (((AA a).length:Int)+1)=(((AA a).length+1:Nat):Int):=by rw[wr _ ae ae];omega
  have i:(a.drop<|(AA a).length+1).take (z6 a.length<|(AA a).length+1)=a.drop ((AA a).length+1):=zu (by rw[zy];exact y8 _);rw[d,zj,i];refine zl (by simp;omega) (zd (by simp;omega)<|ze<|c _ _ ?_);unfold Sa;rw[b,j];rfl
theorem qG:Dg XM3:=Aa T62.ok<|Aa T144.ok<|Aa T145.ok<|Aa T146.ok AI
theorem T89.ok:Af A9 89 ZR:=by
 refine BN qG<|fun(i:Z×Int) g=>?_;obtain⟨a,n⟩:=i;have g:(decide (0<=n)&&decide (n<=1000))=true:=g;rw[zf,w5,w5]at g;obtain⟨h0,h1⟩:=g;have f:∀v b ob,v=.bl b\/v=.dat .bool b->b=Co a n->Ad ZR (a,n) v ob:=by
  rintro v b ob (rfl|rfl) j
  ·exact ya rfl rfl j
  ·exact ya rfl rfl j
 have k:zc .i64 (zc .i64 (2*n)+2)=2*n+2:=by rw[wr (2*n) ae ae];exact wr _ ae ae
 have l:=(qm a).1;refine zt (T89.Ak a n) ?_;conv=>zeta
 rw[k];by_cases h:a.length<=1000000
 case neg=>
  have c:decide ((a.length:Int)<=2*n+2)=false:=w8 ae;refine zl c<|ze<|f _ _ _ (.inl rfl) ?_;unfold Co;rw[c];rfl
 refine zw (fun c=>zd (w4 h)<|zw (fun d=>zd (w4 h)<|zd (w4 ae)<|zw (fun e=>zd (w4 h)<|ze<|f _ _ _ (.inr rfl) ?_)<|fun e=>ze<|f _ _ _ (.inl rfl) ?_)<|fun d=>ze<|f _ _ _ (.inl rfl) ?_)<|fun c=>ze<|f _ _ _ (.inl rfl) ?_
 ·have d:Am a=0:=by simpa using d
  unfold Co;rw[c,e,w4 d];rfl
 ·unfold Co;rw[e];simp
 ·have d:Am a≠0:=by simpa using d
  unfold Co;rw[w8 d];simp
 ·unfold Co;rw[c];rfl
namespace T98
theorem Aq(g:Nat)(b:∀ob,Q (.dat i64 (g:Int)) ob):∀(f x y:Nat),y<f->Nat.gcd x y=g->Ends NQ (L1 (x:Int) (y:Int)) Q
 |0,x,y,h,_=>by omega
 |f+1,x,y,d,a=>by
  refine yk (Al ..) ?_;conv=>zeta
  by_cases h0:y=0
  ·subst h0;rw[Nat.gcd_zero_right]at a;subst a;exact zl rfl (ze<|b _)
  ·have e:zx (x:Int) (y:Int)=((x % y:Nat):Int):=by rw[y7<|yh x];rfl
   rw[e];have c:x % y<y:=qq _ ae;exact zd (by simp;omega) (zd (by simp;omega) (Aq g b f y (x % y) ae<|by rw[Nat.gcd_comm, <-Nat.gcd_rec,Nat.gcd_comm];exact a))
theorem ok:Af A9 98 zL:=by
 refine BN E4<|fun(i:Int×Int) c=>?_;obtain⟨a,b⟩:=i;have c:(decide (0<=a)&&decide (a<9223372036854775808)&&decide (0<=b)&&decide (b<9223372036854775808))=true:=c;rw[zf,zf,zf,w5,w5,w5,w5]at c;obtain⟨⟨⟨a0,_⟩,b0⟩,_⟩:=c;obtain⟨x,rfl⟩:=zr a0;obtain⟨y,rfl⟩:=zr b0;refine zt (Ak x y)<|Aq (Nat.gcd x y) (fun ob=>ya rfl rfl ?_) (y+1) x y (Nat.lt_succ_self _) rfl;show((Nat.gcd x y:Nat):Int)=Sp.gI (x:Int) (y:Int);rw[F8];rfl
end T98
namespace T38
theorem ok:Af A9 38 MS:=by
 refine BN E4<|fun(s:Z) hl=>?_;have a:∀v ob,v=Ey s->Ad MS s (.dat i64 v) ob:=fun v ob f=>ya rfl rfl f
 refine zt (Ak s)<|zw (fun c=>ze<|a _ _ ?_)<|fun c=>?_
 ·have c:s=[48]:=by simpa using c
  unfold Ey;rw[wd c]
 ·have c:¬s=[48]:=by simpa using c
  cases s with
  |nil=>exact zl rfl (ze<|a _ _ rfl)
  |cons x r=>
   have b:(x::r).getD 0 0=x:=rfl;rw[b];refine zd (by simp) (zd (by simp)<|zw (fun d=>ze<|a _ _ ?_)<|fun d=>ze<|a _ _ ?_)
   ·have e:x=45:=by
     have:(x.toNat:Int)=45:=by simpa using d
     exact UInt8.toNat_inj.1 (by show _=45;omega)
    unfold Ey;rw[wc c,b,wd e]
   ·have e:x≠45:=by rintro rfl;exact wh d af
    unfold Ey;rw[wc c,b,wc e]
end T38
theorem vC:Dg XO2:=Aa T38.ok AI
theorem T84.ok:Af A9 84 lU:=by
 refine BN vC<|fun(s:Z) b=>?_;have b:s.length<=1000000:=w6 b;have a:∀v ob,v=Lm s->Ad lU s (.dat .str v) ob:=fun v ob f=>ya rfl rfl f
 refine zt (T84.Ak s)<|zd (w4 b) ?_;unfold Lm at a;unfold Ey;by_cases c:s=[48]
 ·rw[wd c];rw[wd c]at a;exact zl rfl (zd (w4 b)<|zd rfl (ze<|a _ _ rfl))
 ·rw[wc c];rw[wc c]at a;by_cases d:s.getD 0 0=45
  ·rw[wd d];rw[wd d]at a;have e:s≠[]:=by rintro rfl;exact wh d af
   have hp:1<=s.length:=yt.2 e;refine zd rfl (zd (by simp;omega)<|ze<|a _ _ ?_);exact zu (by rw[zy];exact y8 _)
  ·rw[wc d];rw[wc d]at a;exact zl rfl (zd (w4 b)<|zl rfl (zd (by simp;omega)<|ze<|a _ _ rfl))
namespace T99
theorem dL:∀k:Fin 10,qd (z6 (k.1+1) k.1) (qu k.1 [(48:UInt8),49,50,51,52,53,54,55,56,57])=[y9<|48+k.1]:=af
theorem Aq{Q:PV->Ob->Prop}(l:Nat)(s:l<=20):∀(f n:Nat) (a:Z),n<9223372036854775808->n<10^f->l<=a.length+f->a.length+f<=64->(∀ob,Q (.dat .str<|HV (f+1) n l a) ob)->Ends NQ (L1 (n:Int) (l:Int) a) Q:=by
 intro f;induction f with
 |zero=>
  intro n a k d e i b;have h0:n=0:=by rw[Nat.pow_zero]at d;omega
  subst h0;unfold HV at b;rw[wd ⟨rfl,by omega⟩]at b;exact yk (Al ..) (zl rfl (zl (by simp;omega)<|ze<|b _))
 |succ f q=>
  intro n a k d e i b;have r:zx (n:Int) 10=((n % 10:Nat):Int):=by rw[y7<|yh n];rfl
  have p:zc .i64 (((n % 10:Nat):Int)+1)=((n % 10+1:Nat):Int):=by rw[wr _ ae ae];omega
  have m:zc .i64 (ym (n:Int) 10)=((n/10:Nat):Int):=by rw[Int.tdiv_eq_ediv_of_nonneg<|yh n,wr _ ae ae];rfl
  have g:=dL ⟨n % 10,qq _ af⟩;have g:qd (z6 (n % 10+1)<|n % 10) (qu (n % 10) [(48:UInt8),49,50,51,52,53,54,55,56,57])=[y9<|48+n % 10]:=g;have t:n % 10<10:=qq _ af;rw[Nat.pow_succ]at d;refine yk (Al ..) ?_;conv=>zeta
  rw[r,p,m,zj,zj,g];by_cases j:n=0/\l<=a.length
  ·obtain⟨o,z2⟩:=j;subst o;unfold HV at b;rw[wd ⟨rfl,z2⟩]at b;exact zl rfl (zl (by simp;omega)<|ze<|b _)
  ·have h:∀ob,Q (.dat .str<|HV (f+1) (n/10) l (y9 (48+n % 10)::a)) ob:=by
    intro ob;have:=b ob;unfold HV at this;rw[wc j]at this;exact this
   have go:Ends NQ (L1 ((n/10:Nat):Int) (l:Int)<|[y9<|48+n % 10]++a) Q:=q (n/10) (y9 (48+n % 10)::a) ae ae (by rw[yc];omega) (by rw[yc];omega) h;refine zw (fun _=>?_)<|fun c=>zd ?_ ?_
   ·exact zd rfl (zd rfl (zd (by simp;omega)<|zd (by simp;omega)<|zd rfl go))
   ·have c:=w7 c;exact w4 ae
   ·exact zd rfl (zd rfl (zd (by simp;omega)<|zd (by simp;omega)<|zd rfl go))
theorem ok:Af A9 99 O4:=by
 refine BN E4<|fun(i:Int×Int) c=>?_;obtain⟨a,b⟩:=i;have c:(decide (0<=a)&&decide (a<9223372036854775808)&&decide (0<=b)&&decide (b<=20))=true:=c;rw[zf,zf,zf,w5,w5,w5,w5]at c;obtain⟨⟨⟨a0,a1⟩,b0⟩,b1⟩:=c;obtain⟨x,rfl⟩:=zr a0;obtain⟨y,rfl⟩:=zr b0;refine zt (Ak x y) (Aq y ae 63 x [] ae ae (by show y<=0+63;omega) af<|fun ob=>ya rfl rfl ?_);show HV 64 x y []=HV 64 (x:Int).toNat (y:Int).toNat [];rw[zj,zj]
end T99
theorem rP:Dg NN:=Aa T152.ok<|Aa T128.ok AI
namespace T91
theorem Cz(neg:Bool)(n d:Int)(h0:0<=n)(b:n<1000000000)(a:∀ob,Q (.tup [.dat i64<|if neg=true then -n else n,.dat i64 d,.bl true]) ob):Ends NN (L7 neg n d) Q:=by
 refine yk (DT ..) ?_;conv=>zeta
 cases neg with
 |true=>
  refine zd rfl (ze ?_);rw[wr _ ae ae,Int.zero_sub];exact a _
 |false=>exact zl rfl (ze<|a _)
theorem CN(s:Z)(neg:Bool)(n:Int)(h0:0<=n)(d:n<1000000000)(l:s.length<=20)(m:(yn s).length<=9)(db:Ap (yn s)=true)(a:∀ob,Q (.tup [.dat i64<|if neg=true then -n else n,.dat i64<|if Bq s=true then AE 0 (yn s)else 1,.bl true]) ob):Ends NN (L5 s neg (A3 s) n 1) Q:=by
 obtain⟨o,i,g⟩:=BQ s;refine yk (Eu ..) ?_;conv=>zeta
 have es:A3 s=((AA s).length:Int):=rfl;have h:=(qm s).1;cases b:Bq s with
 |true=>
  rw[b]at a;obtain⟨e,c⟩:=i b;have f:zc .i64 (A3 s+1)=(((AA s).length+1:Nat):Int):=by rw[es,wr _ ae ae];omega
  have k:(yn s).length=s.length-((AA s).length+1):=by rw[c,zy]
  have j:(yn s).take (z6 s.length<|(AA s).length+1)=yn s:=zu (by show _<=s.length-_;omega);rw[f,zj, <-c,j];exact zd (by simp[es];omega) (zd (by simp;omega)<|zd (T149.B8 db ae)<|Cz neg n _ h0 d a)
 |false=>
  obtain⟨e,c⟩:=g b;rw[b]at a;exact zl (by simp[es,e])<|Cz neg n 1 h0 d a
theorem Dl(s:Z)(neg:Bool)(g:s.length<=20)(i:(AA s).length<=9)(k:(yn s).length<=9)(a:Ap (AA s)=true)(db:Ap (yn s)=true)(h:∀n ob,n=AE 0 (AA s)->Q (.tup [.dat i64<|if neg=true then -n else n,.dat i64<|if Bq s=true then AE 0 (yn s)else 1,.bl true]) ob):Ends NN (L3 s neg ) Q:=by
 obtain⟨l,f,d⟩:=BQ s;have es:A3 s=((AA s).length:Int):=rfl;have e:=(qm s).1;have b:s.length-(AA s).length<=10:=by
  cases c:Bq s with
  |true=>
   obtain⟨o,m⟩:=f c;have:(yn s).length=s.length-((AA s).length+1):=by rw[m,zy]
   omega
  |false=>rw[(d c).1];omega
 have j:qd (Int.toNat<|A3 s) s=AA s:=by rw[es,zj];exact l.symm
 obtain⟨v0,v1⟩:=T149.CI a i;refine yk (Ca ..) ?_;conv=>zeta
 rw[j];refine zd (by simp;omega) (zl (by simp[es];omega) (zl ?_<|zd (by simp[es];omega)<|zd (T149.B8 a ae) ?_))
 ·rw[es,wr _ ae ae];exact w8 ae
 ·exact CN s neg (AE 0<|AA s) v0 v1 g k db<|fun ob=>h _ ob rfl
theorem FG(n d:Int)(a:∀ob,Q (.tup [.dat i64 n,.dat i64 d,.bl true]) ob):Ends NN (L8 n d) Q:=by
 refine yk (Hu ..) ?_;conv=>zeta
 exact ze<|a _
theorem E5(s:Z)(n:Int)(m:s.length<=20)(k:(yn s).length<=9)(db:Ap (yn s)=true)(a:∀ob,Q (.tup [.dat i64 n,.dat i64<|if Bq s=true then AE 0 (yn s)else 1,.bl true]) ob):Ends NN (L6 s (A3 s) n 1) Q:=by
 obtain⟨l,i,f⟩:=BQ s;refine yk (EP ..) ?_;conv=>zeta
 have es:A3 s=((AA s).length:Int):=rfl;have h:=(qm s).1;cases b:Bq s with
 |true=>
  rw[b]at a;obtain⟨d,c⟩:=i b;have e:zc .i64 (A3 s+1)=(((AA s).length+1:Nat):Int):=by rw[es,wr _ ae ae];omega
  have g:(yn s).length=s.length-((AA s).length+1):=by rw[c,zy]
  have j:(yn s).take (z6 s.length<|(AA s).length+1)=yn s:=zu (by show _<=s.length-_;omega);rw[e,zj, <-c,j];exact zd (by simp[es];omega) (zd (by simp;omega)<|zd (T149.B8 db ae)<|FG n _ a)
 |false=>
  obtain⟨d,c⟩:=f b;rw[b]at a;exact zl (by simp[es,d])<|FG n 1 a
theorem B0(s:Z)(g:s.length<=20)(i:(AA s).length<=9)(k:(yn s).length<=9)(a:Ap (AA s)=true)(db:Ap (yn s)=true)(h:∀n ob,n=AE 0 (AA s)->Q (.tup [.dat i64 n,.dat i64<|if Bq s=true then AE 0 (yn s)else 1,.bl true]) ob):Ends NN (L4 s ) Q:=by
 obtain⟨l,f,d⟩:=BQ s;have es:A3 s=((AA s).length:Int):=rfl;have e:=(qm s).1;have b:s.length-(AA s).length<=10:=by
  cases c:Bq s with
  |true=>
   obtain⟨o,m⟩:=f c;have:(yn s).length=s.length-((AA s).length+1):=by rw[m,zy]
   omega
  |false=>rw[(d c).1];omega
 have j:qd (Int.toNat<|A3 s) s=AA s:=by rw[es,zj];exact l.symm
 obtain⟨v0,v1⟩:=T149.CI a i;refine yk (CD ..) ?_;conv=>zeta
 rw[j];refine zd (by simp;omega) (zl (by simp[es];omega)<|zl ?_<|zd (by simp[es];omega)<|zd (T149.B8 a ae) ?_)
 ·rw[es,wr _ ae ae];exact w8 ae
 ·exact E5 s (AE 0<|AA s) g k db<|fun ob=>h _ ob rfl
end T91
end Go.Pe
namespace Go.Sp
theorem Ho(a:List Int)(i:Nat):val B9 (a.drop i)=a.getD i 0+1000000000*val B9 (a.drop<|i+1):=by
 by_cases h:i<a.length
 ·rw[Cn h];rfl
 ·rw[zn ae,zn ae,show a.getD i 0=0 by rw[List.getD_eq_getElem?_getD,List.getElem?_eq_none ae];rfl];rfl
structure Ge(a b:List Int)(i:Nat)(o:List Int)(c:Int):Prop where
 len:o.length=i
 d:Aw B9 o
 c01:0<=c/\c<=1
 v:val B9 o+(B9:Int)^i*(c+val B9 (a.drop i)+val B9 (b.drop i))=Au a+Au b
 top:a.length<=i->b.length<=i->i=0\/(B9:Int)^(i-1)<=val B9 o+(B9:Int)^i*c
theorem Ge.start(a b:List Int):Ge a b 0 [] 0:=⟨rfl,(fun x c=>by cases c),by decide,by
 show 0+(B9:Int)^0*(0+val B9 a+val B9 b)=val B9 a+val B9 b;rw[Int.pow_zero,qk];omega,fun _ _=>.inl rfl⟩
theorem By{a:List Int}(h:Ba a=true)(i:Nat):0<=a.getD i 0/\a.getD i 0<1000000000:=GX (Bn h).2.1 i
theorem S1{a:List Int}(h:Ba a=true){i:Nat}(b:i<a.length)(c:a.length<=i+1):1<=a.getD i 0:=by
 have:=(Go.Pe.Gz (Bn h).2.1 (Bn h).2.2 (k:=i) ae).1;omega
theorem Ge.step{a b:List Int}{i:Nat}{o:List Int}{c:Int}(h:Ge a b i o c)(m:Ba a=true)(l:Ba b=true)(g:i<a.length\/i<b.length\/0<c):
  Ge a b (i+1) (o++[(a.getD i 0+b.getD i 0+c) % 1000000000]) ((a.getD i 0+b.getD i 0+c)/1000000000):=by
 obtain⟨u,t⟩:=By m i;obtain⟨y0,y1⟩:=By l i;obtain⟨c0,c1⟩:=h.c01;have n:=h.v;rw[Ho a i,Ho b i]at n;have j:1<=a.getD i 0+b.getD i 0+c\/¬(a.length<=i+1/\b.length<=i+1):=by
  by_cases k:a.length<=i+1/\b.length<=i+1
  ·refine .inl ?_;rcases g with g|g|g
   ·have:=S1 m g k.1;omega
   ·have:=S1 l g k.2;omega
   ·omega
  ·exact .inr k
 have s:=AD (b:=B9) af h.d;have p:=AR (b:=B9) af i;generalize a.getD i 0=x at*;generalize b.getD i 0=y at*;have f:val B9 (o++[(x+y+c) % 1000000000])=val B9 o+(B9:Int)^i*((x+y+c) % 1000000000):=by rw[Cp,h.len]
 refine⟨by rw[zq,h.len];rfl,FE h.d ae,by omega,?_,fun q r=>.inr ?_⟩
 ·rw[f,Kc,qp, <-ql, <-n];congr 2;omega
 ·rw[f,Kc,qp, <-ql,yi];have e:(x+y+c) % 1000000000+1000000000*((x+y+c)/1000000000)=x+y+c:=ae
  rw[e];rcases j with j|j
  ·have:=zz j<|yw p;rw[Int.mul_one]at this;omega
  ·exact wh ⟨q,r⟩ j
theorem Ads{o:List Int}(k:Aw B9 o)(h:o=[]\/(B9:Int)^(o.length-1)<=val B9 o):nz o:=by
 rcases h with rfl|h
 ·unfold nz;simp
 ·intro e;have a:o≠[]:=by rintro rfl;simp at e
  have f:o=o.dropLast++[0]:=by
   have d:=(List.dropLast_concat_getLast a).symm;rw[List.getLast?_eq_some_getLast a]at e;rw[Option.some.inj e]at d;exact d
  have i:o.length=o.dropLast.length+1:=by rw[List.length_dropLast];have:=yt.2 a;omega
  have g:val B9 o=val B9 o.dropLast:=by
   conv=>lhs;rw[f]
   rw[Cp,qf,qg]
  have c:Aw B9 o.dropLast:=fun x j=>k x (by rw[f];exact List.mem_append_left _ j)
  have:=Bs (b:=B9) af c;rw[g,i,yi]at h;omega
theorem Ge.fin{a b:List Int}{i:Nat}{o:List Int}(h:Ge a b i o 0)(e:a.length<=i)(g:b.length<=i):o=QC a b:=by
 have c:=h.v;rw[zn e,zn g]at c;have c:val B9 o+(B9:Int)^i*(0+0+0)=Au a+Au b:=c;rw[show(0+0+0:Int)=0 from rfl,qf,qg]at c;have f:=h.top e g;rw[qf,qg, <-h.len]at f;have j:nz o:=Ads h.d (by
  rcases f with k|k
  ·exact .inl<|qe.1 k
  ·exact .inr k)
 unfold QC;rw[<-c];exact Jc (b:=B9) af h.d j
structure GV(a b:List Int)(i:Nat)(o:List Int)(c:Int):Prop where
 len:o.length=i
 d:Aw B9 o
 c01:0<=c/\c<=1
 v:val B9 o+(B9:Int)^i*(val B9 (a.drop i)-val B9 (b.drop i)-c)=Au a-Au b
theorem GV.start(a b:List Int):GV a b 0 [] 0:=⟨rfl,(fun x c=>by cases c),by decide,by
 show 0+(B9:Int)^0*(val B9 a-val B9 b-0)=val B9 a-val B9 b;rw[Int.pow_zero,qk];omega⟩
theorem GV.step{a b:List Int}{i:Nat}{o:List Int}{c:Int}(h:GV a b i o c)(j:Ba a=true)(g:Ba b=true)(d e:Int)(l:(a.getD i 0-b.getD i 0-c<0/\d=a.getD i 0-b.getD i 0-c+1000000000/\e=1)\/(¬a.getD i 0-b.getD i 0-c<0/\d=a.getD i 0-b.getD i 0-c/\e=0)):
  GV a b (i+1) (o++[d]) e:=by
 obtain⟨m,k⟩:=By j i;obtain⟨y0,y1⟩:=By g i;obtain⟨c0,c1⟩:=h.c01;have f:=h.v;rw[Ho a i,Ho b i]at f;generalize a.getD i 0=x at*;generalize b.getD i 0=y at*;refine⟨by rw[zq,h.len];rfl,FE h.d ae,by omega,?_⟩;rw[Cp,h.len,Kc,qp, <-ql, <-f];congr 2;omega
theorem GV.fin{a b:List Int}{o:List Int}{c:Int}(h:GV a b a.length o c)(g:Ba b=true)(j:Au b<=Au a):Ax o=IS a b:=by
 have e:=h.v;rw[List.drop_length]at e;have h0:=AD (b:=B9) af<|E1 (Bn g).2.1 a.length;have f:=Bs (b:=B9) af h.d;rw[h.len]at f;obtain⟨n,m⟩:=h.c01;have l:=AR (b:=B9) af a.length;have e:val B9 o+(B9:Int)^a.length*(0-val B9 (b.drop a.length)-c)=Au a-Au b:=e;generalize val B9 (b.drop a.length)=z at*;have i:0-z-c=0:=by
  rcases Int.lt_or_le (0-z-c) 0 with k|k
  ·have:=zz (show 0-z-c<= -1 by omega)<|yw l;rw[Int.mul_neg,Int.mul_one]at this;omega
  ·omega
 rw[i,qf,qg]at e;unfold IS;rw[Gf h.d, <-e];rfl
open Go.Lib
theorem Xv(n:Int):rN n=decide (n<0):=rfl
theorem Nk(a:Bool×List Int):(a.1=true->vR a= -Au a.2)/\(a.1=false->vR a=Au a.2):=by
 unfold vR;exact⟨fun h=>by rw[wd h],fun h=>by rw[wc<|by rw[h];decide]⟩
theorem Qb{neg:Bool}{w:List Int}{n:Int}(c:Aw B9 w)(h0:0<=Au w)(a:neg=true->n= -Au w)(b:neg=false->n=Au w):(C1 neg w,Ax w)=(rN n,rW n):=by
 refine kC c ?_<|fun d=>?_
 ·rw[Ai];cases neg with
  |true=>have:=a rfl;omega
  |false=>have:=b rfl;omega
 ·rw[Xv];cases neg with
  |true=>have:=a rfl;symm;rw[w5];omega
  |false=>have:=b rfl;symm;rw[w9];omega
theorem Jr{n:Int}(h:0<=n):Au (B5 n)=n/\Aw B9 (B5 n):=⟨C9 (b:=B9) af h,FO (b:=B9) af n⟩
theorem Z5{a b:Bool×List Int}(e:CW a=true)(c:CW b=true)(h:a.1=b.1):(C1 a.1<|QC a.2 b.2,Ax<|QC a.2 b.2)=(Nw a b,Nb a b):=by
 have a0:=(G3 e).2;have g:=(G3 c).2;obtain⟨f,d⟩:=Nk a;obtain⟨f1,f2⟩:=Nk b;obtain⟨hv,hd⟩:=Jr (n:=Au a.2+Au b.2) ae;refine Qb hd (by show 0<=Au (B5 _);omega) (fun k=>?_)<|fun k=>?_
 ·rw[f k,f1<|by rw[<-h];exact k];show _= -Au (B5 _);omega
 ·rw[d k,f2<|by rw[<-h];exact k];show _=Au (B5 _);omega
theorem Zz{a b:Bool×List Int}(c:CW b=true)(h:a.1≠b.1)(f:Au b.2<=Au a.2):(C1 a.1<|IS a.2 b.2,Ax<|IS a.2 b.2)=(Nw a b,Nb a b):=by
 have g:=(G3 c).2;obtain⟨d,e⟩:=Nk a;obtain⟨f1,f2⟩:=Nk b;obtain⟨hv,hd⟩:=Jr (n:=Au a.2-Au b.2) ae;refine Qb hd (by show 0<=Au (B5 _);omega) (fun k=>?_)<|fun k=>?_
 ·rw[d k,f2 (by rw[k]at h;cases c:b.1 with|true=>exact wh c.symm h|false=>rfl)];show _= -Au (B5 _);omega
 ·rw[e k,f1 (by rw[k]at h;cases c:b.1 with|true=>rfl|false=>exact wh c.symm h)];show _=Au (B5 _);omega
theorem tB{a b:Bool×List Int}(d:CW a=true)(h:a.1≠b.1)(c:Au a.2<=Au b.2):(C1 b.1<|IS b.2 a.2,Ax<|IS b.2 a.2)=(Nw a b,Nb a b):=by
 have:=Zz d (fun k=>h k.symm) c;rw[this];unfold Nw Nb;rw[Int.add_comm]
theorem gU{a b:Bool×List Int}(h:CW a=true)(g:CW b=true):(C1 (a.1 !=b.1)<|B5<|Au a.2*Au b.2,Ax<|B5<|Au a.2*Au b.2)=(HG a b,HF a b):=by
 have a0:=(G3 h).2;have i:=(G3 g).2;obtain⟨f,e⟩:=Nk a;obtain⟨f1,f2⟩:=Nk b;have p0:=Int.mul_nonneg a0 i;obtain⟨hv,hd⟩:=Jr p0;refine Qb hd ae (fun k=>?_)<|fun k=>?_
 ·rw[hv];cases c:a.1<;>cases d:b.1<;>rw[c,d]at k
  ·exact wh k af
  ·rw[e c,f1 d,Int.mul_neg]
  ·rw[f c,f2 d,Int.neg_mul]
  ·exact wh k af
 ·rw[hv];cases c:a.1<;>cases d:b.1<;>rw[c,d]at k
  ·rw[e c,f2 d]
  ·exact wh k af
  ·exact wh k af
  ·rw[f c,f1 d,Int.neg_mul,Int.mul_neg,Int.neg_neg]
theorem iG{a:Bool×List Int}(b:CW a=true):(C1 (!a.1) a.2,Ax a.2)=(S5 a,Tf a):=by
 have a0:=(G3 b).2;obtain⟨c,d⟩:=Nk a;refine Qb (Bn (DI b).1).2.1 a0 (fun k=>?_)<|fun k=>?_
 ·rw[d<|by simpa using k]
 ·rw[c (by simpa using k),Int.neg_neg]
theorem wS{w:List Int}{i:Nat}(a:w.length=i+1):val B9 (w.drop i)=w.getD i 0:=by
 rw[Ho,zn ae];show _+1000000000*0=_;omega
theorem XH{w:List Int}(a:Ba w=true){i:Nat}(b:w.length=i+1):Il (w.getD i 0) 1=decDigits (val B9<|w.drop i).toNat/\0<val B9 (w.drop i):=by
 have g:=By a i;have t:=S1 a (i:=i) ae ae;rw[wS b];exact⟨Px g.1 ae,by omega⟩
theorem dJ{w:List Int}(a:Ba w=true)(i:Nat)(h0:0<val B9 (w.drop<|i+1)):decDigits (val B9<|w.drop<|i+1).toNat++Il (w.getD i 0) 9=decDigits (val B9<|w.drop i).toNat/\0<val B9 (w.drop i):=by
 have g:=By a i;rw[Ho w i,aU g.1 g.2];generalize val B9 (w.drop<|i+1)=V at*;generalize w.getD i 0=x at*;have h:=Tx 9 V.toNat x.toNat af ae ae;refine⟨?_,by omega⟩;rw[<-h];congr 1;omega
theorem nO{a:Bool×List Int}(d:CW a=true)(c:a.2≠[]):(if a.1=true then 45::decDigits (Au a.2).toNat else decDigits (Au a.2).toNat)=GF a:=by
 obtain⟨e,f⟩:=Nk a;have h0:0<Au a.2:=Jk (b:=B9) af (Bn (DI d).1).2.1 (Bn (DI d).1).2.2 c;unfold GF AZ itoa;by_cases h:a.1=true
 ·rw[wd h,e h,wd ae,show(-Au a.2).natAbs=(Au a.2).toNat by omega]
 ·have h:a.1=false:=by simpa using h
  rw[wc (by rw[h];decide),f h,wc ae]
theorem mA{a:Bool×List Int}(h:a.2=[]):[48]=GF a:=by
 have:vR a=0:=by
  unfold vR;rw[h];split<;>rfl
 unfold GF AZ itoa;rw[this,wc af,show(0:Int).toNat=0 from rfl,decDigits_one af];rfl
theorem HC{N D:Int}(b:0<D):0<gI (Ag N) D/\Ag N/gI (Ag N) D=Ag (zm N D).num/\D/gI (Ag N) D=((zm N D).den:Int)/\(N<0↔(zm N D).num<0):=by
 have i:D.sign=1:=Int.sign_eq_one_of_pos b;have e:(zm N D).num=N/(qn N D:Int):=by rw[Rat.num_divInt,i,qk,Int.gcd_comm]
 have f:((zm N D).den:Int)=D/(qn N D:Int):=by
  rw[Rat.den_divInt,wc<|Int.ne_of_gt b,Int.gcd_comm,Int.natCast_ediv];rw[Int.natAbs_of_nonneg<|yw b]
 have l:gI (Ag N) D=(qn N D:Int):=by rw[F8,Ai];rfl
 have a:0<qn N D:=Int.gcd_pos_of_ne_zero_right _ ae;obtain⟨k,d⟩:(qn N D:Int)∣N:=Int.gcd_dvd_left ..;rw[l,e,f];have a:(0:Int)<(qn N D:Int):=ae
 generalize (qn N D:Int)=g at*;have c:N/g=k:=by rw[d,qc _ ae]
 have j:Ag N/g=Ag k:=by
  rw[Ai,Ai,d,Int.natAbs_mul,Int.natCast_mul,show((g.natAbs:Nat):Int)=g by omega,qc _ ae]
 refine⟨a,by rw[c,j],rfl,?_⟩;rw[c];constructor
 ·intro h;rcases Int.lt_or_le k 0 with x|x
  ·exact x
  ·have:=Int.mul_nonneg (yw a) x;omega
 ·intro h;have:=Int.mul_neg_of_pos_of_neg a h;omega
theorem fX{N D:Int}(d:0<D){neg:Bool}(c:neg=rN N):(C1 neg<|B5<|Ag N/gI (Ag N) D,Ax<|B5<|Ag N/gI (Ag N) D)=(rN (zm N D).num,rW (zm N D).num):=by
 obtain⟨_,a,_,b⟩:=HC (N:=N) d;rw[a];have a0:=N5 (zm N D).num;obtain⟨hv,hd⟩:=Jr a0;refine kC hd hv<|fun _=>?_;rw[c,Xv,Xv,decide_eq_decide];exact b
theorem qS{n:Int}(h0:0<=n):B5 n=[1]↔n=1:=by
 constructor
 ·intro h;have:=(Jr h0).1;rw[h]at this;exact this.symm
 ·rintro rfl;rfl
theorem Rj{N D:Int}:Dp N D=if (zm N D).den=1 then AZ (zm N D).num else AZ (zm N D).num++47::AZ ((zm N D).den:Int):=by
 unfold Dp A6;split
 ·rfl
 ·rw[show AZ ((zm N D).den:Int)=decDigits (zm N D).den from Lib.itoa_nonneg _];rfl
theorem V9(N D:Int):Dp (-N) (-D)=Dp N D:=by
 unfold Dp;rw[Rat.neg_divInt_neg]
theorem Qv{s:Z}(h:B4 s=true):Bc s=Ja s/\AN s=SS s/\Ap (AA<|A2 s)=true/\Ap (AS<|A2 s)=true:=by
 obtain⟨t,_⟩:=JB h;obtain⟨c1,c2,c3⟩:=Hq<|Az s;obtain⟨p1,p2,p3,p4⟩:=TG s;obtain⟨i1,i2,i3,i4⟩:=Ea (Az s).num;rw[t]at c1 c2 c3;have b:Ap (AS s)=true:=by
  rw[c2];split
  ·rfl
  ·exact D0 _
 refine⟨?_,?_,?_,?_⟩
 ·unfold Bc Ja Cr;rw[p1, <-p4];unfold A2 preB;by_cases a:(AA s).getD 0 0=45
  ·rw[wd a,wd a,wd<|w4 a]
  ·rw[wc a,wc a,wc<|by rw[w8 a];decide]
 ·unfold AN SS Cr;rw[p2,p3,wc<|FV b]
 ·rw[p1,c1,i2];exact D0 _
 ·rw[p2];exact b
theorem Gw{s:Z}(h:B4 s=true)(a:D4 s=true):fE s=Bc s/\VP s=AN s/\ -1000000000<Bc s/\Bc s<1000000000/\0<AN s/\AN s<1000000000:=by
 obtain⟨b,c,e,f⟩:=Qv h;have g:0<AN s:=by
  have:=(EK h).2.2.2.2.2.1;have:=(Az s).den_pos;omega
 unfold fE VP;rw[wd a,wd a];unfold D4 at a;rw[zf,zf,w5,w5,w5]at a;obtain⟨⟨_,l1⟩,d⟩:=a;have i:=Bi e;have l:=Bi f;have k:(10:Int)^(AA<|A2 s).length<=10^9:=AM af l1;have j:(10:Int)^(AS<|A2 s).length<=10^9:=AM af d;refine⟨b.symm,c.symm,?_,?_,g,?_⟩
 ·rw[b];unfold Ja;split<;>omega
 ·rw[b];unfold Ja;split<;>omega
 ·rw[c];unfold SS;split<;>omega
theorem bG{a b:Z}(g:B4 a=true)(c:B4 b=true):FJ a b=Dp (Bc a*AN b+AN a*Bc b) (AN a*AN b)/\FJ a b=Dp (Bc a*AN b+Bc b*AN a) (AN a*AN b):=by
 have d:AN a≠0:=by
  have:=(EK g).2.2.2.2.2.1;have:=(Az a).den_pos;omega
 have f:AN b≠0:=by
  have:=(EK c).2.2.2.2.2.1;have:=(Az b).den_pos;omega
 have e:FJ a b=Dp (Bc a*AN b+Bc b*AN a) (AN a*AN b):=by
  unfold FJ Dp Az;rw[Rat.divInt_add_divInt _ _ d f]
 exact⟨by rw[e,Int.mul_comm (AN a)<|Bc b],e⟩
theorem bR{a b:Z}:Q1 a b=Dp (Bc a*Bc b) (AN a*AN b):=by
 unfold Q1 Dp Az;rw[Rat.divInt_mul_divInt]
theorem Z4{a:Z}:qJ a=Dp (AN a) (Bc a):=by
 unfold qJ Dp Az;rw[Rat.inv_divInt]
end Go.Sp
