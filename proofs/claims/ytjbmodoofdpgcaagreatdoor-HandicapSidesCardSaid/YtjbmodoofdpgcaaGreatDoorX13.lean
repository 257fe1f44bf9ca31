import Derived.Test.YtjbmodoofdpgcaaGreatDoorX12
/- A part of a proof; no law is stated here. -/
noncomputable section
set_option maxRecDepth 10000
open Go.IntKind renaming wrap -> zc, i64 -> ye
open Go.Pe.Ends renaming tt -> zd, leaf -> zf, ite -> zi, Ap -> zn, ff -> zo, eq -> zp
open Bool renaming and_eq_true -> ze, true_and -> yr
open Go.Lib renaming decDigits -> zg, itoa -> zt, decDigits_one -> yv, decDigits_length -> yx
open Go.Pe.Sh renaming str -> zh, list -> zm, bool -> zq, pair -> qe, int -> qz
open Rat renaming divInt -> zj, num_divInt_den -> yh, num_eq_zero -> yz, num_divInt -> qf, num_intCast -> qv, den_divInt -> qy
open Int renaming natAbs_natCast -> zk, toNat_natCast -> zl, natAbs_mul -> zx, tmod -> yb, eq_ofNat_of_zero_le -> yd, mul_le_mul_of_nonneg_left -> yf, lt_of_lt_of_le -> yj, mul_ne_zero -> yk, tdiv -> ym, le_of_lt -> yq, lt_of_le_of_lt -> yt, gcd -> yw, natAbs_sign_of_ne_zero -> qg, tmod_eq_emod_of_nonneg -> qi, natCast_nonneg -> qj, natAbs_ediv_le_natAbs -> ql, one_mul -> qm, mul_neg -> qn, mul_ediv_cancel_left -> qo, tdiv_eq_ediv_of_dvd -> qq, mul_zero -> qt, add_zero -> qu, ediv_nonneg -> qw, mul_add -> jc, mul_nonneg -> je, add_assoc -> jf, ofNat_lt -> jh, gcd_comm -> jj
open Go.Sp renaming rW -> zr, rN -> zw, AR -> yo, B9 -> yy, CZ -> jg, gI -> ji
open List renaming length_cons -> zu, take_of_length_le -> zz, drop_eq_nil_of_le -> z6, length_drop -> yc, length_append -> yi, length_eq_zero_iff -> qp, take -> jk
open Go.Pe.Ac renaming of -> zy
open Nat renaming lt_of_le_of_lt -> z7, pow_le_pow_right -> z8, lt_of_lt_of_le -> yg, le_refl -> yn, sub -> yp, pow_succ -> qd, add_sub_cancel -> qh, add -> jl
open UInt8 renaming ofNat -> yu, toNat_inj -> qc
open Go.Pe.PV renaming agg -> q9
namespace Go.Sp
theorem Fq{n d:Int}(a:d≠0):(zj n d).num.natAbs<=n.natAbs/\(zj n d).den<=d.natAbs:=by
 rw[qf,qy,wc a];refine⟨?_,Nat.div_le_self _ _⟩;refine Nat.le_trans (ql _ _) ?_;rw[zx,qg a,Nat.one_mul];exact yn _
theorem Ki{n d:Int}{k:Nat}(a:d≠0)(b:n.natAbs<10^k)(c:d.natAbs<10^k):Fo k (zj n d):=
 ⟨z7 (Fq a).1 b,z7 (Fq a).2 c⟩
theorem Fo.mono{j k:Nat}{q:Rat}(h:Fo j q)(a:j<=k):Fo k q:=
 ⟨yg h.1 (z8 af a),yg h.2<|z8 af a⟩
theorem Dz{a b i j:Nat}(c:a<10^i)(d:b<10^j):a*b<10^(i+j):=by
 rw[Nat.pow_add];exact z7 (Nat.mul_le_mul_left _<|Nat.le_of_lt d) ((Nat.mul_lt_mul_right<|Nat.pow_pos af).2 c)
theorem Iv(q:Rat):(q.den:Int)≠0:=by have:=q.den_pos;omega
theorem Fo.mul{p q:Rat}{i j:Nat}(a:Fo i p)(b:Fo j q):Fo (i+j) (p*q):=by
 have h:=Rat.divInt_mul_divInt p.num q.num (d₁:=p.den) (d₂:=q.den);rw[yh,yh]at h;rw[h];refine Ki ?_ ?_ ?_
 ·exact yk (Iv p)<|Iv q
 ·rw[zx];exact Dz a.1 b.1
 ·rw[zx,zk,zk];exact Dz a.2 b.2
theorem Fo.add{p q:Rat}{i j:Nat}(b:Fo i p)(a:Fo j q):Fo (i+j+1) (p+q):=by
 have h:=Rat.divInt_add_divInt p.num q.num (Iv p)<|Iv q;rw[yh,yh]at h;rw[h];have a1:=Dz b.1 a.2;have a2:=Dz a.1 b.2;have a3:=Dz b.2 a.2;rw[Nat.add_comm]at a2;refine Ki (yk (Iv p)<|Iv q) ?_ ?_
 ·refine z7 (Int.natAbs_add_le _ _) ?_;rw[zx,zx,zk,zk,qd];omega
 ·rw[zx,zk,zk,qd];omega
theorem Fo.neg{q:Rat}{k:Nat}(h:Fo k q):Fo k (-q):=by
 unfold Fo at*;rw[Rat.neg_num,Rat.neg_den,Int.natAbs_neg];exact h
theorem Fo.sub{p q:Rat}{i j:Nat}(a:Fo i p)(b:Fo j q):Fo (i+j+1) (p-q):=by
 rw[Rat.sub_eq_add_neg];exact a.add b.neg
theorem Fo.inv{q:Rat}{k:Nat}(h:Fo k q)(h0:q≠0):Fo k q⁻¹:=by
 have e:=Rat.inv_divInt q.num q.den;rw[yh]at e;rw[e];exact Ki (fun x=>h0<|yz.mp x) (by rw[zk];exact h.2) h.1
theorem Fo.div{p q:Rat}{i j:Nat}(a:Fo i p)(b:Fo j q)(h0:q≠0):Fo (i+j) (p/q):=by
 rw[Rat.div_def];exact a.mul<|b.inv h0
def Yv(n:Int):Bool:=decide (600<(zg n.natAbs).length)
def We(q:Rat):Bool:=Yv q.num||Yv q.den
theorem Er{u k:Nat}(h:u<10^k)(a:1<=k):(zg u).length<=k:=by
 rw[yx];obtain⟨j,rfl⟩:∃j,k=j+1:=⟨k-1,by omega⟩;exact Go.Pe.Xi j u h
theorem Ce(u:Nat){k:Nat}(h:(zg u).length<=k):u<10^k:=by
 rw[yx]at h;exact yg (Lib.lt_pow_nDigits u) (z8 af h)
theorem V6{q:Rat}:We q=false↔Fo 600 q:=by
 unfold We Yv Fo;rw[Bool.or_eq_false_iff,w9,w9];refine⟨fun h=>⟨Ce (k:=600) _ ae,?_⟩,fun h=>⟨?_,?_⟩⟩
 ·have:=Ce (q.den:Int).natAbs (k:=600) ae;rw[zk]at this;exact this
 ·have:=Er h.1 af;omega
 ·have:=Er h.2 af;rw[zk];omega
theorem KW{q:Rat}{k:Nat}(h:Fo k q)(a:1<=k):(AT q).length<=2*k+2:=by
 have d:=Er h.1 a;have b:=Er h.2 a;have c:(zt q.num).length<=k+1:=by
  unfold zt;split
  ·rw[zu];omega
  ·rw[show q.num.toNat=q.num.natAbs by omega];omega
 unfold AT;split
 ·omega
 ·rw[yi,zu];omega
def A4(s:Rd):Bool:=decide (AT (AJ s)=s)&&decide (s.length<=4000)
theorem Gr{s:Rd}(h:A4 s=true):AT (AJ s)=s/\s.length<=4000:=by
 unfold A4 at h;rwa [ze,w5,w5]at h
theorem Qu{q:Rat}{k:Nat}(h:Fo k q)(a:k<=1999):A4 (AT q)=true:=by
 have b:=KW (h.mono a) af;unfold A4;rw[DY,w4 rfl,w4 ae];rfl
theorem Bn{s:Rd}(h:AH s=0):A4 s=true/\Fo 600 (AJ s):=by
 obtain⟨b,_,_,a⟩:=LJ h;exact⟨by rw[<-b];exact Qu a af,a⟩
theorem RM{s:Rd}(h:A4 s=true):Fo 4000 (AJ s):=by
 obtain⟨f,d⟩:=Gr h;have e:(AT<|AJ s).length<=4000:=by rw[f];exact d
 generalize AJ s=q at*;have a:=Ce q.num.natAbs<|yn _;have b:=Ce q.den<|yn _;have g:(zg q.num.natAbs).length<=(zt q.num).length:=by
  unfold zt;split
  ·rw[zu];omega
  ·rw[show q.num.toNat=q.num.natAbs by omega];exact yn _
 unfold AT at e;split at e
 ·next c=>exact⟨Ce (k:=4000) _ ae,by rw[c];exact Oa 4000 af⟩
 ·rw[yi,zu]at e;exact⟨Ce (k:=4000) _ ae,Ce (k:=4000) _ ae⟩
theorem VO{q:Rat}:AH (AT q)=if We q=true then 4 else 0:=by
 obtain⟨g,r,m⟩:=D1 q;obtain⟨p1,p2,p3,p4⟩:=RF<|AT q;obtain⟨i1,i2,i3,i4⟩:=C9 q.num;have d:AB (A6<|AT q)=zg q.num.natAbs:=by rw[p1,g,i2]
 have c:AR (A6<|AT q)=if q.den=1 then[]else zg q.den:=by rw[p2,r]
 have i:Bw (A6<|AT q)=decide (q.den≠1):=by rw[p3,m]
 have o:preB (AT q)=decide (q.num<0):=by rw[<-p4,g,i3]
 have a:∀n:Nat,zg n=[48]->n=0:=fun n h=>by
  have:=HL n;rw[h]at this;have:(0:Int)=n:=this;omega
 have e:∀n:Nat,zg n=[49]->n=1:=fun n h=>by
  have:=HL n;rw[h]at this;have:(1:Int)=n:=this;omega
 have s:=q.den_pos;have p:F5 (AT q)=true:=by
  unfold F5;rw[d,c,i,o,Tq,yr,ze];refine⟨?_,?_⟩
  ·by_cases h:q.num<0
   ·have z:zg q.num.natAbs≠[48]:=fun k=>by have:=a _ k;omega
    rw[w4 h,w4 z];rfl
   ·rw[w8 h];rfl
  ·by_cases h:q.den=1
   ·rw[w8<|not_not_intro h];rfl
   ·have z:zg q.den≠[48]:=fun k=>by have:=a _ k;omega
    have y:zg q.den≠[49]:=fun k=>h<|e _ k
    rw[w4 h,wc h,Tq,w4 z,w4 y];rfl
 unfold AH;rw[wc (by rw[p];decide),d,c,i];have f:We q=true↔600<(zg q.num.natAbs).length\/600<(if q.den=1 then([]:Rd)else zg q.den).length:=by
  unfold We Yv;rw[Bool.or_eq_true,w5,w5,zk];by_cases h:q.den=1
  ·rw[wd h,h,yv<|show 1<10 by decide];simp
  ·rw[wc h]
 by_cases h:We q=true
 ·rw[wd<|f.1 h,wd h]
 ·rw[wc<|fun k=>h<|f.2 k,wc h];refine wc fun k=>?_
  obtain⟨b,j⟩:=k;have b:q.den≠1:=w6 b;apply j;unfold nM rH;rw[d,c,wc b,HL,HL,FN];have l:=q.reduced;have:yw ((q.num.natAbs:Nat):Int) (q.den:Int)=1:=l;rw[this];rfl
theorem QV(q:Rat):GH (AT q)=UT q.num:=by
 have h0:AT q=[48]↔q=0:=by
  have:AT (0:Rat)=[48]:=by
   unfold AT;rw[wd<|show Rat.den 0=1 from rfl];show zt 0=[48];unfold zt;rw[wc af,show(0:Int).toNat=0 from rfl,yv af];rfl
  rw[<-this];exact⟨Zy,fun h=>by rw[h]⟩
 unfold GH UT;by_cases a:q=0
 ·rw[wd<|h0.2 a,a];rfl
 ·rw[wc<|fun h=>a<|h0.1 h];have e:q.num≠0:=fun h=>a<|yz.mp h
  have b:(AT q).getD 0 0=(zt q.num).getD 0 0:=by
   unfold AT;split
   ·rfl
   ·have:zt q.num≠[]:=by unfold zt;split;exact List.cons_ne_nil _ _;exact Rn _
    cases d:zt q.num with
    |nil=>exact wh d this
    |cons c r=>rfl
  rw[b];unfold zt;by_cases h:q.num<0
  ·rw[wd h,wd h];rfl
  ·rw[wc h,wc h,wc<|Ew<|CQ _,wd ae]
theorem Tk(n:Int)(h:n≠0):zt (-n)=if n<0 then(zt n).drop 1 else 45::zt n:=by
 unfold zt;by_cases c:n<0
 ·rw[wc ae,wd c,wd c,show(-n).toNat=n.natAbs by omega];rfl
 ·rw[wd ae,wc c,wc c,show(-n).natAbs=n.toNat by omega]
theorem fQ(q:Rat):KI (AT q)=AT (-q):=by
 have a:=QV q;unfold GH at a;unfold KI;by_cases h0:AT q=[48]
 ·rw[wd h0]at a ⊢;have:q.num=0:=by
   unfold UT at a;split at a
   ·exact wh a af
   ·split at a
    ·exact wh a af
    ·omega
  have:q=0:=yz.mp this;rw[this];rfl
 ·rw[wc h0]at a ⊢;have b:q.num≠0:=by
   intro h;rw[h]at a;split at a<;>exact wh a af
  have e:AT (-q)=if q.num<0 then(AT q).drop 1 else 45::AT q:=by
   unfold AT;rw[Rat.neg_num,Rat.neg_den,Tk _ b];by_cases c:q.num<0
   ·rw[wd c,wd c];have:zt q.num=45::zg q.num.natAbs:=by unfold zt;rw[wd c]
    rw[this];split<;>rfl
   ·rw[wc c,wc c];split<;>rfl
  rw[e];unfold UT at a;by_cases c:q.num<0
  ·rw[wd c]at a ⊢;split at a
   ·next k=>rw[wd k]
   ·exact wh a af
  ·rw[wc c,wd<|show q.num>0 by omega]at a;rw[wc c];split at a
   ·exact wh a af
   ·next k=>rw[wc k]
open Go.Lib
theorem Lz:∀(f n l:Nat) (a:Rd),l<=a.length->n<10^f->Hx f n l a=if n=0 then a else decDigits n++a
 |0,n,l,a,_,b=>by rw[Nat.pow_zero]at b;rw[wd ae];rfl
 |f+1,n,l,a,d,b=>by
  rw[qd]at b;unfold Hx;by_cases h:n=0
  ·rw[wd ⟨h,d⟩,wd h]
  ·rw[wc<|fun k=>h k.1,wc h,Lz f (n/10) l _ (by rw[zu];omega) ae];by_cases c:n/10=0
   ·rw[wd c,decDigits_one ae,show n % 10=n by omega];rfl
   ·have e:=FC (n/10) (n % 10) ae ae;rw[show 10*(n/10)+n % 10=n by omega]at e;rw[wc c,e,List.append_assoc];rfl
theorem bF{d:Nat}(h:d<10):Sa 1 d=[yu<|48+d]:=by
 unfold Sa;rw[nDigits_small h,decDigits_one h];rfl
theorem TC:∀(k f n l:Nat) (a:Rd),a.length+(k+1)=l->n<10^(k+1)->k+1<=f->Hx f n l a=Sa (k+1) n++a
 |k,0,n,l,a,_,_,h=>by omega
 |0,f+1,n,l,a,c,b,_=>by
  unfold Hx;rw[wc ae,bF ae,Lz f (n/10) l _ (by rw[zu];omega) (by rw[show n/10=0 by omega];exact Nat.pow_pos af),wd ae,show n % 10=n by omega];rfl
 |k+1,f+1,n,l,a,c,b,d=>by
  rw[qd]at b;have e:=Qn (k+1) (n/10) (n % 10) ae ae;rw[show 10*(n/10)+n % 10=n by omega]at e;unfold Hx;rw[wc ae,TC k f (n/10) l _ (by rw[zu];omega) ae ae,e,List.append_assoc];rfl
theorem NO{n:Int}(h0:0<=n)(a:n<9223372036854775808):Ij n 1=decDigits n.toNat:=by
 show Hx 64 n.toNat 1 []=_;unfold Hx;rw[wc<|by simp];rw[Lz 63 (n.toNat/10) 1 _ (by simp) ae];by_cases h:n.toNat<10
 ·rw[wd ae,decDigits_one h,show n.toNat % 10=n.toNat by omega]
 ·have e:=FC (n.toNat/10) (n.toNat % 10) ae ae;rw[show 10*(n.toNat/10)+n.toNat % 10=n.toNat by omega]at e;rw[wc ae,e]
theorem Z5{n:Int}(h0:0<=n)(a:n<1000000000):Ij n 9=Sa 9 n.toNat:=by
 show Hx 64 n.toNat 9 []=_;rw[TC 8 64 n.toNat 9 [] rfl ae af,List.append_nil]
def Cv(n d:Int):Rd:=AT<|zj n d
theorem Zv(n:Int):itoa n=(if n<0 then[45]else[])++decDigits n.natAbs:=by
 unfold itoa;split
 ·rfl
 ·rw[show n.toNat=n.natAbs by omega];rfl
def vR(a:Bool×List Int):Int:=if a.1=true then -Ak a.2 else Ak a.2
def Cj(a:Bool×List Int):Bool:=A1 a.2&&decide (a.2.length<=3000)&&(!a.1||decide (a.2≠[]))
def H2(l:List Int)(i:Int):Int:=l.getD i.toNat 0
def jC(a b:List Int):Bool:=A1 a&&A1 b&&decide (a.length<=9000)&&decide (b.length<=9000)
def Hr(a b:List Int):List Int:=BA<|Ak a+Ak b
def IQ(a b:List Int):List Int:=BA<|Ak a-Ak b
def ML(a b:Bool×List Int):Bool:=rN<|vR a+vR b
def MF(a b:Bool×List Int):List Int:=rW<|vR a+vR b
def Hj(a b:Bool×List Int):Bool:=rN<|vR a*vR b
def HI(a b:Bool×List Int):List Int:=rW<|vR a*vR b
def SF(a:Bool×List Int):Bool:=rN<| -vR a
def RZ(a:Bool×List Int):List Int:=rW<| -vR a
def IE(a b:Bool×List Int):Bool:=rN<|vR a/vR b
def IX(a b:Bool×List Int):List Int:=rW<|vR a/vR b
def F6(a:Bool×List Int):Rd:=Cf<|vR a
def Ik(n d:Bool×List Int):Rd:=Cv (vR n)<|vR d
def fD(a:Rd):Int:=if D4 a=true then IG a else 0
def Uo(a:Rd):Int:=if D4 a=true then SK a else 0
def Ci(a b:Rd):Rd:=AT<|AJ a+AJ b
def WU(a b:Rd):Rd:=AT<|AJ a-AJ b
def It(a b:Rd):Rd:=AT<|AJ a*AJ b
def RG(a:Rd):Rd:=AT (AJ a)⁻¹
def H3(a b:Rd):Rd:=AT<|AJ a/AJ b
def Sy(a b:Rd):Int:=if AJ a<AJ b then -1 else if AJ b<AJ a then 1 else 0
def E7(a:Rd):Rd:=Cf (AJ a).floor
def Hg(a:Rd):Bool:= !Bw a
def E1(a:Rd):Bool:=A4 a&&decide (a.length<=3000)
def Zj(a:Rd):Bool:=E1 a&&decide (AJ a≠0)
end Go.Sp
variable {Q:Go.Pe.PV->Go.Pe.Ob->Prop}
namespace Go.Pe
open Sp
open Go.Det
def VX:An:=⟨[li,i64],fun i=>decide (0<=(i.2:Int)),[i64],fun i=>H2 i.1 i.2,false⟩
def VK:An:=⟨[li,li],fun i=>jC i.1 i.2,[li],fun i=>Hr i.1 i.2,false⟩
def WH:An:=⟨[li,li],fun i=>jC i.1 i.2&&decide (Ak i.2<=Ak i.1),[li],fun i=>IQ i.1 i.2,false⟩
def jB:An:=⟨[Hz,Hz],fun i=>Cj i.1&&Cj i.2,[Hz],fun i=>(ML i.1 i.2,MF i.1 i.2),false⟩
def Yy:An:=⟨[Hz,Hz],fun i=>Cj i.1&&Cj i.2,[Hz],fun i=>(Hj i.1 i.2,HI i.1 i.2),false⟩
def XS:An:=⟨[Hz],fun a=>Cj a,[Hz],fun a=>(SF a,RZ a),false⟩
def XN:An:=⟨[Hz,Hz],fun i=>Cj i.1&&Cj i.2&&decide (0<Sp.vR i.2),[Hz],fun i=>(IE i.1 i.2,IX i.1 i.2),false⟩
def S2:An:=⟨[Hz],fun a=>Cj a,[.str],fun a=>F6 a,false⟩
def O2:An:=⟨[Hz,Hz],fun i=>Cj i.1&&Cj i.2&&decide (Sp.vR i.2≠0),[.str],fun i=>Ik i.1 i.2,false⟩
def XX:An:=⟨[i64,i64],fun i=>Cx i.1&&Cx i.2&&decide ((i.2:Int)≠0),[.str],fun i=>Cv i.1 i.2,false⟩
def Nk:An:=⟨[.str],fun s=>A4 s,[i64,i64,.bool],fun s=>(fD s,Uo s,D4 s),false⟩
def Pq:An:=⟨[.str,.str],fun i=>A4 i.1&&A4 i.2,[.str],fun i=>Ci i.1 i.2,false⟩
def tF:An:=⟨[.str,.str],fun i=>A4 i.1&&E1 i.2,[.str],fun i=>WU i.1 i.2,false⟩
def QB:An:=⟨[.str,.str],fun i=>A4 i.1&&A4 i.2,[.str],fun i=>It i.1 i.2,false⟩
def tO:An:=⟨[.str],fun s=>Zj s,[.str],fun s=>RG s,false⟩
def sT:An:=⟨[.str,.str],fun i=>A4 i.1&&Zj i.2,[.str],fun i=>H3 i.1 i.2,false⟩
def bW:An:=⟨[.str,.str],fun i=>A4 i.1&&E1 i.2,[i64],fun i=>Sy i.1 i.2,false⟩
def Yq:An:=⟨[.str],fun s=>A4 s,[.str],fun s=>E7 s,false⟩
def Rm:An:=⟨[.str],fun s=>decide (s.length<=1000000),[.bool],fun s=>Hg s,false⟩
def XR0[Srt]:AX:=X7 []
def U4[Srt]:AX:=X7 [(190,VX),(188,S1)]
def XR2[Srt]:AX:=X7 [(128,GN),(129,VK),(130,XG),(131,WH),(132,Xr),(127,Q2)]
def XR3[Srt]:AX:=X7 [(111,Oz)]
def lT[Srt]:AX:=bK [(75,[3,7,9])] [] [(75,[(3,[2,3]),(7,[8,10]),(9,[8,10])])] [(126,XS),(106,KX),(127,Q2),(128,GN),(108,S2)]
def aO[Srt]:AX:=bK [(52,[3,5,7,11])] [] [(52,[(3,[0,1]),(5,[0,1]),(7,[0,1]),(11,[1,6])])] [(109,Jw),(75,O2),(110,tM),(111,Oz)]
def uE[Srt]:AX:=bK [(26,[5]),(51,[5])] [] [(26,[(5,[0,1])]),(51,[(5,[0,1])])] [(73,Nk),(52,XX),(74,Nt),(76,jB),(77,Yy),(75,O2)]
def XR7[Srt]:AX:=X7 [(186,tO),(51,QB),(26,Pq),(112,kD)]
def XR8[Srt]:AX:=X7 [(54,tF),(107,Rk),(104,OM),(70,YK),(71,gK),(72,XO)]
def XR9[Srt]:AX:=X7 [(74,Nt),(185,XN),(108,S2),(123,Rm)]
def Ry:An:=⟨[],fun _=>true,[.bool],fun _=>true,false⟩
theorem TG[Srt]:Af Bb 6 Ry:=by
 refine .of0 ⟨by kernel_rfl,BK ag,fun F h args i c b d a _=>?_⟩;have f:args=[]:=by
  have:=a (fun _=>none) 0;simpa [Ae,Ry]using this
 subst f;refine⟨[(.bool true,h)],1,fun m k=>?_,fun _=>⟨_,rfl⟩,fun x j=>?_⟩
 ·obtain⟨e,rfl⟩:∃e,m=e+1:=⟨m-1,by omega⟩;have g:Bb.spec 6=some fun args h=>bif Up h Dr then(match IU A7 6 args with|some v=>some (v,h)|none=>none)else none:=rfl
  rw[A5];simp only[g,wJ d,we];rfl
 ·cases List.mem_singleton.1 j;exact⟨yn _,fun _ _=>rfl,b,F,fun _ _ h=>h,fun _ _ h=>.inl h,c,fun ρ N=>DF _⟩
end Go.Pe
namespace Go.Sp
def Db:List Rd->Int
 |[]=>0
 |s::l=>if AH s≠0 then AH s else Db l
def VS(a u:Rd):Bool:=A4 a&&Zj u&&A4 (H3 a u)&&A4 (Ci (H3 a u) [49,47,50])&&A4 (E7<|Ci (H3 a u) [49,47,50])
def Tn(a u:Rd):Rd:=It (E7<|Ci (H3 a u) [49,47,50]) u
def S9(a:Rd):Rd:=It a [49,47,50]
end Go.Sp
namespace Go.Pe
open Go.Det
def uS:An:=⟨[.str],fun s=>Sp.A4 s,[.str],fun s=>Sp.S9 s,false⟩
def R4:An:=⟨[.str,.str],fun i=>Sp.VS i.1 i.2,[.str],fun i=>Sp.Tn i.1 i.2,false⟩
end Go.Pe
namespace Go.Sp
def Js(s:Rd):Ah:=((jQ s,jF s),(VI s,WN s))
theorem TA(q:Rat):SZ (AT q)=zg q.den:=by
 obtain⟨_,a,b⟩:=D1 q;unfold SZ;rw[a,b];by_cases h:q.den=1
 ·rw[wc (by simpa using h),h,yv af];rfl
 ·rw[wd<|w4 h,wc h]
theorem QU:AT 0=[48]:=by
 unfold AT;rw[wd<|show Rat.den 0=1 from rfl];show zt 0=[48];unfold zt;rw[wc af,show(0:Int).toNat=0 from rfl,yv af];rfl
theorem KK{s:Rd}(h:A4 s=true):s=[48]↔AJ s=0:=by
 obtain⟨a,_⟩:=Gr h;constructor
 ·rintro rfl;rw[<-QU,DY]
 ·intro e;rw[<-a,e,QU]
theorem He{s:Rd}(h:E1 s=true):A4 s=true/\s.length<=3000:=by
 unfold E1 at h;rwa [ze,w5]at h
theorem vL{s:Rd}(h:E1 s=true)(h0:s≠[48]):Zj s=true:=by
 unfold Zj;rw[h,yr];exact w4 fun e=>h0<|(KK (He h).1).2 e
theorem Ws{s:Rd}(h:Zj s=true):E1 s=true/\AJ s≠0:=by
 unfold Zj at h;rwa [ze,w5]at h
theorem bR{q:Rat}{k:Nat}(h:Fo k q)(a:k<=400000):(AT q).length<=1000000:=by
 have:=KW (h.mono<|show k<=k+1 by omega) ae;omega
structure Nu(k:Nat)(s:Rd)(q:Rat):Prop where
 t:s=AT q
 z:Fo k q
theorem Nu.mono{i j:Nat}{s:Rd}{q:Rat}(h:Nu i s q)(k:i<=j):Nu j s q:=⟨h.t,h.z.mono k⟩
theorem Nu.rat{k:Nat}{s:Rd}{q:Rat}(h:Nu k s q):AJ s=q:=by rw[h.t,DY]
theorem nB{k:Nat}{q:Rat}(h:Fo k q)(a:k<=600):We q=false:=V6.2<|h.mono a
theorem Nu.check{k:Nat}{s:Rd}{q:Rat}(h:Nu k s q)(a:k<=600):AH s=0:=by
 rw[h.t,VO,nB h.z a,wc af]
theorem Nu.num{k:Nat}{s:Rd}{q:Rat}(h:Nu k s q)(a:k<=1999):A4 s=true:=by rw[h.t];exact Qu h.z a
theorem Nu.E1{k:Nat}{s:Rd}{q:Rat}(h:Nu k s q)(a:k<=1400):Sp.E1 s=true:=by
 unfold Sp.E1;rw[h.num ae,yr,w5,h.t];have:=KW (h.z.mono<|show k<=k+1 by omega) ae;omega
theorem Nu.KK{k:Nat}{s:Rd}{q:Rat}(h:Nu k s q)(a:k<=1999):s=[48]↔q=0:=by
 rw[Sp.KK<|h.num a,h.rat]
theorem Nu.cmp{i j:Nat}{a b:Rd}{p q:Rat}(c:Nu i a p)(d:Nu j b q):Sy a b=if p<q then -1 else if q<p then 1 else 0:=by
 unfold Sy;rw[c.rat,d.rat]
theorem SO{a:Rd}{n:Nat}(h:Kd a (n:Int)=true):Nu n a (AJ a)/\AH a=0:=by
 unfold Kd at h;rw[ze,ze,ze,w5,w5,w5,w5]at h;obtain⟨⟨⟨_,c⟩,b⟩,d⟩:=h;obtain⟨t,_,_,_⟩:=LJ c;rw[<-t]at b d;rw[TA]at d;rw[(D1 _).1,(C9 _).2.1]at b;refine⟨⟨t.symm,Ce _ ae,Ce _ ae⟩,c⟩
theorem TN{a:Rd}(h:AH a=0):Nu 600 a (AJ a):=by
 obtain⟨t,_,_,z⟩:=LJ h;exact⟨t.symm,z⟩
theorem Qm(n:Int):Cf n=AT (n:Rat):=by
 unfold AT Cf;rw[wd<|Rat.den_intCast ..,qv]
theorem Hy:Nu 1 [49,47,50] (1/2):=by
 refine⟨by decide+kernel,?_⟩;unfold Fo;decide+kernel
theorem Nu.Ci{i j:Nat}{a b:Rd}{p q:Rat}(c:Nu i a p)(d:Nu j b q):Nu (i+j+1) (Sp.Ci a b) (p+q):=⟨by unfold Sp.Ci;rw[c.rat,d.rat],c.z.add d.z⟩
theorem Nu.It{i j:Nat}{a b:Rd}{p q:Rat}(c:Nu i a p)(d:Nu j b q):Nu (i+j) (Sp.It a b) (p*q):=⟨by unfold Sp.It;rw[c.rat,d.rat],c.z.mul d.z⟩
theorem Nu.H3{i j:Nat}{a b:Rd}{p q:Rat}(c:Nu i a p)(d:Nu j b q)(h0:q≠0):Nu (i+j) (Sp.H3 a b) (p/q):=⟨by unfold Sp.H3;rw[c.rat,d.rat],c.z.div d.z h0⟩
theorem Pa{q:Rat}{k:Nat}(h:Fo k q):Fo k (q.floor:Rat):=by
 obtain⟨a,c⟩:=h;have b:=q.den_pos;unfold Fo;rw[qv,Rat.den_intCast,Rat.floor_def];refine⟨z7 (ql _ _) a,by omega⟩
def YS(w:Rd):Nat:=max (A6<|AB w).length (SZ w).length
def VU(n:Int):Bool:=decide (n.natAbs<9223372036854775808)
def Wb(n:Int):Rd:=AT ((n:Int):Rat)
end Go.Sp
namespace Go.Pe
open Go.Det
def Aat:An:=⟨[.list .str],fun l=>decide (List.length (α:=Rd) l<=1000000)&&List.all (α:=Rd) l (fun s=>decide (s.length<=9223372036854775807)),[i64],fun l=>Sp.Db l,false⟩
def bX:An:=⟨[i64],fun n=>Sp.VU n,[.str],fun n=>Sp.Wb n,false⟩
section
open List Int Prod
namespace T43
def T[Srt](n:Int):Tr:=tree lU false 9 43<|Ae ([qz ye]) n
theorem Aj[Srt](n:Int):T n=.ck true (.ck true<|.leaf (q9 [.dat i64 n,.dat wU<|Sp.BV n,.dat i64 (1:Int),.dat wU<|Sp.BV 1]) []):=by kernel_rfl
end T43
end
open Sp
theorem Ww{k:Nat}{n d:Int}(a:d≠0)(b:Ag n<(Ao:Int)^k)(c:Ag d<(Ao:Int)^k):Kw k (zj n d):=by
 unfold Kw;rw[qf,qy,wc a];constructor
 ·refine yt Vf ?_;rw[Jt];have:Ag d.sign=1:=by rw[Ai,qg a];rfl
  rw[this,qm];exact b
 ·refine yt ?_ c;rw[Ai];exact Int.ofNat_le.mpr<|Nat.div_le_self _ _
theorem pK{f:Ah}(h:jg f=true)(h0:Sp.vI f.1≠0):jg (Uj f)=true:=by
 obtain⟨a1,a2,b,a,a0⟩:=FD h;exact(Kq a2 a1 h0).CZ<|Ww h0 a b
theorem nC{f:Ah}(h:jg f=true):jg (zF f)=true:=by
 obtain⟨a1,a2,a,b,a0⟩:=FD h;unfold jg Sp.D2 at*;have c:=Wi (k:=4000) (B6 a1).1 ae ae<|RT (B6 a1).1 a;exact Ad (Ad (Gi c.1<|by show Ag (Sp.vI<|C0 f.1)<_;rw[Ic,Ip];exact a)<|Gi (B6 a2).1 b)<|w4 a0
theorem X4[Srt]:Dn XA3:=Aa T103.ok<|Aa T46.ok<|Aa T42.ok<|Aa T98.ok AO
theorem T47.ok[Srt]:Af Bb 47 uC:=by
 refine BL X4<|fun(i:((Int×List Int)×(Int×List Int))×((Int×List Int)×(Int×List Int))) c=>?_;obtain⟨a,b⟩:=i;have c:(jg a&&jg b)=true:=c;rw[ze]at c;obtain⟨b1,b2,lb1,lb2,b0⟩:=FD c.2;exact zp (T47.Aj a b)<|zd (B6 b1).1<|zd (Ad c.1<|nC c.2)<|zf<|zy rfl rfl rfl
theorem T44.ok[Srt]:Af Bb 44 Qp:=by
 refine BL X4<|fun(i:((Int×List Int)×(Int×List Int))×((Int×List Int)×(Int×List Int))) c=>?_;obtain⟨a,b⟩:=i;have c:(jg a&&jg b&&decide (Sp.vI b.1≠0))=true:=c;rw[ze,ze,w5]at c;exact zp (T44.Aj a b)<|zd (Ad c.1.2<|w4 c.2)<|zd (Ad c.1.1<|pK c.1.2 c.2)<|zf<|zy rfl rfl rfl
theorem T165.ok[Srt]:Af Bb 165 dZ:=by
 refine BL Gq<|fun(a:(Int×List Int)×(Int×List Int)) h=>?_;obtain⟨a1,a2,c,b,a0⟩:=FD h;exact zp (T165.Aj a)<|zd (Ad (Ad a1 a2)<|w4 a0)<|zf<|zy rfl rfl rfl
end Go.Pe
namespace Go.Sp
theorem CU{a:Bool×List Int}(h:Cj a=true):A1 a.2=true/\a.2.length<=3000/\(a.1=true->a.2≠[]):=by
 unfold Cj at h;rw[ze,ze,w5,Bool.or_eq_true,w5,Bool.not_eq_true']at h;refine⟨h.1.1,h.1.2,fun k=>?_⟩;rcases h.2 with x|x
 ·rw[k]at x;cases x
 ·exact x
theorem Eu{a:Bool×List Int}(h:Cj a=true):Ag (vR a)=Ak a.2/\0<=Ak a.2:=by
 obtain⟨c,e,d⟩:=CU h;have h0:=Az (b:=B9) af (Bo c).2.1;have h0:0<=Ak a.2:=h0;refine⟨?_,h0⟩;unfold vR;rw[Ai];split<;>omega
theorem kU{a:Bool×List Int}(h:Cj a=true):a.1=rN (vR a):=by
 obtain⟨c,f,e⟩:=CU h;obtain⟨_,h0⟩:=Eu h;unfold rN vR;cases d:a.1 with
 |false=>rw[wc af];symm;rw[w9];omega
 |true=>
  rw[wd rfl];symm;rw[w5];have:=Je (b:=B9) af (Bo c).2.1 (Bo c).2.2<|e d;have:0<Ak a.2:=this;omega
theorem Aci{a:Bool×List Int}(h:Cj a=true):a.2=rW (vR a):=by
 unfold rW;rw[(Eu h).1];exact JJ (b:=B9) af (Bo (CU h).1).2.1 (Bo (CU h).1).2.2
theorem uW{a:Bool×List Int}(h:Cj a=true):a=(rN<|vR a,rW<|vR a):=Prod.ext (kU h)<|Aci h
theorem Wo(k:Nat):(B9:Int)^k=10^(9*k):=by
 have:(B9:Int)=10^9:=af
 rw[this, <-Int.pow_mul]
theorem sA{n:Int}{k:Nat}(h:n.natAbs<10^(9*k)):Ag n<(B9:Int)^k:=by
 rw[Ai,Wo];have:((10^(9*k):Nat):Int)=(10:Int)^(9*k):=by simp
 rw[<-this];exact jh.mpr h
theorem NF(n:Int):0<=Ag n:=by rw[Ai];omega
theorem LN(n:Int):Ak (rW n)=Ag n:=C3 (b:=B9) af<|NF n
theorem HV(n:Int):vR (rN n,rW n)=n:=by
 unfold vR;show(if rN n=true then -Ak (rW n)else Ak<|rW n)=n;rw[LN,Ai];unfold rN;by_cases h:n<0
 ·rw[wd<|w4 h];omega
 ·rw[wc<|by simpa using h];omega
theorem SV{n:Int}(h:n.natAbs<10^27000):Cj (rN n,rW n)=true:=by
 have k:27000=9*3000:=rfl;rw[k]at h;obtain⟨g,_,i,d⟩:=Fp (n:=Ag n) (k:=3000) (NF n) (sA h) af;unfold Cj;have c:A1 (rW n)=true:=g;have f:(rW n).length<=3000:=d;rw[c,w4 f];cases b:rN n with
 |false=>rfl
 |true=>
  have:rW n≠[]:=by
   intro e;have a:=LN n;rw[e]at a;have a:0=Ag n:=a;unfold rN at b;have b:=w6 b;rw[Ai]at a;omega
  rw[w4 this];rfl
theorem kP(k:Nat):((10^k:Nat):Int)=(10:Int)^k:=by rw[Int.natCast_pow];rfl
theorem vH{x:Nat}(j k:Nat)(h:j<=k)(a:x<10^j):x<10^k:=yg a (z8 af h)
theorem wG{a:Bool×List Int}(h:Cj a=true):(vR a).natAbs<10^27000:=by
 obtain⟨g,d,i⟩:=CU h;have f:=Br (b:=B9) af (Bo g).2.1;have e:(B9:Int)^a.2.length<=(B9:Int)^3000:=AP af d;have c:Ag (vR a)<(B9:Int)^3000:=by rw[(Eu h).1];exact yj f e
 rw[Ai,Wo]at c;have:=kP<|9*3000;rw[<-this]at c;have k:27000=9*3000:=rfl;rw[k];exact jh.mp c
theorem lN{neg:Bool}{w:List Int}{n:Int}(c:Av B9 w)(b:Ak w=Ag n)(a:n≠0->neg=rN n):(Cy neg w,Aw w)=(rN n,rW n):=by
 have h:=Go.Pe.LO (neg:=neg) c b;rw[h];have:(if neg=true then -Ag n else Ag n)=n:=by
  by_cases h0:n=0
  ·rw[h0];unfold Ag;split<;>simp
  ·rw[a h0];unfold rN;rw[Ai];by_cases h:n<0
   ·rw[wd<|w4 h];omega
   ·rw[wc<|by simpa using h];omega
 rw[this]
theorem D8{s:Rd}(h:A4 s=true):Cj (BF s,By s)=true/\vR (BF s,By s)=Bf s/\Cj (Bl s,Bh s)=true/\vR (Bl s,Bh s)=AS s/\(AJ s).num=Bf s/\((AJ s).den:Int)=AS s/\H5 s=true/\(Bf s).natAbs<10^4000/\(AS s).natAbs<10^4000:=by
 obtain⟨d,i⟩:=Gr h;obtain⟨s1,s2⟩:=RM h;have e:(AJ s).num=Bf s/\((AJ s).den:Int)=AS s:=by
  have:=J8<|AJ s;rw[d]at this;exact⟨this.1.symm,this.2.symm⟩
 have l1:(Bf s).natAbs<10^4000:=by rw[<-e.1];exact s1
 have l2:(AS s).natAbs<10^4000:=by rw[<-e.2,zk];exact s2
 have m:∀x:Nat,x<10^4000->x<10^27000:=fun x f=>vH 4000 27000 af f
 refine⟨SV<|m _ l1,HV _,SV<|m _ l2,HV _,e.1,e.2,?_,l1,l2⟩;obtain⟨a,b,g⟩:=D1<|AJ s;rw[d]at a b g;have j:=Go.Pe.T61.Ez s;unfold H5 C1;rw[w4 (p:=s.length<=5999) ae,w4 (p:=(AB s).length<=5999) ae,w4 (p:=(AR s).length<=5999) ae,yr,yr,Bool.and_true,ze];refine⟨?_,?_⟩
 ·obtain⟨k,i2,i3,i4⟩:=C9 (AJ s).num;rw[a];unfold A6 at i2;split at i2
  ·next c=>rw[wd c,i2];exact CQ _
  ·next c=>rw[wc c,i2];exact CQ _
 ·rw[b];split
  ·rfl
  ·rw[wc<|Ew<|CQ _];exact CQ _
end Go.Sp
namespace Go.Pe
open Sp
open Go.Det
theorem RC{x:Int}{k:Nat}(h:x.natAbs<10^k):Ag x<(Ao:Int)^k:=by
 have a:((10^k:Nat):Int)=(10:Int)^k:=Int.natCast_pow ..;rw[Ai];refine yj ?_<|wS k;rw[<-a];exact jh.mpr h
theorem Sl{q:Rat}{k:Nat}(h:Fo k q)(b:k<=4000):Kw 4000 q:=by
 obtain⟨c,d⟩:=h.mono b;have a:=RC (k:=4000) (x:=(q.den:Int)) (by rw[zk];exact d);rw[Ai,zk]at a;exact⟨RC c,a⟩
def frS(s:Rd):Ah:=((jQ s,jF s),(VI s,WN s))
theorem IM{s:Rd}(h:A4 s=true):Fc (frS s) (AJ s):=by
 obtain⟨_,_,_,_,e1,e2,_,l1,l2⟩:=D8 h;have m:∀x:Int,x.natAbs<10^4000->Ag x<(Ao:Int)^9000:=fun x a=>yj (RC a) (AP af af)
 exact⟨(B6<|FR<|DG<|m _ l1).1,(B6<|FR<|DG<|m _ l2).1,(KN _).trans e1.symm,(KN _).trans e2.symm⟩
theorem Fc.D2{f:Ah}{q:Rat}(h:Fc f q)(a:Kw 4000 q):Sp.D2 f=true:=by
 have:=h.CZ a;unfold jg at this;rw[ze]at this;exact this.1
theorem Fc.Iv{f:Ah}{q:Rat}(h:Fc f q):decide (Sp.vI f.1≠0)=decide (q≠0):=by
 rw[h.vn,decide_eq_decide,vc,yz]
theorem Fc.cmp{f g:Ah}{p q:Rat}(b:Fc f p)(a:Fc g q):Iq f g=if p<q then -1 else if q<p then 1 else 0:=by
 unfold Iq Cb;rw[b.vn,b.vd,a.vn,a.vd];have h:p<q↔p.num*(q.den:Int)<q.num*(p.den:Int):=Rat.lt_iff ..;have e:q<p↔q.num*(p.den:Int)<p.num*(q.den:Int):=Rat.lt_iff ..;by_cases c:p<q
 ·rw[wd c,wd<|h.1 c]
 ·rw[wc c,wc<|fun k=>c<|h.2 k];by_cases d:q<p
  ·rw[wd d,wd<|e.1 d]
  ·rw[wc d,wc<|fun k=>d<|e.2 k]
theorem T43.ok[Srt]:Af Bb 43 cF:=by
 refine BL Gq<|fun(n:Int) _=>?_;exact zp (T43.Aj n)<|zd rfl (zd rfl (zf<|zy rfl rfl rfl))
theorem Fc.div{f g:Ah}{p q:Rat}(c:Fc f p)(a:Fc g q)(sp:Kw 4000 p)(b:Kw 4000 q)(d:Kw 4000 q⁻¹)(h0:q≠0):Fc (Hu f g) (p/q):=by
 rw[Rat.div_def];exact Fc.mul c (Fc.inv a b h0) sp d
theorem sE(n:Int):BV n=[]:=by unfold BV;split<;>rfl
theorem Rf{n:Int}(h:Cx n=true):Bi (n,BV n)=true/\Sp.vI (n,BV n)=n:=by
 rw[sE];have a:=Ff h;refine⟨?_,BG rfl⟩;unfold Bi;rw[show Du (n,([]:List Int))=true from K5 h,yr];rfl
theorem AaD(n:Int)(h:Cx n=true):Fc ((n,BV n),(1,BV 1)) (n:Rat):=by
 obtain⟨a,b⟩:=Rf h;obtain⟨h3,h4⟩:=Rf (n:=1) rfl;exact⟨(B6 a).1,(B6 h3).1,b.trans (qv n).symm,h4.trans rfl⟩
section
open List Int Prod
namespace T26
def T[Srt](a b:Rd):Tr:=tree uE false 9 26<|Ae ([zh,zh]) (a,b)
def L1[Srt](v0 v1:Rd):Tr:=re ((T [] []).L.L.L.R)<|AE 63 [(0,.dat zh v0),(1,.dat zh v1)] [] 0
theorem Aj[Srt](a b:Rd):T a b=let c:=zc .i64<|zc .i64 (fD a*Uo b)+zc .i64 (fD b*Uo a);let b':=zc .i64<|Uo a*Uo b;.ck (A4 a) (.ck (A4 b)<|.ite (D4 a) (.ite (D4 b) (.ck (Cx c&&Cx b'&&decide (zc .i64 (Uo a*Uo b)≠0))<|.leaf (.dat zh<|Cv c b') [])<|L1 a b)<|L1 a b):=by kernel_rfl
theorem Am[Srt](v0 v1:Rd):stepT uE (L1 v0 v1)=let b':=(Hj (BF v0,By v0) (Bl v1,Bh v1),HI (BF v0,By v0) (Bl v1,Bh v1));let b:=(Hj (BF v1,By v1) (Bl v0,Bh v0),HI (BF v1,By v1) (Bl v0,Bh v0));let a:=(Hj (Bl v0,Bh v0) (Bl v1,Bh v1),HI (Bl v0,Bh v0) (Bl v1,Bh v1));let c:=(ML b' b,MF b' b);.ck (H5 v0) (.ck (H5 v1)<|.ck (Cj (BF v0,By v0)&&Cj (Bl v1,Bh v1))<|.ck (Cj (BF v1,By v1)&&Cj (Bl v0,Bh v0))<|.ck (Cj b'&&Cj b)<|.ck (Cj (Bl v0,Bh v0)&&Cj (Bl v1,Bh v1))<|.ck (Cj c&&Cj a&&decide (Sp.vR a≠0))<|.leaf (.dat zh<|Ik c a) []):=by kernel_rfl
end T26
namespace T51
def T[Srt](a b:Rd):Tr:=tree uE false 9 51<|Ae ([zh,zh]) (a,b)
def L1[Srt](v0 v1:Rd):Tr:=re ((T [] []).L.L.L.R)<|AE 55 [(0,.dat zh v0),(1,.dat zh v1)] [] 0
theorem Aj[Srt](a b:Rd):T a b=let c:=zc .i64<|fD a*fD b;let b':=zc .i64<|Uo a*Uo b;.ck (A4 a) (.ck (A4 b)<|.ite (D4 a) (.ite (D4 b) (.ck (Cx c&&Cx b'&&decide (zc .i64 (Uo a*Uo b)≠0))<|.leaf (.dat zh<|Cv c b') [])<|L1 a b)<|L1 a b):=by kernel_rfl
theorem Am[Srt](v0 v1:Rd):stepT uE (L1 v0 v1)=let a:=(Hj (Bl v0,Bh v0) (Bl v1,Bh v1),HI (Bl v0,Bh v0) (Bl v1,Bh v1));let b':=(Hj (BF v0,By v0) (BF v1,By v1),HI (BF v0,By v0) (BF v1,By v1));.ck (H5 v0) (.ck (H5 v1)<|.ck (Cj (BF v0,By v0)&&Cj (BF v1,By v1))<|.ck (Cj (Bl v0,Bh v0)&&Cj (Bl v1,Bh v1))<|.ck (Cj b'&&Cj a&&decide (Sp.vR a≠0))<|.leaf (.dat zh<|Ik b' a) []):=by kernel_rfl
end T51
namespace T186
def T[Srt](a:Rd):Tr:=tree uE false 9 186<|Ae ([zh]) a
theorem Aj[Srt](a:Rd):T a=.ck (H5 a) (.ck (Cj (Bl a,Bh a)&&Cj (BF a,By a)&&decide (Sp.vR (BF a,By a)≠0))<|.leaf (.dat zh<|Ik (Bl a,Bh a) (BF a,By a)) []):=by kernel_rfl
end T186
namespace T54
def T[Srt](a b:Rd):Tr:=tree XR7 false 9 54<|Ae ([zh,zh]) (a,b)
theorem Aj[Srt](a b:Rd):T a b=.cd (length b<=1000000) (.ck (A4 a&&A4 (KI b))<|.leaf (.dat zh<|Ci a<|KI b) []):=by kernel_rfl
end T54
namespace T122
def T[Srt](a b:Rd):Tr:=tree XR7 false 9 122<|Ae ([zh,zh]) (a,b)
theorem Aj[Srt](a b:Rd):T a b=.ck (Zj b) (.ck (A4 a&&A4 (RG b))<|.leaf (.dat zh<|It a<|RG b) []):=by kernel_rfl
end T122
namespace T49
def T[Srt](a b:Rd):Tr:=tree XR8 false 9 49<|Ae ([zh,zh]) (a,b)
theorem Aj[Srt](a b:Rd):T a b=.ck (A4 a&&E1 b) (.cd (length (WU a b)<=1000000)<|.leaf (.dat i64<|GH<|WU a b) []):=by kernel_rfl
end T49
namespace T123
def T[Srt](a:Rd):Tr:=tree XR8 false 9 123<|Ae ([zh]) a
theorem Aj[Srt](a:Rd):T a=.cd (length a<=1000000) (.leaf (.dat zq<|AW a==(length a:Int)) []):=by kernel_rfl
end T123
namespace T121
def T[Srt](a:Rd):Tr:=tree XR9 false 9 121<|Ae ([zh]) a
theorem Aj[Srt](a:Rd):T a=let b:=(IE (BF a,By a) (Bl a,Bh a),IX (BF a,By a) (Bl a,Bh a));.cd (length a<=1000000) (.ite (Hg a) (.leaf (.dat zh a) [])<|.ck (H5 a)<|.ck (Cj (BF a,By a)&&Cj (Bl a,Bh a)&&decide (0<Sp.vR (Bl a,Bh a)))<|.ck (Cj b)<|.leaf (.dat zh<|F6 b) []):=by kernel_rfl
end T121
namespace T190
def T[Srt](a:List Int)(i:Int):Tr:=tree XR0 false 9 190<|Ae ([zm i64,qz ye]) (a,i)
theorem Aj[Srt](a:List Int)(i:Int):T a i=.di (i<(length a:Int)) (.ck (decide (0<=i)&&decide (i<(length a:Int)))<|.leaf (.dat i64<|getD a (toNat i) 0) []) (.leaf (.dat i64 (0:Int)) []):=by kernel_rfl
end T190
namespace T129
def T[Srt](a b:List Int):Tr:=tree U4 false 9 129<|Ae ([zm i64,zm i64]) (a,b)
def L1[Srt](v0 v1:List Int)(a b:Int):Tr:=re ((T [] []))<|AE 42 [(0,.dat (zm i64) v0),(1,.dat (zm i64) v1),(5,.nil),(6,.dat i64 a),(7,.dat i64 b)] [] 0
theorem Aj[Srt](a b:List Int):T a b=L1 a b 0 0:=by kernel_rfl
def L2[Srt](v0 v1:List Int)(a:Nat)(d c:Int)(b:List Int):Tr:=re ((stepT U4<|L1 [] [] 0 0).L.L.L.L.L.L)<|AE 42 [(0,.dat (zm i64) v0),(1,.dat (zm i64) v1),(5,.sl 0 1 0 a none),(6,.dat i64 d),(7,.dat i64 c)] [(0,.arr false 3 i64 b)] 1
theorem Am[Srt](v0 v1:List Int)(b a:Int):stepT U4 (L1 v0 v1 b a)=.di (a<(length v0:Int)) (.cd (0<=a)<|.cd (0<=a)<|.ck true<|.ck (aa 8)<|.ck true<|L2 v0 v1 1 (zc .i64<|ym (zc .i64<|zc .i64 (H2 v0 a+H2 v1 a)+b) 1000000000) (zc .i64<|a+1)<|[yb (zc .i64<|zc .i64 (H2 v0 a+H2 v1 a)+b) 1000000000]) (.di (a<(length v1:Int)) (.cd (0<=a)<|.cd (0<=a)<|.ck true<|.ck (aa 8)<|.ck true<|L2 v0 v1 1 (zc .i64<|ym (zc .i64<|zc .i64 (H2 v0 a+H2 v1 a)+b) 1000000000) (zc .i64<|a+1)<|[yb (zc .i64<|zc .i64 (H2 v0 a+H2 v1 a)+b) 1000000000])<|.di (b>0) (.cd (0<=a)<|.cd (0<=a)<|.ck true<|.ck (aa 8)<|.ck true<|L2 v0 v1 1 (zc .i64<|ym (zc .i64<|zc .i64 (H2 v0 a+H2 v1 a)+b) 1000000000) (zc .i64<|a+1)<|[yb (zc .i64<|zc .i64 (H2 v0 a+H2 v1 a)+b) 1000000000])<|.leaf .nil []):=by kernel_rfl
theorem AU[Srt](v0 v1:List Int)(b:Nat)(d a:Int)(c:List Int):stepT U4 (L2 v0 v1 b d a c)=.di (a<(length v0:Int)) (.cd (0<=a)<|.cd (0<=a)<|.ck true<|.ck (ac b (length c) 8)<|.ck true<|L2 v0 v1 (jl b 1) (zc .i64<|ym (zc .i64<|zc .i64 (H2 v0 a+H2 v1 a)+d) 1000000000) (zc .i64<|a+1)<|c++[yb (zc .i64<|zc .i64 (H2 v0 a+H2 v1 a)+d) 1000000000]) (.di (a<(length v1:Int)) (.cd (0<=a)<|.cd (0<=a)<|.ck true<|.ck (ac b (length c) 8)<|.ck true<|L2 v0 v1 (jl b 1) (zc .i64<|ym (zc .i64<|zc .i64 (H2 v0 a+H2 v1 a)+d) 1000000000) (zc .i64<|a+1)<|c++[yb (zc .i64<|zc .i64 (H2 v0 a+H2 v1 a)+d) 1000000000])<|.di (d>0) (.cd (0<=a)<|.cd (0<=a)<|.ck true<|.ck (ac b (length c) 8)<|.ck true<|L2 v0 v1 (jl b 1) (zc .i64<|ym (zc .i64<|zc .i64 (H2 v0 a+H2 v1 a)+d) 1000000000) (zc .i64<|a+1)<|c++[yb (zc .i64<|zc .i64 (H2 v0 a+H2 v1 a)+d) 1000000000])<|.leaf (.sl 0 1 0 b none)<|[(0,.arr false 3 i64 c)]):=by kernel_rfl
end T129
namespace T131
def T[Srt](a b:List Int):Tr:=tree U4 false 9 131<|Ae ([zm i64,zm i64]) (a,b)
def L1[Srt](v0 v1:List Int)(a b:Int):Tr:=re ((T [] []))<|AE 35 [(0,.dat (zm i64) v0),(1,.dat (zm i64) v1),(5,.nil),(6,.dat i64 a),(7,.dat i64 b)] [] 0
theorem Aj[Srt](a b:List Int):T a b=L1 a b 0 0:=by kernel_rfl
def L2[Srt](v0 v1:List Int)(a:Nat)(d c:Int)(b:List Int):Tr:=re ((stepT U4<|L1 [] [] 0 0).L.L.L.L.L)<|AE 35 [(0,.dat (zm i64) v0),(1,.dat (zm i64) v1),(5,.sl 0 1 0 a none),(6,.dat i64 d),(7,.dat i64 c)] [(0,.arr false 3 i64 b)] 1
theorem Am[Srt](v0 v1:List Int)(b a:Int):stepT U4 (L1 v0 v1 b a)=.di (a<(length v0:Int)) (.ck (decide (0<=a)&&decide (a<(length v0:Int)))<|.cd (0<=a)<|.di (zc .i64 (zc .i64 (getD v0 (toNat a) 0-H2 v1 a)-b)<0) (.ck (aa 8)<|L2 v0 v1 1 1 (zc .i64<|a+1)<|[zc .i64<|zc .i64 (zc .i64 (getD v0 (toNat a) 0-H2 v1 a)-b)+1000000000])<|.ck (aa 8)<|L2 v0 v1 1 0 (zc .i64<|a+1)<|[zc .i64<|zc .i64 (getD v0 (toNat a) 0-H2 v1 a)-b]) (.ck true<|.leaf (.dat (zm i64)<|Aw []) []):=by kernel_rfl
theorem AU[Srt](v0 v1:List Int)(a:Nat)(d b:Int)(c:List Int):stepT U4 (L2 v0 v1 a d b c)=.di (b<(length v0:Int)) (.ck (decide (0<=b)&&decide (b<(length v0:Int)))<|.cd (0<=b)<|.di (zc .i64 (zc .i64 (getD v0 (toNat b) 0-H2 v1 b)-d)<0) (.ck (ac a (length c) 8)<|L2 v0 v1 (jl a 1) 1 (zc .i64<|b+1)<|c++[zc .i64<|zc .i64 (zc .i64 (getD v0 (toNat b) 0-H2 v1 b)-d)+1000000000])<|.ck (ac a (length c) 8)<|L2 v0 v1 (jl a 1) 0 (zc .i64<|b+1)<|c++[zc .i64<|zc .i64 (getD v0 (toNat b) 0-H2 v1 b)-d]) (.ck (decide (0+a<=length c)&&true&&decide (length (take a c)<=20000))<|.leaf (.dat (zm i64)<|Aw<|take a c) []):=by kernel_rfl
end T131
namespace T76
def T[Srt](a b:Bool×List Int):Tr:=tree XR2 false 9 76<|Ae ([qe zq<|zm i64,qe zq<|zm i64]) (a,b)
theorem Aj[Srt](a b:Bool×List Int):T a b=.ite (fst a==fst b) (.ck (jC (snd a)<|snd b)<|.cd (length (Hr (snd a)<|snd b)<=20000)<|.leaf (q9 [.dat zq<|Cy (fst a)<|Hr (snd a)<|snd b,.dat (zm i64)<|Aw<|Hr (snd a)<|snd b]) []) (.ck (A1 (snd a)&&A1 (snd b))<|.di (Cb (Ak<|snd a) (Ak<|snd b)>=0) (.ck (jC (snd a) (snd b)&&decide (Ak (snd b)<=Ak (snd a)))<|.cd (length (IQ (snd a)<|snd b)<=20000)<|.leaf (q9 [.dat zq<|Cy (fst a)<|IQ (snd a)<|snd b,.dat (zm i64)<|Aw<|IQ (snd a)<|snd b]) [])<|.ck (jC (snd b) (snd a)&&decide (Ak (snd a)<=Ak (snd b)))<|.cd (length (IQ (snd b)<|snd a)<=20000)<|.leaf (q9 [.dat zq<|Cy (fst b)<|IQ (snd b)<|snd a,.dat (zm i64)<|Aw<|IQ (snd b)<|snd a]) []):=by kernel_rfl
end T76
namespace T77
def T[Srt](a b:Bool×List Int):Tr:=tree XR2 false 9 77<|Ae ([qe zq<|zm i64,qe zq<|zm i64]) (a,b)
theorem Aj[Srt](a b:Bool×List Int):T a b=.ck (Sp.hR (snd a)&&Sp.hR (snd b)) (.cd (length (BA<|Ak (snd a)*Ak (snd b))<=20000)<|.leaf (q9 [.dat zq<|Cy (!fst a==fst b)<|BA<|Ak (snd a)*Ak (snd b),.dat (zm i64)<|Aw<|BA<|Ak (snd a)*Ak (snd b)]) []):=by kernel_rfl
end T77
namespace T126
def T[Srt](a:Bool×List Int):Tr:=tree XR2 false 9 126<|Ae ([qe zq<|zm i64]) a
theorem Aj[Srt](a:Bool×List Int):T a=.cd (length (snd a)<=20000) (.leaf (q9 [.dat zq<|Cy (!fst a)<|snd a,.dat (zm i64)<|Aw<|snd a]) []):=by kernel_rfl
end T126
namespace T185
def T[Srt](a b:Bool×List Int):Tr:=tree XR2 false 9 185<|Ae ([qe zq<|zm i64,qe zq<|zm i64]) (a,b)
theorem Aj[Srt](a b:Bool×List Int):T a b=.ck (A1 (snd a)&&A1 (snd b)&&decide (length (snd a)<=9000)&&decide (length (snd b)<=9000)&&decide (0<Ak (snd b))) (.ite (fst a) (.di ((↑(length<|BA<|Ak (snd a) % Ak (snd b)):Int)>0) (.ck (jC (BA<|Ak (snd a)/Ak (snd b)) [1])<|.cd (length (Hr (BA<|Ak (snd a)/Ak (snd b)) [1])<=20000)<|.leaf (q9 [.dat zq<|Cy (fst a)<|Hr (BA<|Ak (snd a)/Ak (snd b)) [1],.dat (zm i64)<|Aw<|Hr (BA<|Ak (snd a)/Ak (snd b)) [1]]) [])<|.cd (length (BA<|Ak (snd a)/Ak (snd b))<=20000)<|.leaf (q9 [.dat zq<|Cy (fst a)<|BA<|Ak (snd a)/Ak (snd b),.dat (zm i64)<|Aw<|BA<|Ak (snd a)/Ak (snd b)]) [])<|.cd (length (BA<|Ak (snd a)/Ak (snd b))<=20000)<|.leaf (q9 [.dat zq<|Cy (fst a)<|BA<|Ak (snd a)/Ak (snd b),.dat (zm i64)<|Aw<|BA<|Ak (snd a)/Ak (snd b)]) []):=by kernel_rfl
end T185
namespace T108
def T[Srt](a:Bool×List Int):Tr:=tree XR3 false 9 108<|Ae ([qe zq<|zm i64]) a
def L1[Srt](v3:Rd)(v4:Int)(b:Bool)(a:List Int):Tr:=re ((T (false,[])).R.L.L)<|AE 39 [(1,.ptr 0 0),(3,.dat zh v3),(4,.dat i64 v4)] [(0,.box [.dat zq b,.dat (zm i64) a])] 1
theorem Aj[Srt](a:Bool×List Int):T a=.ite ((↑(length<|snd a):Int)==0) (.leaf (.dat zh [(48:UInt8)]) []) (.ck (decide (0<=zc .i64 ((↑(length<|snd a):Int)-1))&&decide (zc .i64 ((↑(length<|snd a):Int)-1)<(↑(length<|snd a):Int)))<|.ck (decide (0<=getD (snd a) (toNat<|zc .i64<|(↑(length<|snd a):Int)-1) 0)&&decide (getD (snd a) (toNat<|zc .i64<|(↑(length<|snd a):Int)-1) 0<9223372036854775808)&&decide (0<=1)&&decide (1<=20))<|L1 (Ij (getD (snd a) (toNat<|zc .i64<|(↑(length<|snd a):Int)-1) 0) 1) (zc .i64<|(↑(length<|snd a):Int)-2) (fst a)<|snd a):=by kernel_rfl
theorem Am[Srt](v3:Rd)(v4:Int)(b:Bool)(a:List Int):stepT XR3 (L1 v3 v4 b a)=.di (v4>=0) (.ck (decide (0<=v4)&&decide (v4<(length a:Int)))<|.ck (decide (0<=getD a (toNat v4) 0)&&decide (getD a (toNat v4) 0<9223372036854775808)&&decide (0<=9)&&decide (9<=20))<|.cd (length v3+length (Ij (getD a (toNat v4) 0) 9)<=4611686018427387904)<|L1 (v3++Ij (getD a (toNat v4) 0) 9) (zc .i64<|v4-1) b a) (.ite b (.cd (1+length v3<=4611686018427387904)<|.leaf (.dat zh<|[(45:UInt8)]++v3) [])<|.leaf (.dat zh v3) []):=by kernel_rfl
end T108
namespace T75
def T[Srt](a b:Bool×List Int):Tr:=tree lT false 9 75<|Ae ([qe zq<|zm i64,qe zq<|zm i64]) (a,b)
def L1[Srt](o1:Bool)(b:List Int)(c:Bool)(a:List Int):Tr:=re ((T (false,[]) (false,[])).L.L.L)<|AE 57 [(2,.ptr 0 0),(3,.ptr 1 0)] [(1,.box [.dat zq o1,.dat (zm i64) b]),(0,.box [.dat zq c,.dat (zm i64) a])] 2
theorem Aj[Srt](a b:Bool×List Int):T a b=.ite (fst b) (.ck (Cj a)<|.ck (Cj b)<|L1 (SF b) (RZ b) (SF a)<|RZ a) (L1 (fst b) (snd b) (fst a)<|snd a):=by kernel_rfl
def L2[Srt](b:List Int)(a:Rd):Tr:=re ((stepT lT<|L1 false [] false []).L.L.L.L.L)<|AE 57 [(8,.dat (zm i64) b),(10,.dat zh a)] [] 0
theorem Am[Srt](o1:Bool)(b:List Int)(c:Bool)(a:List Int):stepT lT (L1 o1 b c a)=.ck (A1 a&&A1 b&&decide (length a<=9000)&&decide (length b<=9000)) (.ck (A1 a&&A1 (Cg a b)&&decide (length a<=9000)&&decide (length (Cg a b)<=9000)&&decide (0<Ak (Cg a b)))<|.ck (A1 b&&A1 (Cg a b)&&decide (length b<=9000)&&decide (length (Cg a b)<=9000)&&decide (0<Ak (Cg a b)))<|.cd (length (BA<|Ak a/Ak (Cg a b))<=20000)<|.ck (Cj (Cy c<|BA<|Ak a/Ak (Cg a b),Aw<|BA<|Ak a/Ak (Cg a b)))<|L2 (BA<|Ak b/Ak (Cg a b))<|F6 (Cy c<|BA<|Ak a/Ak (Cg a b),Aw<|BA<|Ak a/Ak (Cg a b))):=by kernel_rfl
def L3[Srt](b:List Int)(a:Rd):Tr:=re ((stepT lT<|L2 [] []).L.L.R)<|AE 57 [(8,.dat (zm i64) b),(10,.dat zh a)] [] 0
theorem AU[Srt](b:List Int)(a:Rd):stepT lT (L2 b a)=.ite ((length b:Int)==1) (.cd (0<(length b:Int))<|.ite (getD b 0 0==1) (.leaf (.dat zh a) [])<|L3 b a) (L3 b a):=by kernel_rfl
theorem BH[Srt](b:List Int)(a:Rd):stepT lT (L3 b a)=.cd (length a+1<=4611686018427387904) (.cd (length b<=20000)<|.ck (Cj (Cy false b,Aw b))<|.cd (length (a++[(47:UInt8)])+length (F6 (Cy false b,Aw b))<=4611686018427387904)<|.leaf (.dat zh<|a++[(47:UInt8)]++F6 (Cy false b,Aw b)) []):=by kernel_rfl
end T75
namespace T52
def T[Srt](n d:Int):Tr:=tree aO false 9 52<|Ae ([qz ye,qz ye]) (n,d)
def L1[Srt](v0 v1:Int):Tr:=re ((T 0 0).R.R.R.R)<|AE 61 [(0,.dat i64 v0),(1,.dat i64 v1)] [] 0
theorem Aj[Srt](n d:Int):T n d=.di (n<(-4000000000000000000)) (.ck (Cx n)<|.ck (Cx d)<|.ck (Cj (zw n,zr n)&&Cj (zw d,zr d)&&decide (Sp.vR (zw d,zr d)≠0))<|.leaf (.dat zh<|Ik (zw n,zr n) (zw d,zr d)) []) (.di (n>4000000000000000000) (.ck (Cx n)<|.ck (Cx d)<|.ck (Cj (zw n,zr n)&&Cj (zw d,zr d)&&decide (Sp.vR (zw d,zr d)≠0))<|.leaf (.dat zh<|Ik (zw n,zr n) (zw d,zr d)) [])<|.di (d<(-4000000000000000000)) (.ck (Cx n)<|.ck (Cx d)<|.ck (Cj (zw n,zr n)&&Cj (zw d,zr d)&&decide (Sp.vR (zw d,zr d)≠0))<|.leaf (.dat zh<|Ik (zw n,zr n) (zw d,zr d)) [])<|.di (d>4000000000000000000) (.ck (Cx n)<|.ck (Cx d)<|.ck (Cj (zw n,zr n)&&Cj (zw d,zr d)&&decide (Sp.vR (zw d,zr d)≠0))<|.leaf (.dat zh<|Ik (zw n,zr n) (zw d,zr d)) [])<|L1 n d):=by kernel_rfl
def L2[Srt](v0 v1:Int):Tr:=re ((stepT aO<|L1 0 0).L)<|AE 61 [(0,.dat i64 v0),(1,.dat i64 v1)] [] 0
theorem Am[Srt](v0 v1:Int):stepT aO (L1 v0 v1)=.di (v1<0) (L2 (zc .i64<|0-v0)<|zc .i64<|0-v1) (L2 v0 v1):=by kernel_rfl
def L3[Srt](v0 v1:Int):Tr:=re ((stepT aO<|L2 0 0).L.L.L)<|AE 61 [(0,.dat i64 v0),(1,.dat i64 v1)] [] 0
theorem AU[Srt](v0 v1:Int):stepT aO (L2 v0 v1)=.ck (Aa5 (imax v0<|zc .i64<|0-v0) v1) (.cd (ji (imax v0<|zc .i64<|0-v0) v1≠0)<|.cd (ji (imax v0<|zc .i64<|0-v0) v1≠0)<|L3 (zc .i64<|ym v0<|ji (imax v0<|zc .i64<|0-v0) v1)<|zc .i64<|ym v1<|ji (imax v0<|zc .i64<|0-v0) v1):=by kernel_rfl
def L4[Srt](v1:Int)(a:Rd):Tr:=re ((stepT aO<|L3 0 0).L.L.L)<|AE 61 [(1,.dat i64 v1),(6,.dat zh a)] [] 0
theorem BH[Srt](v0 v1:Int):stepT aO (L3 v0 v1)=.di (v0<0) (.ck (decide (0<=imax v0 (zc .i64<|0-v0))&&decide (imax v0 (zc .i64<|0-v0)<9223372036854775808)&&decide (0<=1)&&decide (1<=20))<|.cd (1+length (Ij (imax v0<|zc .i64<|0-v0) 1)<=4611686018427387904)<|L4 v1<|[(45:UInt8)]++Ij (imax v0<|zc .i64<|0-v0) 1) (.ck (decide (0<=imax v0 (zc .i64<|0-v0))&&decide (imax v0 (zc .i64<|0-v0)<9223372036854775808)&&decide (0<=1)&&decide (1<=20))<|.cd (0+length (Ij (imax v0<|zc .i64<|0-v0) 1)<=4611686018427387904)<|L4 v1<|[]++Ij (imax v0<|zc .i64<|0-v0) 1):=by kernel_rfl
theorem CA[Srt](v1:Int)(a:Rd):stepT aO (L4 v1 a)=.di (v1>1) (.cd (length a+1<=4611686018427387904)<|.ck (decide (0<=v1)&&decide (v1<9223372036854775808)&&decide (0<=1)&&decide (1<=20))<|.cd (length (a++[(47:UInt8)])+length (Ij v1 1)<=4611686018427387904)<|.leaf (.dat zh<|a++[(47:UInt8)]++Ij v1 1) []) (.leaf (.dat zh a) []):=by kernel_rfl
end T52
namespace T110
def T[Srt](a b:Int):Tr:=tree Nn false 9 110<|Ae ([qz ye,qz ye]) (a,b)
def L1[Srt](v0 v1:Int):Tr:=re ((T 0 0))<|AE 12 [(0,.dat i64 v0),(1,.dat i64 v1)] [] 0
theorem Aj[Srt](a b:Int):T a b=L1 a b:=by kernel_rfl
theorem Am[Srt](v0 v1:Int):stepT Nn (L1 v0 v1)=.di (v1>0) (.cd (v1≠0)<|L1 v1<|yb v0 v1) (.leaf (.dat i64 v0) []):=by kernel_rfl
end T110
namespace T107
def T[Srt](s:Rd):Tr:=tree Nn false 9 107<|Ae ([zh]) s
theorem Aj[Srt](s:Rd):T s=let a:Tr:=.leaf (.dat i64 (1:Int)) [];.ite (s==[(48:UInt8)]) (.leaf (.dat i64 (0:Int)) []) (.di ((length s:Int)>0) (.cd (0<(length s:Int))<|.ite ((↑(UInt8.toNat<|getD s 0 (0:UInt8)):Int)==45) (.leaf (.dat i64 (-1:Int)) []) a) a):=by kernel_rfl
end T107
namespace T112
def T[Srt](s:Rd):Tr:=tree XO2 false 9 112<|Ae ([zh]) s
theorem Aj[Srt](s:Rd):T s=let a:=decide (length s<=1000000);.ck a (.di (GH s<0) (.ck (decide (1<=length s)&&decide (length s<=length s))<|.leaf (.dat zh<|take (yp (length s) 1)<|drop 1 s) [])<|.ck a<|.ite (GH s==0) (.leaf (.dat zh s) [])<|.cd (1+length s<=4611686018427387904)<|.leaf (.dat zh<|[(45:UInt8)]++s) []):=by kernel_rfl
end T112
namespace T111
def T[Srt](n l:Int):Tr:=tree Nn false 9 111<|Ae ([qz ye,qz ye]) (n,l)
def L1[Srt](v0 v1:Int)(v5:Rd):Tr:=re ((T 0 0))<|AE 25 [(0,.dat i64 v0),(1,.dat i64 v1),(5,.dat zh v5)] [] 0
theorem Aj[Srt](n l:Int):T n l=L1 n l []:=by kernel_rfl
theorem Am[Srt](v0 v1:Int)(v5:Rd):stepT Nn (L1 v0 v1 v5)=let a:=zc .i64<|yb v0 10+1;let b:=toNat<|yb v0 10;let b':=drop b [(48:UInt8),49,50,51,52,53,54,55,56,57];let c:Tr:=.ck true<|.ck true<|.ck (decide (0<=yb v0 10)&&decide (0<=zc .i64 (yb v0 10+1))&&decide (toNat (yb v0 10)<=toNat a)&&decide (toNat a<=10))<|.cd (length (take (yp (toNat a) b) b')+length v5<=4611686018427387904)<|.ck true<|L1 (zc .i64<|ym v0 10) v1<|take (yp (toNat a) b) b'++v5;.di (v0>0) c (.di ((length v5:Int)<v1) c<|.leaf (.dat zh v5) []):=by kernel_rfl
end T111
namespace T73
def T[Srt](s:Rd):Tr:=tree Ns false 9 73<|Ae ([zh]) s
def L1[Srt](v5:Rd)(a:Bool):Tr:=re ((T []).R.L.L)<|AE 54 [(5,.dat zh v5),(6,.dat zq a)] [] 0
def L2[Srt](v5:Rd):Tr:=re ((T []).R.R)<|AE 54 [(5,.dat zh v5),(6,.bl false)] [] 0
theorem Aj[Srt](s:Rd):T s=let a:=(length s:Int);.di (a>20) (.leaf (.tup [.dat i64 (0:Int),.dat i64 (0:Int),.bl false]) []) (.di (a>0) (.cd (0<a)<|L1 s<|(↑(UInt8.toNat<|getD s 0 (0:UInt8)):Int)==45)<|L2 s):=by kernel_rfl
def L3[Srt](v5:Rd)(a:Bool):Tr:=re ((stepT Ns<|L1 [] false).L.L)<|AE 54 [(5,.dat zh v5),(6,.dat zq a)] [] 0
theorem Am[Srt](v5:Rd)(a:Bool):stepT Ns (L1 v5 a)=.ite a (.ck (decide (1<=length v5)&&decide (length v5<=length v5))<|L3 (take (yp (length v5) 1)<|drop 1 v5) a) (L3 v5 a):=by kernel_rfl
def L4[Srt](v5:Rd):Tr:=re ((stepT Ns<|L2 []))<|AE 54 [(5,.dat zh v5),(6,.bl false)] [] 0
theorem AU[Srt](v5:Rd):stepT Ns (L2 v5)=L4 v5:=by kernel_rfl
def L5[Srt](v5:Rd)(b:Bool)(a c v9:Int):Tr:=re ((stepT Ns<|L3 [] false).L.R.R.L.L)<|AE 54 [(5,.dat zh v5),(6,.dat zq b),(7,.dat i64 a),(8,.dat i64 c),(9,.dat i64 v9)] [] 0
theorem BH[Srt](v5:Rd)(b:Bool):stepT Ns (L3 v5 b)=let a:Tr:=.leaf (.tup [.dat i64 (0:Int),.dat i64 (0:Int),.bl false]) [];let b':=AW v5;.cd (length v5<=1000000) (.di (AW v5>9) a<|.di (zc .i64 ((length v5:Int)-AW v5)>10) a<|.ck (decide (0<=AW v5)&&decide (0<=toNat b')&&decide (toNat b'<=length v5))<|.ck (DN<|take (toNat b') v5)<|L5 v5 b b' (BJ<|take (toNat b') v5) 1):=by kernel_rfl
def L6[Srt](v5:Rd)(b a v9:Int):Tr:=re ((stepT Ns<|L4 []).L.R.R.L.L)<|AE 54 [(5,.dat zh v5),(6,.bl false),(7,.dat i64 b),(8,.dat i64 a),(9,.dat i64 v9)] [] 0
theorem CA[Srt](v5:Rd):stepT Ns (L4 v5)=let a:Tr:=.leaf (.tup [.dat i64 (0:Int),.dat i64 (0:Int),.bl false]) [];let b':=AW v5;.cd (length v5<=1000000) (.di (AW v5>9) a<|.di (zc .i64 ((length v5:Int)-AW v5)>10) a<|.ck (decide (0<=AW v5)&&decide (0<=toNat b')&&decide (toNat b'<=length v5))<|.ck (DN<|take (toNat b') v5)<|L6 v5 b' (BJ<|take (toNat b') v5) 1):=by kernel_rfl
def L7[Srt](b:Bool)(a v9:Int):Tr:=re ((stepT Ns<|L5 [] false 0 0 0).L.L.L)<|AE 54 [(6,.dat zq b),(8,.dat i64 a),(9,.dat i64 v9)] [] 0
theorem FO[Srt](v5:Rd)(b:Bool)(a c v9:Int):stepT Ns (L5 v5 b a c v9)=let b':=zc .i64<|a+1;let d:=take (yp (length v5)<|toNat b')<|drop (toNat b') v5;.di (a<(length v5:Int)) (.ck (decide (0<=zc .i64 (a+1))&&true&&decide (toNat b'<=length v5)&&decide (length v5<=length v5))<|.ck (DN d)<|L7 b c<|BJ d) (L7 b c v9):=by kernel_rfl
def L8[Srt](a v9:Int):Tr:=re ((stepT Ns<|L6 [] 0 0 0).L.L.L)<|AE 54 [(6,.bl false),(8,.dat i64 a),(9,.dat i64 v9)] [] 0
theorem Lr[Srt](v5:Rd)(a b v9:Int):stepT Ns (L6 v5 a b v9)=let b':=zc .i64<|a+1;let c:=take (yp (length v5)<|toNat b')<|drop (toNat b') v5;.di (a<(length v5:Int)) (.ck (decide (0<=zc .i64 (a+1))&&true&&decide (toNat b'<=length v5)&&decide (length v5<=length v5))<|.ck (DN c)<|L8 b<|BJ c) (L8 b v9):=by kernel_rfl
theorem FV[Srt](b:Bool)(a v9:Int):stepT Ns (L7 b a v9)=.ite b (.leaf (.tup [.dat i64<|zc .i64<|0-a,.dat i64 v9,.bl true]) []) (.leaf (.tup [.dat i64 a,.dat i64 v9,.bl true]) []):=by kernel_rfl
theorem MD[Srt](a v9:Int):stepT Ns (L8 a v9)=.leaf (.tup [.dat i64 a,.dat i64 v9,.bl true]) []:=by kernel_rfl
end T73
namespace T70
def T[Srt](a:Rd):Tr:=tree Nn false 9 70<|Ae ([zh]) a
theorem Aj[Srt](a:Rd):T a=let b:Tr:=.ck (decide (1<=length a)&&decide (length a<=length a))<|.leaf (.dat zh<|take (yp (length a) 1)<|drop 1 a) [];let b':Tr:=.ite false b<|.leaf (.dat zh a) [];.ite (a==[(48:UInt8)]) b' (.di ((length a:Int)>0) (.cd (0<(length a:Int))<|.ite ((↑(UInt8.toNat<|getD a 0 (0:UInt8)):Int)==45) (.ite true b<|.leaf (.dat zh a) []) b') b'):=by kernel_rfl
end T70
namespace T71
def T[Srt](a:Rd):Tr:=tree XM5 false 9 71<|Ae ([zh]) a
theorem Aj[Srt](a:Rd):T a=.cd (length a<=1000000) (.ck (decide (0<=AW a)&&decide (0<=toNat (AW a))&&decide (toNat (AW a)<=length a))<|.leaf (.dat zh<|take (toNat<|AW a) a) []):=by kernel_rfl
end T71
namespace T72
def T[Srt](a:Rd):Tr:=tree XM5 false 9 72<|Ae ([zh]) a
theorem Aj[Srt](a:Rd):T a=let b:=zc .i64<|AW a+1;.cd (length a<=1000000) (.ite (AW a==(length a:Int)) (.leaf (.dat zh [(49:UInt8)]) [])<|.ck (decide (0<=zc .i64 (AW a+1))&&true&&decide (toNat b<=length a)&&decide (length a<=length a))<|.leaf (.dat zh<|take (yp (length a)<|toNat b)<|drop (toNat b) a) []):=by kernel_rfl
end T72
namespace T25
def T[Srt](a:Rd)(n:Int):Tr:=tree XM3 false 9 25<|Ae ([zh,qz ye]) (a,n)
theorem Aj[Srt](a:Rd)(n:Int):T a n=let b:=decide (length a<=1000000);let b':Tr:=.leaf (.bl false) [];.di ((length a:Int)<=zc .i64 (zc .i64 (2*n)+2)) (.ck b<|.ite (AH a==0) (.ck b<|.cd (length (AB a)<=1000000)<|.di ((↑(length<|A6<|AB a):Int)<=n) (.ck b<|.leaf (.dat zq<|decide ((↑(length<|SZ a):Int)<=n)) []) b') b') b':=by kernel_rfl
end T25
end
theorem Xx[Srt]:Dn XM5:=Aa T104.ok AO
theorem T70.ok[Srt]:Af Bb 70 YK:=by
 refine BL EA<|fun(a:Rd) i=>?_;have i:a.length<=1000000:=w6 i;have b:∀s ob,s=A6 a->Ac YK a (.dat .str s) ob:=fun s ob h=>zy rfl rfl h
 refine zp (T70.Aj a)<|zi (fun c=>zo rfl (zf<|b _ _ ?_))<|fun c=>?_
 ·have c:a=[48]:=by simpa using c
  subst c;rfl
 ·cases a with
  |nil=>exact zo rfl (zo rfl (zf<|b _ _ rfl))
  |cons x r=>
   have g:(x::r).getD 0 0=x:=rfl;have e:(List.drop 1 (x::r)).take (yp (x::r).length 1)=r:=by show r.take ((r.length+1)-1)=r;rw[qh];exact List.take_length
   rw[g,e];refine zd (by simp) (zd (by simp) (zi (fun d=>zd rfl (zd (by simp)<|zf<|b _ _ ?_))<|fun d=>zo rfl (zf<|b _ _ ?_)))
   ·have f:x=45:=by
     have:(x.toNat:Int)=45:=by simpa using d
     exact qc.1 (by show _=45;omega)
    unfold A6;rw[g,wd f];rfl
   ·have f:x≠45:=by rintro rfl;exact wh d af
    unfold A6;rw[g,wc f]
theorem T71.ok[Srt]:Af Bb 71 gK:=by
 refine BL Xx<|fun(a:Rd) hl=>?_;have b:=(T61.Ez a).1;refine zp (T71.Aj a)<|zd hl ?_;rw[show AW a=((AB a).length:Int)from rfl,zl];exact zd (by simp;omega)<|zf<|zy rfl rfl (BE a).1.symm
theorem T72.ok[Srt]:Af Bb 72 XO:=by
 refine BL Xx<|fun(a:Rd) hl=>?_;have f:a.length<=1000000:=w6 hl;obtain⟨j,g,i⟩:=BE a;have c:∀s ob,s=SZ a->Ac XO a (.dat .str s) ob:=fun s ob h=>zy rfl rfl h
 have e:=(T61.Ez a).1;have es:AW a=((AB a).length:Int):=rfl;refine zp (T72.Aj a)<|zd hl ?_;rw[es];cases b:Bw a with
 |false=>
  refine zd (by rw[(i b).1];simp)<|zf<|c _ _ ?_;unfold SZ;rw[b];rfl
 |true=>
  obtain⟨k,d⟩:=g b;have e1:zc .i64 (((AB a).length:Int)+1)=(((AB a).length+1:Nat):Int):=by rw[wr _ ae ae];omega
  have e2:(a.drop<|(AB a).length+1).take (yp a.length<|(AB a).length+1)=a.drop ((AB a).length+1):=zz (by rw[yc];exact yn _);rw[e1,zl,e2];refine zo (by simp;omega) (zd (by simp;omega)<|zf<|c _ _ ?_);unfold SZ;rw[b,d];rfl
theorem oD[Srt]:Dn XM3:=Aa T48.ok<|Aa T70.ok<|Aa T71.ok<|Aa T72.ok AO
theorem T25.ok[Srt]:Af Bb 25 cD:=by
 refine BL oD<|fun(i:Rd×Int) g=>?_;obtain⟨a,n⟩:=i;have g:(decide (0<=n)&&decide (n<=1000))=true:=g;rw[ze,w5,w5]at g;obtain⟨h0,h1⟩:=g;have f:∀v b ob,v=.bl b\/v=.dat .bool b->b=Kd a n->Ac cD (a,n) v ob:=by
  rintro v b ob (rfl|rfl) j
  ·exact zy rfl rfl j
  ·exact zy rfl rfl j
 have e1:zc .i64 (zc .i64 (2*n)+2)=2*n+2:=by rw[wr (2*n) ae ae];exact wr _ ae ae
 have k:=(T61.Ez a).1;refine zp (T25.Aj a n) ?_;conv=>zeta
 rw[e1];by_cases h:a.length<=1000000
 case neg=>
  have c:decide ((a.length:Int)<=2*n+2)=false:=w8 ae;refine zo c<|zf<|f _ _ _ (.inl rfl) ?_;unfold Kd;rw[c];rfl
 refine zi (fun c=>zd (w4 h)<|zi (fun d=>zd (w4 h)<|zd (w4 ae)<|zi (fun e=>zd (w4 h)<|zf<|f _ _ _ (.inr rfl) ?_)<|fun e=>zf<|f _ _ _ (.inl rfl) ?_)<|fun d=>zf<|f _ _ _ (.inl rfl) ?_)<|fun c=>zf<|f _ _ _ (.inl rfl) ?_
 ·have d:AH a=0:=by simpa using d
  unfold Kd;rw[c,e,w4 d];rfl
 ·unfold Kd;rw[e];simp
 ·have d:AH a≠0:=by simpa using d
  unfold Kd;rw[w8 d];simp
 ·unfold Kd;rw[c];rfl
namespace T110
theorem Aq[Srt](g:Nat)(b:∀ob,Q (.dat i64 (g:Int)) ob):∀(f x y:Nat),y<f->Nat.gcd x y=g->Ends Nn (L1 (x:Int) (y:Int)) Q
 |0,x,y,h,_=>by omega
 |f+1,x,y,d,a=>by
  refine zn (Am ..) ?_;conv=>zeta
  by_cases h0:y=0
  ·subst h0;rw[Nat.gcd_zero_right]at a;subst a;exact zo rfl (zf<|b _)
  ·have e:yb (x:Int) (y:Int)=((x % y:Nat):Int):=by rw[qi<|qj x];rfl
   rw[e];have c:x % y<y:=Nat.mod_lt _ ae;exact zd (by simp;omega) (zd (by simp;omega)<|Aq g b f y (x % y) ae (by rw[Nat.gcd_comm, <-Nat.gcd_rec,Nat.gcd_comm];exact a))
theorem ok[Srt]:Af Bb 110 tM:=by
 refine BL EA<|fun(i:Int×Int) c=>?_;obtain⟨a,b⟩:=i;have c:(decide (0<=a)&&decide (a<9223372036854775808)&&decide (0<=b)&&decide (b<9223372036854775808))=true:=c;rw[ze,ze,ze,w5,w5,w5,w5]at c;obtain⟨⟨⟨a0,_⟩,b0⟩,_⟩:=c;obtain⟨x,rfl⟩:=yd a0;obtain⟨y,rfl⟩:=yd b0;refine zp (Aj x y)<|Aq (Nat.gcd x y) (fun ob=>zy rfl rfl ?_) (y+1) x y (Nat.lt_succ_self _) rfl;show((Nat.gcd x y:Nat):Int)=ji (x:Int) (y:Int);rw[FN];rfl
end T110
namespace T107
theorem ok[Srt]:Af Bb 107 Rk:=by
 refine BL EA<|fun(s:Rd) hl=>?_;have a:∀v ob,v=GH s->Ac Rk s (.dat i64 v) ob:=fun v ob f=>zy rfl rfl f
 refine zp (Aj s)<|zi (fun c=>zf<|a _ _ ?_)<|fun c=>?_
 ·have c:s=[48]:=by simpa using c
  unfold GH;rw[wd c]
 ·have c:¬s=[48]:=by simpa using c
  cases s with
  |nil=>exact zo rfl (zf<|a _ _ rfl)
  |cons x r=>
   have e:(x::r).getD 0 0=x:=rfl;rw[e];refine zd (by simp) (zd (by simp)<|zi (fun d=>zf<|a _ _ ?_)<|fun d=>zf<|a _ _ ?_)
   ·have b:x=45:=by
     have:(x.toNat:Int)=45:=by simpa using d
     exact qc.1 (by show _=45;omega)
    unfold GH;rw[wc c,e,wd b]
   ·have b:x≠45:=by rintro rfl;exact wh d af
    unfold GH;rw[wc c,e,wc b]
end T107
theorem mJ[Srt]:Dn XO2:=Aa T107.ok AO
theorem T112.ok[Srt]:Af Bb 112 kD:=by
 refine BL mJ<|fun(s:Rd) b=>?_;have b:s.length<=1000000:=w6 b;have a:∀v ob,v=KI s->Ac kD s (.dat .str v) ob:=fun v ob e=>zy rfl rfl e
 refine zp (T112.Aj s)<|zd (w4 b) ?_;unfold KI at a;unfold GH;by_cases c:s=[48]
 ·rw[wd c];rw[wd c]at a;exact zo rfl (zd (w4 b)<|zd rfl (zf<|a _ _ rfl))
 ·rw[wc c];rw[wc c]at a;by_cases d:s.getD 0 0=45
  ·rw[wd d];rw[wd d]at a;have f:s≠[]:=by rintro rfl;exact wh d af
   have g:1<=s.length:=List.length_pos_iff.2 f;refine zd rfl (zd (by simp;omega)<|zf<|a _ _ ?_);exact zz (by rw[yc];exact yn _)
  ·rw[wc d];rw[wc d]at a;exact zo rfl (zd (w4 b)<|zo rfl (zd (by simp;omega)<|zf<|a _ _ rfl))
namespace T111
theorem YV:∀k:Fin 10,jk (yp (k.1+1) k.1) (List.drop k.1 [(48:UInt8),49,50,51,52,53,54,55,56,57])=[yu<|48+k.1]:=af
theorem Aq[Srt]{Q:PV->Ob->Prop}(l:Nat)(p:l<=20):∀(f n:Nat) (a:Rd),n<9223372036854775808->n<10^f->l<=a.length+f->a.length+f<=64->(∀ob,Q (.dat .str<|Hx (f+1) n l a) ob)->Ends Nn (L1 (n:Int) (l:Int) a) Q:=by
 intro f;induction f with
 |zero=>
  intro n a k g i e b;have h0:n=0:=by rw[Nat.pow_zero]at g;omega
  subst h0;unfold Hx at b;rw[wd ⟨rfl,by omega⟩]at b;exact zn (Am ..) (zo rfl (zo (by simp;omega)<|zf<|b _))
 |succ f o=>
  intro n a k g i e b;have e1:yb (n:Int) 10=((n % 10:Nat):Int):=by rw[qi<|qj n];rfl
  have e2:zc .i64 (((n % 10:Nat):Int)+1)=((n % 10+1:Nat):Int):=by rw[wr _ ae ae];omega
  have e3:zc .i64 (ym (n:Int) 10)=((n/10:Nat):Int):=by rw[Int.tdiv_eq_ediv_of_nonneg<|qj n,wr _ ae ae];rfl
  have h:=YV ⟨n % 10,Nat.mod_lt _ af⟩;have h:jk (yp (n % 10+1)<|n % 10) (List.drop (n % 10) [(48:UInt8),49,50,51,52,53,54,55,56,57])=[yu<|48+n % 10]:=h;have q:n % 10<10:=Nat.mod_lt _ af;rw[qd]at g;refine zn (Am ..) ?_;conv=>zeta
  rw[e1,e2,e3,zl,zl,h];by_cases j:n=0/\l<=a.length
  ·obtain⟨m,z2⟩:=j;subst m;unfold Hx at b;rw[wd ⟨rfl,z2⟩]at b;exact zo rfl (zo (by simp;omega)<|zf<|b _)
  ·have d:∀ob,Q (.dat .str<|Hx (f+1) (n/10) l (yu (48+n % 10)::a)) ob:=by
    intro ob;have:=b ob;unfold Hx at this;rw[wc j]at this;exact this
   have go:Ends Nn (L1 ((n/10:Nat):Int) (l:Int)<|[yu<|48+n % 10]++a) Q:=o (n/10) (yu (48+n % 10)::a) ae ae (by rw[zu];omega) (by rw[zu];omega) d;refine zi (fun _=>?_)<|fun c=>zd ?_ ?_
   ·exact zd rfl (zd rfl (zd (by simp;omega)<|zd (by simp;omega)<|zd rfl go))
   ·have c:=w7 c;exact w4 ae
   ·exact zd rfl (zd rfl (zd (by simp;omega)<|zd (by simp;omega)<|zd rfl go))
theorem ok[Srt]:Af Bb 111 Oz:=by
 refine BL EA<|fun(i:Int×Int) c=>?_;obtain⟨a,b⟩:=i;have c:(decide (0<=a)&&decide (a<9223372036854775808)&&decide (0<=b)&&decide (b<=20))=true:=c;rw[ze,ze,ze,w5,w5,w5,w5]at c;obtain⟨⟨⟨a0,a1⟩,b0⟩,b1⟩:=c;obtain⟨x,rfl⟩:=yd a0;obtain⟨y,rfl⟩:=yd b0;refine zp (Aj x y) (Aq y ae 63 x [] ae ae (by show y<=0+63;omega) af<|fun ob=>zy rfl rfl ?_);show Hx 64 x y []=Hx 64 (x:Int).toNat (y:Int).toNat [];rw[zl,zl]
end T111
theorem mK[Srt]:Dn Ns:=Aa T125.ok<|Aa T104.ok AO
namespace T73
theorem Ch[Srt](neg:Bool)(n d:Int)(h0:0<=n)(b:n<1000000000)(a:∀ob,Q (.tup [.dat i64<|if neg=true then -n else n,.dat i64 d,.bl true]) ob):Ends Ns (L7 neg n d) Q:=by
 refine zn (FV ..) ?_;conv=>zeta
 cases neg with
 |true=>
  refine zd rfl (zf ?_);rw[wr _ ae ae,Int.zero_sub];exact a _
 |false=>exact zo rfl (zf<|a _)
theorem Cu[Srt](s:Rd)(neg:Bool)(n:Int)(h0:0<=n)(e:n<1000000000)(l:s.length<=20)(k:(yo s).length<=9)(db:Al (yo s)=true)(a:∀ob,Q (.tup [.dat i64<|if neg=true then -n else n,.dat i64<|if Bw s=true then AA 0 (yo s)else 1,.bl true]) ob):Ends Ns (L5 s neg (AW s) n 1) Q:=by
 obtain⟨m,j,f⟩:=BE s;refine zn (FO ..) ?_;conv=>zeta
 have es:AW s=((AB s).length:Int):=rfl;have i:=(T61.Ez s).1;cases b:Bw s with
 |true=>
  rw[b]at a;obtain⟨d,c⟩:=j b;have e3:zc .i64 (AW s+1)=(((AB s).length+1:Nat):Int):=by rw[es,wr _ ae ae];omega
  have h:(yo s).length=s.length-((AB s).length+1):=by rw[c,yc]
  have g:(yo s).take (yp s.length<|(AB s).length+1)=yo s:=zz (by show _<=s.length-_;omega);rw[e3,zl, <-c,g];exact zd (by simp[es];omega) (zd (by simp;omega) (zd (T124.BY db ae)<|Ch neg n _ h0 e a))
 |false=>
  obtain⟨d,c⟩:=f b;rw[b]at a;exact zo (by simp[es,d])<|Ch neg n 1 h0 e a
theorem CY[Srt](s:Rd)(neg:Bool)(g:s.length<=20)(h:(AB s).length<=9)(f:(yo s).length<=9)(b:Al (AB s)=true)(db:Al (yo s)=true)(e:∀n ob,n=AA 0 (AB s)->Q (.tup [.dat i64<|if neg=true then -n else n,.dat i64<|if Bw s=true then AA 0 (yo s)else 1,.bl true]) ob):Ends Ns (L3 s neg ) Q:=by
 obtain⟨k,m,i⟩:=BE s;have es:AW s=((AB s).length:Int):=rfl;have l:=(T61.Ez s).1;have a:s.length-(AB s).length<=10:=by
  cases c:Bw s with
  |true=>
   obtain⟨o,d⟩:=m c;have:(yo s).length=s.length-((AB s).length+1):=by rw[d,yc]
   omega
  |false=>rw[(i c).1];omega
 have j:jk (Int.toNat<|AW s) s=AB s:=by rw[es,zl];exact k.symm
 obtain⟨v0,v1⟩:=T124.Cs b h;refine zn (BH ..) ?_;conv=>zeta
 rw[j];refine zd (by simp;omega) (zo (by simp[es];omega)<|zo ?_<|zd (by simp[es];omega)<|zd (T124.BY b ae) ?_)
 ·rw[es,wr _ ae ae];exact w8 ae
 ·exact Cu s neg (AA 0<|AB s) v0 v1 g f db<|fun ob=>e _ ob rfl
theorem Hb[Srt](n d:Int)(a:∀ob,Q (.tup [.dat i64 n,.dat i64 d,.bl true]) ob):Ends Ns (L8 n d) Q:=by
 refine zn (MD ..) ?_;conv=>zeta
 exact zf<|a _
theorem Jq[Srt](s:Rd)(n:Int)(l:s.length<=20)(k:(yo s).length<=9)(db:Al (yo s)=true)(a:∀ob,Q (.tup [.dat i64 n,.dat i64<|if Bw s=true then AA 0 (yo s)else 1,.bl true]) ob):Ends Ns (L6 s (AW s) n 1) Q:=by
 obtain⟨j,h,i⟩:=BE s;refine zn (Lr ..) ?_;conv=>zeta
 have es:AW s=((AB s).length:Int):=rfl;have g:=(T61.Ez s).1;cases b:Bw s with
 |true=>
  rw[b]at a;obtain⟨d,c⟩:=h b;have e3:zc .i64 (AW s+1)=(((AB s).length+1:Nat):Int):=by rw[es,wr _ ae ae];omega
  have f:(yo s).length=s.length-((AB s).length+1):=by rw[c,yc]
  have e:(yo s).take (yp s.length<|(AB s).length+1)=yo s:=zz (by show _<=s.length-_;omega);rw[e3,zl, <-c,e];exact zd (by simp[es];omega) (zd (by simp;omega)<|zd (T124.BY db ae)<|Hb n _ a)
 |false=>
  obtain⟨d,c⟩:=i b;rw[b]at a;exact zo (by simp[es,d])<|Hb n 1 a
theorem BR[Srt](s:Rd)(g:s.length<=20)(h:(AB s).length<=9)(f:(yo s).length<=9)(b:Al (AB s)=true)(db:Al (yo s)=true)(e:∀n ob,n=AA 0 (AB s)->Q (.tup [.dat i64 n,.dat i64<|if Bw s=true then AA 0 (yo s)else 1,.bl true]) ob):Ends Ns (L4 s ) Q:=by
 obtain⟨k,m,i⟩:=BE s;have es:AW s=((AB s).length:Int):=rfl;have l:=(T61.Ez s).1;have a:s.length-(AB s).length<=10:=by
  cases c:Bw s with
  |true=>
   obtain⟨o,d⟩:=m c;have:(yo s).length=s.length-((AB s).length+1):=by rw[d,yc]
   omega
  |false=>rw[(i c).1];omega
 have j:jk (Int.toNat<|AW s) s=AB s:=by rw[es,zl];exact k.symm
 obtain⟨v0,v1⟩:=T124.Cs b h;refine zn (CA ..) ?_;conv=>zeta
 rw[j];refine zd (by simp;omega) (zo (by simp[es];omega)<|zo ?_<|zd (by simp[es];omega)<|zd (T124.BY b ae) ?_)
 ·rw[es,wr _ ae ae];exact w8 ae
 ·exact Jq s (AA 0<|AB s) g f db<|fun ob=>e _ ob rfl
end T73
end Go.Pe
namespace Go.Sp
theorem GM(a:List Int)(i:Nat):val B9 (a.drop i)=a.getD i 0+1000000000*val B9 (a.drop<|i+1):=by
 by_cases h:i<a.length
 ·rw[Cr h];rfl
 ·rw[z6 ae,z6 ae,show a.getD i 0=0 by rw[List.getD_eq_getElem?_getD,List.getElem?_eq_none ae];rfl];rfl
structure Fv(a b:List Int)(i:Nat)(o:List Int)(c:Int):Prop where
 len:o.length=i
 d:Av B9 o
 c01:0<=c/\c<=1
 v:val B9 o+(B9:Int)^i*(c+val B9 (a.drop i)+val B9 (b.drop i))=Ak a+Ak b
 top:a.length<=i->b.length<=i->i=0\/(B9:Int)^(i-1)<=val B9 o+(B9:Int)^i*c
theorem Fv.start(a b:List Int):Fv a b 0 [] 0:=⟨rfl,(fun x c=>by cases c),by decide,by
 show 0+(B9:Int)^0*(0+val B9 a+val B9 b)=val B9 a+val B9 b;rw[Int.pow_zero,qm];omega,fun _ _=>.inl rfl⟩
theorem Bu{a:List Int}(h:A1 a=true)(i:Nat):0<=a.getD i 0/\a.getD i 0<1000000000:=Gx (Bo h).2.1 i
theorem Sx{a:List Int}(h:A1 a=true){i:Nat}(b:i<a.length)(c:a.length<=i+1):1<=a.getD i 0:=by
 have:=(Go.Pe.F7 (Bo h).2.1 (Bo h).2.2 (k:=i) ae).1;omega
theorem Fv.step{a b:List Int}{i:Nat}{o:List Int}{c:Int}(h:Fv a b i o c)(n:A1 a=true)(l:A1 b=true)(g:i<a.length\/i<b.length\/0<c):
  Fv a b (i+1) (o++[(a.getD i 0+b.getD i 0+c) % 1000000000]) ((a.getD i 0+b.getD i 0+c)/1000000000):=by
 obtain⟨u,s⟩:=Bu n i;obtain⟨y0,y1⟩:=Bu l i;obtain⟨c0,c1⟩:=h.c01;have m:=h.v;rw[GM a i,GM b i]at m;have j:1<=a.getD i 0+b.getD i 0+c\/¬(a.length<=i+1/\b.length<=i+1):=by
  by_cases k:a.length<=i+1/\b.length<=i+1
  ·refine .inl ?_;rcases g with g|g|g
   ·have:=Sx n g k.1;omega
   ·have:=Sx l g k.2;omega
   ·omega
  ·exact .inr k
 have t:=Az (b:=B9) af h.d;have r:=Bc (b:=B9) af i;generalize a.getD i 0=x at*;generalize b.getD i 0=y at*;have f:val B9 (o++[(x+y+c) % 1000000000])=val B9 o+(B9:Int)^i*((x+y+c) % 1000000000):=by rw[Ca,h.len]
 refine⟨by rw[yi,h.len];rfl,Fb h.d ae,by omega,?_,fun q p=>.inr ?_⟩
 ·rw[f,KZ,jf, <-jc, <-m];congr 2;omega
 ·rw[f,KZ,jf, <-jc,qh];have e:(x+y+c) % 1000000000+1000000000*((x+y+c)/1000000000)=x+y+c:=ae
  rw[e];rcases j with j|j
  ·have:=yf j<|yq r;rw[Int.mul_one]at this;omega
  ·exact wh ⟨q,p⟩ j
theorem Aa2{o:List Int}(f:Av B9 o)(h:o=[]\/(B9:Int)^(o.length-1)<=val B9 o):nz o:=by
 rcases h with rfl|h
 ·unfold nz;simp
 ·intro e;have c:o≠[]:=by rintro rfl;simp at e
  have e2:o=o.dropLast++[0]:=by
   have d:=(List.dropLast_concat_getLast c).symm;rw[List.getLast?_eq_some_getLast c]at e;rw[Option.some.inj e]at d;exact d
  have i:o.length=o.dropLast.length+1:=by rw[List.length_dropLast];have:=List.length_pos_iff.2 c;omega
  have j:val B9 o=val B9 o.dropLast:=by
   conv=>lhs;rw[e2]
   rw[Ca,qt,qu]
  have a:Av B9 o.dropLast:=fun x g=>f x (by rw[e2];exact List.mem_append_left _ g)
  have:=Br (b:=B9) af a;rw[j,i,qh]at h;omega
theorem Fv.fin{a b:List Int}{i:Nat}{o:List Int}(h:Fv a b i o 0)(g:a.length<=i)(e:b.length<=i):o=Hr a b:=by
 have c:=h.v;rw[z6 g,z6 e]at c;have c:val B9 o+(B9:Int)^i*(0+0+0)=Ak a+Ak b:=c;rw[show(0+0+0:Int)=0 from rfl,qt,qu]at c;have f:=h.top g e;rw[qt,qu, <-h.len]at f;have j:nz o:=Aa2 h.d (by
  rcases f with k|k
  ·exact .inl<|qp.1 k
  ·exact .inr k)
 unfold Hr;rw[<-c];exact JJ (b:=B9) af h.d j
structure Gs(a b:List Int)(i:Nat)(o:List Int)(c:Int):Prop where
 len:o.length=i
 d:Av B9 o
 c01:0<=c/\c<=1
 v:val B9 o+(B9:Int)^i*(val B9 (a.drop i)-val B9 (b.drop i)-c)=Ak a-Ak b
theorem Gs.start(a b:List Int):Gs a b 0 [] 0:=⟨rfl,(fun x c=>by cases c),by decide,by
 show 0+(B9:Int)^0*(val B9 a-val B9 b-0)=val B9 a-val B9 b;rw[Int.pow_zero,qm];omega⟩
theorem Gs.step{a b:List Int}{i:Nat}{o:List Int}{c:Int}(h:Gs a b i o c)(g:A1 a=true)(j:A1 b=true)(d e:Int)(k:(a.getD i 0-b.getD i 0-c<0/\d=a.getD i 0-b.getD i 0-c+1000000000/\e=1)\/(¬a.getD i 0-b.getD i 0-c<0/\d=a.getD i 0-b.getD i 0-c/\e=0)):
  Gs a b (i+1) (o++[d]) e:=by
 obtain⟨m,l⟩:=Bu g i;obtain⟨y0,y1⟩:=Bu j i;obtain⟨c0,c1⟩:=h.c01;have f:=h.v;rw[GM a i,GM b i]at f;generalize a.getD i 0=x at*;generalize b.getD i 0=y at*;refine⟨by rw[yi,h.len];rfl,Fb h.d ae,by omega,?_⟩;rw[Ca,h.len,KZ,jf, <-jc, <-f];congr 2;omega
theorem Gs.fin{a b:List Int}{o:List Int}{c:Int}(h:Gs a b a.length o c)(l:A1 b=true)(g:Ak b<=Ak a):Aw o=IQ a b:=by
 have e:=h.v;rw[List.drop_length]at e;have h0:=Az (b:=B9) af<|Es (Bo l).2.1 a.length;have f:=Br (b:=B9) af h.d;rw[h.len]at f;obtain⟨n,m⟩:=h.c01;have i:=Bc (b:=B9) af a.length;have e:val B9 o+(B9:Int)^a.length*(0-val B9 (b.drop a.length)-c)=Ak a-Ak b:=e;generalize val B9 (b.drop a.length)=z at*;have j:0-z-c=0:=by
  rcases Int.lt_or_le (0-z-c) 0 with k|k
  ·have:=yf (show 0-z-c<= -1 by omega)<|yq i;rw[qn,Int.mul_one]at this;omega
  ·omega
 rw[j,qt,qu]at e;unfold IQ;rw[EI h.d, <-e];rfl
open Go.Lib
theorem Vq(n:Int):rN n=decide (n<0):=rfl
theorem IV(a:Bool×List Int):(a.1=true->vR a= -Ak a.2)/\(a.1=false->vR a=Ak a.2):=by
 unfold vR;exact⟨fun h=>by rw[wd h],fun h=>by rw[wc<|by rw[h];decide]⟩
theorem Kg{neg:Bool}{w:List Int}{n:Int}(c:Av B9 w)(h0:0<=Ak w)(b:neg=true->n= -Ak w)(a:neg=false->n=Ak w):(Cy neg w,Aw w)=(rN n,rW n):=by
 refine lN c ?_<|fun d=>?_
 ·rw[Ai];cases neg with
  |true=>have:=b rfl;omega
  |false=>have:=a rfl;omega
 ·rw[Vq];cases neg with
  |true=>have:=b rfl;symm;rw[w5];omega
  |false=>have:=a rfl;symm;rw[w9];omega
theorem D3{n:Int}(h:0<=n):Ak (BA n)=n/\Av B9 (BA n):=⟨C3 (b:=B9) af h,HM (b:=B9) af n⟩
theorem Z7{a b:Bool×List Int}(c:Cj a=true)(d:Cj b=true)(h:a.1=b.1):(Cy a.1<|Hr a.2 b.2,Aw<|Hr a.2 b.2)=(ML a b,MF a b):=by
 have a0:=(Eu c).2;have e:=(Eu d).2;obtain⟨e1,e2⟩:=IV a;obtain⟨f1,f2⟩:=IV b;obtain⟨hv,hd⟩:=D3 (n:=Ak a.2+Ak b.2) ae;refine Kg hd (by show 0<=Ak (BA _);omega) (fun k=>?_)<|fun k=>?_
 ·rw[e1 k,f1<|by rw[<-h];exact k];show _= -Ak (BA _);omega
 ·rw[e2 k,f2<|by rw[<-h];exact k];show _=Ak (BA _);omega
theorem YF{a b:Bool×List Int}(c:Cj b=true)(h:a.1≠b.1)(d:Ak b.2<=Ak a.2):(Cy a.1<|IQ a.2 b.2,Aw<|IQ a.2 b.2)=(ML a b,MF a b):=by
 have e:=(Eu c).2;obtain⟨e1,e2⟩:=IV a;obtain⟨f1,f2⟩:=IV b;obtain⟨hv,hd⟩:=D3 (n:=Ak a.2-Ak b.2) ae;refine Kg hd (by show 0<=Ak (BA _);omega) (fun k=>?_)<|fun k=>?_
 ·rw[e1 k,f2 (by rw[k]at h;cases c:b.1 with|true=>exact wh c.symm h|false=>rfl)];show _= -Ak (BA _);omega
 ·rw[e2 k,f1 (by rw[k]at h;cases c:b.1 with|true=>rfl|false=>exact wh c.symm h)];show _=Ak (BA _);omega
theorem rJ{a b:Bool×List Int}(c:Cj a=true)(h:a.1≠b.1)(d:Ak a.2<=Ak b.2):(Cy b.1<|IQ b.2 a.2,Aw<|IQ b.2 a.2)=(ML a b,MF a b):=by
 have:=YF c (fun k=>h k.symm) d;rw[this];unfold ML MF;rw[Int.add_comm]
theorem cZ{a b:Bool×List Int}(e:Cj a=true)(f:Cj b=true):(Cy (a.1 !=b.1)<|BA<|Ak a.2*Ak b.2,Aw<|BA<|Ak a.2*Ak b.2)=(Hj a b,HI a b):=by
 have a0:=(Eu e).2;have g:=(Eu f).2;obtain⟨e1,e2⟩:=IV a;obtain⟨f1,f2⟩:=IV b;have p0:=je a0 g;obtain⟨hv,hd⟩:=D3 p0;refine Kg hd ae (fun k=>?_)<|fun k=>?_
 ·rw[hv];cases d:a.1<;>cases c:b.1<;>rw[d,c]at k
  ·exact wh k af
  ·rw[e2 d,f1 c,qn]
  ·rw[e1 d,f2 c,Int.neg_mul]
  ·exact wh k af
 ·rw[hv];cases d:a.1<;>cases c:b.1<;>rw[d,c]at k
  ·rw[e2 d,f2 c]
  ·exact wh k af
  ·exact wh k af
  ·rw[e1 d,f1 c,Int.neg_mul,qn,Int.neg_neg]
theorem bD{a:Bool×List Int}(b:Cj a=true):(Cy (!a.1) a.2,Aw a.2)=(SF a,RZ a):=by
 have a0:=(Eu b).2;obtain⟨e1,e2⟩:=IV a;refine Kg (Bo (CU b).1).2.1 a0 (fun k=>?_)<|fun k=>?_
 ·rw[e2<|by simpa using k]
 ·rw[e1 (by simpa using k),Int.neg_neg]
theorem Lv{b:Bool×List Int}(c:Cj b=true)(h0:0<vR b):b.1=false/\vR b=Ak b.2:=by
 have e:=(Eu c).2;obtain⟨a,d⟩:=IV b;cases h:b.1 with
 |true=>have:=a h;omega
 |false=>exact⟨rfl,d h⟩
theorem fA{A b:Int}(c:0<b)(d:A % b≠0): -A/b= -(A/b+1):=by
 have g:=Int.mul_ediv_add_emod A b;have e:=Int.emod_nonneg A (show b≠0 by omega);have f:=Int.emod_lt_of_pos A c;refine((Int.ediv_emod_unique (a:= -A) (b:=b) (r:=b-A % b) (q:= -(A/b+1)) c).2 ⟨?_,by omega,by omega⟩).1;rw[qn,jc,Int.mul_one];omega
theorem Wh{A b:Int}(c:0<b)(d:A % b=0): -A/b= -(A/b):=by
 have e:=Int.mul_ediv_add_emod A b;refine((Int.ediv_emod_unique (a:= -A) (b:=b) (r:=0) (q:= -(A/b)) c).2 ⟨?_,by omega,c⟩).1;rw[qn];omega
theorem PE{a b:Bool×List Int}(c:Cj a=true)(e:Cj b=true)(h0:0<vR b)(h:a.1=false\/Ak a.2 % Ak b.2=0):(Cy a.1<|BA<|Ak a.2/Ak b.2,Aw<|BA<|Ak a.2/Ak b.2)=(IE a b,IX a b):=by
 have a0:=(Eu c).2;obtain⟨e1,e2⟩:=IV a;obtain⟨_,f⟩:=Lv e h0;rw[f]at h0;have d:=qw a0<|yq h0;obtain⟨hv,hd⟩:=D3 d;refine Kg hd ae (fun k=>?_)<|fun k=>?_
 ·rw[hv,e1 k,f];rcases h with h|h
  ·rw[k]at h;cases h
  ·exact Wh h0 h
 ·rw[hv,e2 k,f]
theorem WK{a b:Bool×List Int}(c:Cj a=true)(j:Cj b=true)(h0:0<vR b)(h:a.1=true)(i:Ak a.2 % Ak b.2≠0):(Cy a.1<|Hr (BA<|Ak a.2/Ak b.2) [1],Aw<|Hr (BA<|Ak a.2/Ak b.2) [1])=(IE a b,IX a b):=by
 have a0:=(Eu c).2;obtain⟨e1,e2⟩:=IV a;obtain⟨_,f⟩:=Lv j h0;rw[f]at h0;have g:=qw a0<|yq h0;have e:Hr (BA<|Ak a.2/Ak b.2) [1]=BA (Ak a.2/Ak b.2+1):=by
  unfold Hr;rw[(D3 g).1];rfl
 rw[e];obtain⟨l,d⟩:=D3 (n:=Ak a.2/Ak b.2+1) ae;refine Kg d ae (fun k=>?_)<|fun k=>?_
 ·rw[l,e1 k,f];exact fA h0 i
 ·rw[h]at k;cases k
theorem rC{w:List Int}{i:Nat}(a:w.length=i+1):val B9 (w.drop i)=w.getD i 0:=by
 rw[GM,z6 ae];show _+1000000000*0=_;omega
theorem VC{w:List Int}(a:A1 w=true){i:Nat}(b:w.length=i+1):Ij (w.getD i 0) 1=decDigits (val B9<|w.drop i).toNat/\0<val B9 (w.drop i):=by
 have g:=Bu a i;have t:=Sx a (i:=i) ae ae;rw[rC b];exact⟨NO g.1 ae,by omega⟩
theorem aJ{w:List Int}(a:A1 w=true)(i:Nat)(h0:0<val B9 (w.drop<|i+1)):decDigits (val B9<|w.drop<|i+1).toNat++Ij (w.getD i 0) 9=decDigits (val B9<|w.drop i).toNat/\0<val B9 (w.drop i):=by
 have g:=Bu a i;rw[GM w i,Z5 g.1 g.2];generalize val B9 (w.drop<|i+1)=V at*;generalize w.getD i 0=x at*;have h:=Xk 9 V.toNat x.toNat af ae ae;refine⟨?_,by omega⟩;rw[<-h];congr 1;omega
theorem gV{a:Bool×List Int}(d:Cj a=true)(c:a.2≠[]):(if a.1=true then 45::decDigits (Ak a.2).toNat else decDigits (Ak a.2).toNat)=F6 a:=by
 obtain⟨e1,e2⟩:=IV a;have h0:0<Ak a.2:=Je (b:=B9) af (Bo (CU d).1).2.1 (Bo (CU d).1).2.2 c;unfold F6 Cf itoa;by_cases h:a.1=true
 ·rw[wd h,e1 h,wd ae,show(-Ak a.2).natAbs=(Ak a.2).toNat by omega]
 ·have h:a.1=false:=by simpa using h
  rw[wc (by rw[h];decide),e2 h,wc ae]
theorem eL{a:Bool×List Int}(h:a.2=[]):[48]=F6 a:=by
 have:vR a=0:=by
  unfold vR;rw[h];split<;>rfl
 unfold F6 Cf itoa;rw[this,wc af,show(0:Int).toNat=0 from rfl,decDigits_one af];rfl
theorem Kc{N D:Int}(b:0<D):0<gI (Ag N) D/\Ag N/gI (Ag N) D=Ag (zj N D).num/\D/gI (Ag N) D=((zj N D).den:Int)/\(N<0↔(zj N D).num<0):=by
 have e:D.sign=1:=Int.sign_eq_one_of_pos b;have e1:(zj N D).num=N/(yw N D:Int):=by rw[qf,e,qm,jj]
 have e2:((zj N D).den:Int)=D/(yw N D:Int):=by
  rw[qy,wc<|Int.ne_of_gt b,jj,Int.natCast_ediv];rw[Int.natAbs_of_nonneg<|yq b]
 have i:gI (Ag N) D=(yw N D:Int):=by rw[FN,Ai];rfl
 have a:0<yw N D:=Int.gcd_pos_of_ne_zero_right _ ae;obtain⟨k,c⟩:(yw N D:Int)∣N:=Int.gcd_dvd_left ..;rw[i,e1,e2];have a:(0:Int)<(yw N D:Int):=ae
 generalize (yw N D:Int)=g at*;have d:N/g=k:=by rw[c,qo _ ae]
 have f:Ag N/g=Ag k:=by
  rw[Ai,Ai,c,zx,Int.natCast_mul,show((g.natAbs:Nat):Int)=g by omega,qo _ ae]
 refine⟨a,by rw[d,f],rfl,?_⟩;rw[d];constructor
 ·intro h;rcases Int.lt_or_le k 0 with x|x
  ·exact x
  ·have:=je (yq a) x;omega
 ·intro h;have:=Int.mul_neg_of_pos_of_neg a h;omega
theorem kT{N D:Int}(a:0<D){neg:Bool}(c:neg=rN N):(Cy neg<|BA<|Ag N/gI (Ag N) D,Aw<|BA<|Ag N/gI (Ag N) D)=(rN (zj N D).num,rW (zj N D).num):=by
 obtain⟨_,d,_,b⟩:=Kc (N:=N) a;rw[d];have a0:=NF (zj N D).num;obtain⟨hv,hd⟩:=D3 a0;refine lN hd hv<|fun _=>?_;rw[c,Vq,Vq,decide_eq_decide];exact b
theorem mG{n:Int}(h0:0<=n):BA n=[1]↔n=1:=by
 constructor
 ·intro h;have:=(D3 h0).1;rw[h]at this;exact this.symm
 ·rintro rfl;rfl
theorem Qq{N D:Int}:Cv N D=if (zj N D).den=1 then Cf (zj N D).num else Cf (zj N D).num++47::Cf ((zj N D).den:Int):=by
 unfold Cv AT;split
 ·rfl
 ·rw[show Cf ((zj N D).den:Int)=decDigits (zj N D).den from Lib.itoa_nonneg _];rfl
theorem TM(N D:Int):Cv (-N) (-D)=Cv N D:=by
 unfold Cv;rw[Rat.neg_divInt_neg]
theorem OC{s:Rd}(h:A4 s=true):Bf s=IG s/\AS s=SK s/\Al (AB<|A6 s)=true/\Al (AR<|A6 s)=true:=by
 obtain⟨t,_⟩:=Gr h;obtain⟨c1,c2,c3⟩:=D1<|AJ s;obtain⟨p1,p2,p3,p4⟩:=RF s;obtain⟨i1,i2,i3,i4⟩:=C9 (AJ s).num;rw[t]at c1 c2 c3;have b:Al (AR s)=true:=by
  rw[c2];split
  ·rfl
  ·exact CQ _
 refine⟨?_,?_,?_,?_⟩
 ·unfold Bf IG Bg;rw[p1, <-p4];unfold A6 preB;by_cases a:(AB s).getD 0 0=45
  ·rw[wd a,wd a,wd<|w4 a]
  ·rw[wc a,wc a,wc<|by rw[w8 a];decide]
 ·unfold AS SK Bg;rw[p2,p3,wc<|Ew b]
 ·rw[p1,c1,i2];exact CQ _
 ·rw[p2];exact b
theorem F8{s:Rd}(h:A4 s=true)(a:D4 s=true):fD s=Bf s/\Uo s=AS s/\ -1000000000<Bf s/\Bf s<1000000000/\0<AS s/\AS s<1000000000:=by
 obtain⟨b,c,e,f⟩:=OC h;have d:0<AS s:=by
  have:=(D8 h).2.2.2.2.2.1;have:=(AJ s).den_pos;omega
 unfold fD Uo;rw[wd a,wd a];unfold D4 at a;rw[ze,ze,w5,w5,w5]at a;obtain⟨⟨_,l1⟩,l2⟩:=a;have k:=Bd e;have g:=Bd f;have i:(10:Int)^(AB<|A6 s).length<=10^9:=AP af l1;have j:(10:Int)^(AR<|A6 s).length<=10^9:=AP af l2;refine⟨b.symm,c.symm,?_,?_,d,?_⟩
 ·rw[b];unfold IG;split<;>omega
 ·rw[b];unfold IG;split<;>omega
 ·rw[c];unfold SK;split<;>omega
theorem Zk{a b:Rd}(c:A4 a=true)(f:A4 b=true):Ci a b=Cv (Bf a*AS b+AS a*Bf b) (AS a*AS b)/\Ci a b=Cv (Bf a*AS b+Bf b*AS a) (AS a*AS b):=by
 have g:AS a≠0:=by
  have:=(D8 c).2.2.2.2.2.1;have:=(AJ a).den_pos;omega
 have d:AS b≠0:=by
  have:=(D8 f).2.2.2.2.2.1;have:=(AJ b).den_pos;omega
 have e:Ci a b=Cv (Bf a*AS b+Bf b*AS a) (AS a*AS b):=by
  unfold Ci Cv AJ;rw[Rat.divInt_add_divInt _ _ g d]
 exact⟨by rw[e,Int.mul_comm (AS a)<|Bf b],e⟩
theorem Zg{a b:Rd}:It a b=Cv (Bf a*Bf b) (AS a*AS b):=by
 unfold It Cv AJ;rw[Rat.divInt_mul_divInt]
theorem aF{a:Rd}:RG a=Cv (AS a) (Bf a):=by
 unfold RG Cv AJ;rw[Rat.inv_divInt]
theorem Ue:∀(f n l:Nat) (a:Rd),(Hx f n l a).length<=a.length+f
 |0,_,_,a=>yn _
 |f+1,n,l,a=>by
  unfold Hx;split
  ·omega
  ·have:=Ue f (n/10) l (yu (48+n % 10)::a);grind
theorem UI(n l:Int):(Ij n l).length<=64:=by
 have:=Ue 64 n.toNat l.toNat [];exact this
theorem S8{v:Int}{k:Nat}(h:v<(B9:Int)^k)(a:1<=k):(zg v.toNat).length<=9*k:=by
 rw[Wo]at h;refine Er (k:=9*k) ?_ ae;grind
end Go.Sp
namespace Go.Pe
open Sp
open Go.Det
theorem xA{s:Sh}(b:s.sz=1){id n:Nat}{tail:Ob}{fz:Bool}{t:TypeId}{o:List s.T}(c:n=o.length):GL ⟨0,.leaf,(id,.arr fz t s o)::tail,0⟩ (.list s) (.sl id 1 0 n none)=some (true,o):=by
 have a:AN ((id,Obj.arr fz t s o)::tail) id=some (.arr fz t s o):=by grind [AN,Nat.beq_refl]
 unfold GL;simp_all [Ds,PV.cells,Cd,AG.obj,M9,Sh.Nf,Dg,Ck,qC,El]
theorem Yk{s:Sh}(a:s.sz=1){id n:Nat}{tail:Ob}{fz:Bool}{t:TypeId}{o:List s.T}(b:n=o.length):JL [.list s] (.sl id 1 0 n none) ((id,.arr fz t s o)::tail)=some (true,o):=xA a b
theorem NC(a:List Int)(i:Nat):H2 a (i:Int)=a.getD i 0:=by rfl
theorem pC[Srt]:Dn XR0:=fun g sp h=>by cases h
theorem T190.ok[Srt]:Af Bb 190 VX:=by
 refine BL pC<|fun(i:List Int×Int) hi=>?_;obtain⟨a,i⟩:=i;have h0:0<=i:=w6 hi;have b:∀v ob,v=H2 a i->Ac VX (a,i) (.dat i64 v) ob:=fun v ob h=>zy rfl rfl h
 refine zp (T190.Aj a i) (zi (fun c=>zd ah<|zf<|b _ _ rfl)<|fun c=>zf<|b _ _ ?_);grind [H2]
theorem XL[Srt]:Dn U4:=Aa T190.ok<|Aa T188.ok AO
theorem Q6{x y c:Int}(d:0<=x/\x<1000000000)(b:0<=y/\y<1000000000)(a:0<=c/\c<=1):
  zc .i64 (zc .i64 (x+y)+c)=x+y+c/\yb (x+y+c) 1000000000=(x+y+c) % 1000000000/\zc .i64 (ym (x+y+c) 1000000000)=(x+y+c)/1000000000:=by
 grind [wr]
theorem lS{a b:List Int}(h:jC a b=true):A1 a=true/\A1 b=true/\a.length<=9000/\b.length<=9000:=by
 simp_all [jC]
theorem Vd{a b:List Int}(e:A1 a=true)(f:A1 b=true)(c:a.length<=9000)(d:b.length<=9000):jC a b=true:=by
 grind [jC]
namespace T129
theorem done[Srt](a b o:List Int)(i:Nat)(c:a.length<=i)(d:b.length<=i)(e:Q (.sl 0 1 0 o.length none) [(0,.arr false 3 (.int .i64) o)]):Ends U4 (L2 a b o.length 0 i o) Q:=
 (by simp_all [zn,AU,w8])
set_option maxHeartbeats 1000000 in
theorem A8[Srt](a b:List Int)(e:A1 a=true)(d:A1 b=true)(t:a.length<=9000)(r:b.length<=9000)(q:Q (.sl 0 1 0 (Hr a b).length none) [(0,.arr false 3 (.int .i64)<|Hr a b)]):∀(k i:Nat) (o:List Int) (c:Int),i+k=max a.length b.length->Fv a b i o c->Ends U4 (L2 a b o.length c i o) Q:=by
 have g:∀(i:Nat) (o:List Int),a.length<=i->b.length<=i->Fv a b i o 0->Ends U4 (L2 a b o.length 0 i o) Q:=fun i o n j h=>by
  have:=h.fin n j;grind [done]
 have next:∀(i:Nat) (o:List Int) (c:Int),i<=9000->Fv a b i o c->(i<a.length\/i<b.length\/0<c->Ends U4 (L2 a b (o++[(a.getD i 0+b.getD i 0+c) % 1000000000]).length ((a.getD i 0+b.getD i 0+c)/1000000000) ((i+1:Nat):Int)<|o++[(a.getD i 0+b.getD i 0+c) % 1000000000]) Q)->Ends U4 (L2 a b o.length c i o) Q:=fun i o c l h go=>by
  obtain⟨s1,s2,s3⟩:=Q6 (Bu e i) (Bu d i) h.c01;have e1:zc .i64 ((i:Int)+1)=((i+1:Nat):Int):=by grind [wr]
  have s:=h.len;have cap:(decide ((1:Nat)<=(1:Nat))&&true&&decide (o.length=o.length)&&decide ((3*(o.length+1)+2000)*8<=562949953421312))=true:=by
   grind
  have h0:decide ((0:Int)<=(i:Int))=true:=(by rfl);rw[yi]at go;by_cases v:(i:Int)<(a.length:Int)
  ·refine zn (AU ..) ?_;conv=>zeta
   simp_all [NC]
  ·by_cases x:(i:Int)<(b.length:Int)
   ·refine zn (AU ..) ?_;conv=>zeta
    simp_all [NC]
   ·by_cases u:c>0
    ·refine zn (AU ..) ?_;conv=>zeta
     simp_all [NC]
    ·obtain rfl:c=0:=by have:=h.c01;omega
     grind
 intro k;induction k with
 |zero=>
  intro i o c l h;refine next i o c ae h (fun f=>?_);have j:=h.step e d f;have w:a.getD i 0=0:=ah
  have z2:b.getD i 0=0:=ah
  have m:=h.c01;have z3:(a.getD i 0+b.getD i 0+c)/1000000000=0:=ae
  grind
 |succ k p=>
  intro i o c l h;exact next i o c ae h (fun f=>p (i+1) _ _ ae<|h.step e d f)
set_option maxHeartbeats 1000000 in
theorem ok[Srt]:Af Bb 129 VK:=by
 refine BL XL<|fun(i:List Int×List Int) hi=>?_;obtain⟨a,b⟩:=i;obtain⟨ha,hb,la,lb⟩:=lS hi;obtain⟨s1,s2,s3⟩:=Q6 (Bu ha 0) (Bu hb 0) (c:=0) af;have h0:=Fv.start a b;have go:(0<a.length\/0<b.length)->Ends U4 (L2 a b 1 ((a.getD 0 0+b.getD 0 0+0)/1000000000) ((1:Nat):Int) [(a.getD 0 0+b.getD 0 0+0) % 1000000000]) (Ac VK (a,b)):=fun g=>
  A8 a b ha hb la lb (zy (Yk rfl rfl) rfl rfl) (max a.length b.length-1) 1 _ _ ae (h0.step ha hb ae)
 refine zp (Aj a b)<|zn (Am ..) ?_;have h:H2 a 0=a.getD 0 0:=rfl;have f:H2 b 0=b.getD 0 0:=rfl;have e1:zc .i64 ((0:Int)+1)=((1:Nat):Int):=rfl;refine zi (fun c=>?_)<|fun d=>zi (fun c=>?_)<|fun e=>zo rfl (zf<|zy (y:=[]) rfl rfl ?_)
 ·exact zd rfl (zd rfl (zd rfl (zd rfl (zd rfl ah))))
 ·exact zd rfl (zd rfl (zd rfl (zd rfl (zd rfl ah))))
 ·have d:=w7 d;have e:=w7 e;exact h0.fin ae ae
end T129
namespace T131
theorem GF{x y c:Int}(d:0<=x/\x<1000000000)(b:0<=y/\y<1000000000)(a:0<=c/\c<=1):
  zc .i64 (zc .i64 (x-y)-c)=x-y-c/\zc .i64 (x-y-c+1000000000)=x-y-c+1000000000:=by
 grind [wr]
set_option maxHeartbeats 1000000 in
theorem A8[Srt](a b:List Int)(g:A1 a=true)(f:A1 b=true)(m:a.length<=9000)(e:Ak b<=Ak a)(l:∀ob,Q (.dat li<|IQ a b) ob):∀(k i:Nat) (o:List Int) (c:Int),i+k=a.length->Gs a b i o c->Ends U4 (L2 a b o.length c i o) Q
 |0,i,o,c,j,h=>by
  have j:i=a.length:=ae
  subst j;have n:=h.len;refine zn (AU ..) (zo (by simp) ?_);rw[zz ae];refine zd ah<|zf ?_;rw[h.fin f e];grind
 |k+1,i,o,c,j,h=>by
  obtain⟨s1,s2⟩:=GF (Bu g i) (Bu f i) h.c01;have e1:zc .i64 ((i:Int)+1)=((i+1:Nat):Int):=by grind [wr]
  have n:=h.len;have cap:(decide ((1:Nat)<=(1:Nat))&&true&&decide (o.length=o.length)&&decide ((3*(o.length+1)+2000)*8<=562949953421312))=true:=by
   grind
  refine zn (AU ..) ?_;conv=>zeta
  rw[NC,zl,s1,s2,e1];refine zd ah (zd ah<|zd (by rfl)<|zi (fun d=>zd cap ?_)<|fun d=>zd cap ?_)
  ·have:=A8 a b g f m e l k (i+1) _ _ ae (h.step g f _ 1 (.inl ⟨ah,rfl,rfl⟩));grind
  ·have:=A8 a b g f m e l k (i+1) _ _ ae (h.step g f _ 0 (.inr ⟨ah,rfl,rfl⟩));grind
set_option maxHeartbeats 1000000 in
theorem ok[Srt]:Af Bb 131 WH:=by
 refine BL XL<|fun(i:List Int×List Int) e=>?_;obtain⟨a,b⟩:=i;have e:(jC a b&&decide (Ak b<=Ak a))=true:=e;rw[ze,w5]at e;obtain⟨e,hle⟩:=e;obtain⟨ha,hb,la,lb⟩:=lS e;have h0:=Gs.start a b;have f:∀ob,Ac WH (a,b) (.dat li<|IQ a b) ob:=fun ob=>zy rfl rfl rfl
 refine zp (Aj a b)<|zn (Am ..) ?_;obtain⟨s1,s2⟩:=GF (Bu ha 0) (Bu hb 0) (c:=0) af;have g:H2 b 0=b.getD 0 0:=rfl;refine zi (fun c=>?_)<|fun c=>?_
 ·have h:=w6 c;refine zd (Ad rfl c)<|zd rfl (zi (fun d=>zd rfl ?_)<|fun d=>zd rfl ?_)
  ·exact A8 a b ha hb la hle f (a.length-1) 1 _ _ ae (h0.step ha hb _ 1 ah)
  ·exact A8 a b ha hb la hle f (a.length-1) 1 _ _ ae (h0.step ha hb _ 0 ah)
 ·refine zd rfl (zf ?_);grind [Gs.fin]
end T131
theorem NI[Srt]:Dn XR2:=Aa T128.ok (by grind [Aa,T129.ok,T130.ok,T131.ok,T132.ok,T127.ok,Nc])
theorem HR{n:Int}{k:Nat}(h0:0<=n)(h:n<(yy:Int)^k):(BA n).length<=k:=Ny h0 h
theorem Ju{a:Bool×List Int}(h:Cj a=true):0<=Ak a.2/\Ak a.2<(yy:Int)^3000:=by
 obtain⟨c,d,_⟩:=CU h;refine⟨(Eu h).2,yj (Br (b:=yy) af (Bo c).2.1)<|AP af d⟩
theorem WR{x y:Int}{k:Nat}(a:x<(yy:Int)^k)(b:y<(yy:Int)^k):x+y<(yy:Int)^(k+1):=by
 grind
theorem T76.ok[Srt]:Af Bb 76 jB:=by
 refine BL NI<|fun(i:(Bool×List Int)×(Bool×List Int)) f=>?_;obtain⟨a,b⟩:=i;have f:(Cj a&&Cj b)=true:=f;rw[ze]at f;obtain⟨ha,hb⟩:=f;obtain⟨a1,a2,_⟩:=CU ha;obtain⟨b1,b2,_⟩:=CU hb;obtain⟨va,wa⟩:=Ju ha;obtain⟨vb,wb⟩:=Ju hb;have pl:=Vd a1 b1 ae ae;have h:=Vd b1 a1 ae ae;refine zp (T76.Aj a b)<|zi (fun c=>?_)<|fun c=>zd (Ad a1 b1)<|zi (fun d=>?_)<|fun d=>?_
 ·have g:(Hr a.2 b.2).length<=3001:=HR ae ah;exact zd pl (zd ah<|zf<|zy rfl rfl (Z7 ha hb ah))
 ·have e:Ak b.2<=Ak a.2:=by
   grind [Cb]
  have g:(IQ a.2 b.2).length<=3000:=HR ae ae;exact zd ah (zd ah<|zf<|zy rfl rfl (YF hb ah e))
 ·have e:Ak a.2<=Ak b.2:=by
   grind [Cb]
  have g:(IQ b.2 a.2).length<=3000:=HR ae ae;exact zd ah (zd ah<|zf (zy rfl rfl (rJ ha ah e)))
theorem T77.ok[Srt]:Af Bb 77 Yy:=by
 refine BL NI<|fun(i:(Bool×List Int)×(Bool×List Int)) c=>?_;obtain⟨a,b⟩:=i;have c:(Cj a&&Cj b)=true:=c;rw[ze]at c;obtain⟨ha,hb⟩:=c;obtain⟨a1,a2,_⟩:=CU ha;obtain⟨b1,b2,_⟩:=CU hb;obtain⟨va,wa⟩:=Ju ha;obtain⟨vb,wb⟩:=Ju hb;have e:Ak a.2*Ak b.2<(yy:Int)^(3000+3000):=by
  rw[Int.pow_add];have d:(0:Int)<(yy:Int)^3000:=ae;exact yt (yf ae va)<|Int.mul_lt_mul_of_pos_right wa d
 have f:=HR (je va vb) e;exact zp (T77.Aj a b) (zd (by grind [Yr,Bo]) (zd ah<|zf<|zy rfl rfl (cZ ha hb)))
theorem T126.ok[Srt]:Af Bb 126 XS:=by
 refine BL NI<|fun(a:Bool×List Int) ha=>?_;have:=(CU ha).2.1;exact zp (T126.Aj a) (zd ah<|zf<|zy rfl rfl (bD ha))
theorem T185.ok[Srt]:Af Bb 185 XN:=by
 refine BL NI<|fun(i:(Bool×List Int)×(Bool×List Int)) f=>?_;obtain⟨a,b⟩:=i;have f:(Cj a&&Cj b&&decide (0<Sp.vR b))=true:=f;rw[ze,ze,w5]at f;obtain⟨⟨ha,hb⟩,h0⟩:=f;obtain⟨a1,a2,_⟩:=CU ha;obtain⟨b1,b2,_⟩:=CU hb;obtain⟨va,wa⟩:=Ju ha;have o:=(Lv hb h0).2;have k:0<Ak b.2:=ae
 have e:=qw va<|yq k;have q1:Ak a.2/Ak b.2<(yy:Int)^3000:=yt (Int.ediv_le_self _ va) wa;have g:=Int.emod_nonneg (Ak a.2) (show Ak b.2≠0 by omega);have n:=HR e q1;have l:=(Fp e q1 af).1;have m:(BA<|Ak a.2 % Ak b.2).length=0↔Ak a.2 % Ak b.2=0:=by
  rw[qp];exact cE (b:=yy) af g
 refine zp (T185.Aj a b) (zd ah<|zi (fun c=>zi (fun d=>?_)<|fun d=>?_)<|fun c=>?_)
 ·have d:=w6 d;have h:Ak a.2 % Ak b.2≠0:=ae;have j:(Hr (BA<|Ak a.2/Ak b.2) [1]).length<=3001:=by
   refine HR ?_ ?_
   ·rw[(D3 e).1];show 0<=_+(1:Int);omega
   ·rw[(D3 e).1];exact WR q1 (yj (show(1:Int)<(yy:Int)^1 by decide) ah)
  exact zd (Vd l rfl ae af) (zd ah<|zf<|zy rfl rfl (WK ha hb h0 c h))
 ·have d:=w7 d;exact zd ah (zf<|zy rfl rfl (PE ha hb h0 ae))
 ·exact zd ah<|zf<|zy rfl rfl (PE ha hb h0<|.inl c)
theorem oE[Srt]:Dn XR3:=Aa T111.ok AO
namespace T108
theorem Aq[Srt](neg:Bool)(w:List Int)(d:A1 w=true)(f:w.length<=3000)(a:∀ob,Q (.dat .str (if neg=true then 45::zg (Ak w).toNat else zg (Ak w).toNat)) ob):∀(i:Nat),i<=w.length->0<Sp.val yy (w.drop i)->Ends XR3 (L1 (zg (Sp.val yy<|w.drop i).toNat) ((i:Int)-1) neg w) Q:=by
 have e:∀i,(zg (Sp.val yy<|w.drop i).toNat).length<=27000:=fun i=>by
  have h:=Br (b:=yy) af<|Es (Bo d).2.1 i;have j:(yy:Int)^(w.drop i).length<=(yy:Int)^3000:=AP af ah;exact S8 (k:=3000) ae af
 intro i;induction i with
 |zero=>
  intro _ _;refine zn (Am ..) (zo af<|zi (fun c=>zd ah<|zf ?_)<|fun c=>zf ?_)
  ·rw[wd c]at a;exact a _
  ·rw[wc ah]at a;exact a _
 |succ i l=>
  intro m h0;have g:=Bu d i;have e1:(((i+1:Nat):Int)-1)=(i:Int):=ae
  obtain⟨s1,s2⟩:=aJ d i h0;rw[e1];refine zn (Am ..) ?_;conv=>zeta
  rw[zl,s1,wr ((i:Int)-1) ae ae];exact zd (by rfl) (zd ah<|zd ah<|by grind [zd])
theorem ok[Srt]:Af Bb 108 S2:=by
 refine BL oE<|fun(a:Bool×List Int) ha=>?_;obtain⟨a1,a2,_⟩:=CU ha;refine zp (Aj a)<|zi (fun c=>zf<|zy rfl rfl (eL ?_))<|fun c=>?_
 ·simp_all
 ·have c:(a.2.length:Int)≠0:=ah
  obtain⟨i,b⟩:∃i,a.2.length=i+1:=⟨a.2.length-1,by omega⟩;have g:=Bu a1 i;obtain⟨s1,s2⟩:=VC a1 b;have e1:zc .i64 ((a.2.length:Int)-1)=(i:Int):=by grind [wr]
  have e2:zc .i64 ((a.2.length:Int)-2)=(i:Int)-1:=by grind [wr]
  rw[e1,e2,zl,s1];refine zd ah (zd ah<|Aq a.1 a.2 a1 a2 (fun ob=>zy rfl rfl ?_) i ae s2);exact gV ha ah
end T108
end Go.Pe
namespace Go.Sp
theorem dG{a k m:Nat}(h:a<10^k)(b:k<=m):a<10^m:=(by grind [yg,z8])
theorem jG{a b k:Nat}(c:a<10^k)(d:b<10^k):a+b<10^(k+1):=ae
theorem My{n:Int}{k:Nat}(h:n.natAbs<10^k)(a:k<=27000):Cj (rN n,rW n)=true:=(by grind [SV,dG])
theorem G2{m n:Int}(h:Cj (rN n,rW n)=true)(a:m.natAbs<=n.natAbs):Cj (rN m,rW m)=true:=by
 grind [wG,HV,SV]
theorem Ym{n:Int}(h:Cx n=true):Cj (rN n,rW n)=true:=by
 have h:=Go.Pe.Ff h;exact My (k:=20) ae af
theorem TO{n:Int}(h:Cj (rN n,rW n)=true):A1 (rW n)=true/\(rW n).length<=3000/\Ag n<(B9:Int)^3000:=by
 obtain⟨a,b,_⟩:=CU h;have:=(Go.Pe.Ju h).2;grind [LN]
theorem Ty{n:Int}(h:Cj (rN n,rW n)=true):(Cf n).length<=27001:=by
 have a:=(TO h).2.2;have b:=S8 a af;grind [Ai,Cf,zt]
theorem Kp(n:Int):F6 (rN n,rW n)=Cf n:=by unfold F6;rw[HV]
theorem Va{N D:Int}(a:0<D):ym N (gI (Ag N) D)=(zj N D).num/\ym D (gI (Ag N) D)=((zj N D).den:Int):=by
 have b:D.sign=1:=ah;have d:gI (Ag N) D=(yw N D:Int):=by rw[FN,Ai];rfl
 have e:(yw N D:Int)∣N:=Int.gcd_dvd_left ..;have c:(yw N D:Int)∣D:=Int.gcd_dvd_right ..;rw[d,qq e,qq c];refine⟨?_,(Kc (N:=N) a).2.2.1▸?_⟩
 ·rw[qf,b,qm,jj]
 grind
theorem Qo(x y:Int):Hj (rN x,rW x) (rN y,rW y)=rN (x*y):=by grind [Hj,HV]
theorem Qw(x y:Int):HI (rN x,rW x) (rN y,rW y)=rW (x*y):=by grind [HI,HV]
theorem bG(x y:Int):ML (rN x,rW x) (rN y,rW y)=rN (x+y):=by grind [ML,HV]
theorem iR(x y:Int):MF (rN x,rW x) (rN y,rW y)=rW (x+y):=by grind [MF,HV]
theorem N0(x y:Int):Ik (rN x,rW x) (rN y,rW y)=Cv x y:=by grind [Ik,HV]
theorem Tu{a b:Nat}(h:a<=b):(zg a).length<=(zg b).length:=by
 have d:=Lib.lt_pow_nDigits b;have c:1<=(zg b).length:=(by grind [Rn]);rw[<-yx]at d;exact Er ae c
theorem neg_num(x:Rat):(x.num<0↔x<0)/\(x.num>0↔0<x):=by
 simp_all [Rat.lt_iff]
theorem lI(p q:Rat):UT (p-q).num=if p<q then -1 else if q<p then 1 else 0:=by
 grind [neg_num,UT]
end Go.Sp
namespace Go.Pe
open Sp
open Go.Det
theorem qI[Srt]:Dn lT:=Aa T126.ok (by grind [Aa,T106.ok,T127.ok,T128.ok,T108.ok,Nc])
namespace T75
theorem CY[Srt](n d:Int)(b:Cj (zw n,zr n)=true)(a:Cj (zw d,zr d)=true)(c:0<=d)(g:∀ob,Q (.dat .str (Cf n++47::Cf d)) ob):Ends lT (L3 (BA d)<|Cf n) Q:=by
 have l1:=Ty b;have l2:=Ty a;have e:zr d=BA d:=by grind [zr,Ai]
 have l3:=(TO a).2.1;obtain⟨i,f⟩:=D3 c;have h:(Cy false<|BA d,Aw<|BA d)=(zw d,zr d):=(by grind [Kg]);refine zn (BH ..) ?_;conv=>zeta
 grind [Kp,zd,zf]
theorem A8[Srt](n d:Int)(g:Cj (zw n,zr n)=true)(i:Cj (zw d,zr d)=true)(j:0<d)(f:d=1->∀ob,Q (.dat .str<|Cf n) ob)(b:d≠1->∀ob,Q (.dat .str (Cf n++47::Cf d)) ob):Ends lT (L2 (BA d)<|Cf n) Q:=by
 have l:=mG (n:=d) ae;by_cases h:d=1
 ·simp_all [zn,AU]
 ·have a:=CY n d g i ae<|b h;refine zn (AU ..)<|zi (fun c=>zd ?_<|zi (fun e=>?_)<|fun _=>a)<|fun _=>a
  ·grind
  ·cases k:BA d with
   |nil=>grind
   |cons x r=>
    grind
theorem Aq[Srt](N D:Int)(b:Cj (zw N,zr N)=true)(c:Cj (zw D,zr D)=true)(h0:0<D)(p:∀ob,Q (.dat .str<|Cv N D) ob):Ends lT (L1 (zw D) (zr D) (zw N)<|zr N) Q:=by
 obtain⟨n1,n2,o⟩:=TO b;obtain⟨d1,d2,d3⟩:=TO c;obtain⟨g0,f1,f2,f3⟩:=Kc (N:=N) h0;have f:Ag D=D:=by grind [Ai]
 have i:Cg (zr N) (zr D)=BA (ji (Ag N) D):=by
  grind [Cg,LN]
 have t:ji (Ag N) D<=D:=by
  have d:ji (Ag N) D=(yw N D:Int):=by rw[FN,Ai];rfl
  rw[d];exact Int.le_of_dvd h0<|Int.gcd_dvd_right ..
 have fn:=kT h0 (neg:=zw N) rfl;have e:(zj N D).num.natAbs<=N.natAbs:=(by grind [Fq]);have r:(zj N D).den<=D.natAbs:=(by grind [Fq]);have CZ:=G2 (m:=(zj N D).num) b e;have a:=G2 (m:=((zj N D).den:Int)) c ae;have l:Ag (zj N D).num<(yy:Int)^3000:=(TO CZ).2.2;have u:=Qq (N:=N) (D:=D);have q:=(zj N D).den_pos;have a0:=NF (zj N D).num;refine zn (Am ..) ?_;conv=>zeta
 rw[i,LN,LN,f];generalize ji (Ag N) D=g at*;have j:=Fp (n:=g) (k:=3000) ae ae af;rw[j.2.2.1,fn,f1,f2,Kp];have s:=HR a0 l;refine zd ah (zd ah (zd ah<|zd ah<|zd CZ<|A8 _ _ CZ a ae (fun h ob=>?_)<|fun h ob=>?_))
 ·grind
 grind
theorem ok[Srt]:Af Bb 75 O2:=by
 refine BL qI<|fun(i:(Bool×List Int)×(Bool×List Int)) f=>?_;obtain⟨a,b⟩:=i;have f:(Cj a&&Cj b&&decide (Sp.vR b≠0))=true:=f;rw[ze,ze,w5]at f;obtain⟨⟨ha,hb⟩,h0⟩:=f;have h:=uW ha;have j:=uW hb;have k:∀ob,Ac O2 (a,b) (.dat .str<|Cv (Sp.vR a)<|Sp.vR b) ob:=fun ob=>zy rfl rfl rfl
 have e:=ha;have d:=hb;rw[h]at e;rw[j]at d;refine zp (Aj a b)<|zi (fun c=>zd ha<|zd hb ?_)<|fun c=>?_
 ·have g:Sp.vR b<0:=by
   have:=kU hb;rw[c]at this;exact w6 this.symm
  have:=Aq (Q:=Ac O2 (a,b)) (-Sp.vR a) (-Sp.vR b) (G2 e ae) (G2 d ae) ae (by grind [TM]);exact this
 grind [Aq,zw]
end T75
theorem pJ[Srt]:Dn aO:=Aa T109.ok (by grind [Aa,T75.ok,T110.ok,T111.ok,Nc])
namespace T52
theorem UD{n:Int}(a: -9000000000000000000<=n)(b:n<=9000000000000000000):imax n (zc .i64<|0-n)=Ag n:=by
 grind [wr,imax,Ag]
theorem BR[Srt](n d:Int)(v:Rd)(g:v=Cf n)(b:v.length<=27001)(h:0<d)(j:d<9000000000000000000)(a:d=1->∀ob,Q (.dat .str<|Cf n) ob)(f:d≠1->∀ob,Q (.dat .str (Cf n++47::Cf d)) ob):Ends aO (L4 d v) Q:=by
 have i:=UI d 1;have e:Ij d 1=Cf d:=by
  rw[NO ae ae];unfold Cf zt;grind
 refine zn (CA ..) (zi (fun c=>zd ah<|zd ah<|zd ah<|zf ?_)<|fun c=>zf ?_)
 ·grind
 grind
theorem CY[Srt](n d:Int)(n1: -9000000000000000000<n)(n2:n<9000000000000000000)(h:0<d)(i:d<9000000000000000000)(a:d=1->∀ob,Q (.dat .str<|Cf n) ob)(f:d≠1->∀ob,Q (.dat .str (Cf n++47::Cf d)) ob):Ends aO (L3 n d) Q:=by
 have k:=UI (Ag n) 1;have j:=Ai n;have e:Ij (Ag n) 1=zg n.natAbs:=by
  grind [NO]
 have b:=Zv n;refine zn (BH ..) ?_;conv=>zeta
 rw[UD ae ae];have g:(decide (0<=Ag n)&&decide (Ag n<9223372036854775808)&&decide ((0:Int)<=1)&&decide ((1:Int)<=20))=true:=Ad (Ad (by grind [Ad]) rfl) rfl;refine zi (fun c=>zd g<|zd ah<|BR n d _ ?_ ?_ h i a f) (fun c=>zd g (zd ah<|BR n d _ ?_ ?_ h i a f))
 ·have c:=w6 c;rw[wd c]at b;rw[e];exact b.symm
 ·grind
 ·have c:=w7 c;rw[wc c]at b;rw[e];exact b.symm
 grind
theorem A8[Srt](n d:Int)(n1: -9000000000000000000<n)(n2:n<9000000000000000000)(c:0<d)(j:d<9000000000000000000)(f:∀ob,Q (.dat .str<|Cv n d) ob):Ends aO (L2 n d) Q:=by
 obtain⟨q1,b⟩:=Va (N:=n) c;obtain⟨l1,l2⟩:=Fq (n:=n) (d:=d) ae;have e:=Ai n;have g:=(zj n d).den_pos;have i:=Qq (N:=n) (D:=d);refine zn (AU ..) ?_;conv=>zeta
 rw[UD ae ae,q1,b,wr _ ae ae,wr _ ae ae];have a:decide (ji (Ag n) d≠0)=true:=ah;refine zd (Ad (by grind [Ad]) ah) (zd a<|zd a<|CY _ _ ae ae ae ae (fun h ob=>?_)<|fun h ob=>?_)
 ·grind
 grind
theorem ok[Srt]:Af Bb 52 XX:=by
 refine BL pJ<|fun(i:Int×Int) b=>?_;obtain⟨n,d⟩:=i;have b:(Cx n&&Cx d&&decide (d≠0))=true:=b;have e:∀ob,Ac XX (n,d) (.dat .str<|Cv n d) ob:=fun ob=>zy rfl rfl rfl
 have a:(Cj (zw n,zr n)&&Cj (zw d,zr d)&&decide (Sp.vR (zw d,zr d)≠0))=true:=(by grind [Ym,HV]);refine zp (Aj n d) ?_;conv=>zeta
 rw[N0];refine zi (by simp_all) (fun f=>zi (by simp_all) (fun g=>zi (by simp_all)<|fun h=>zi (by simp_all)<|fun j=>?_));refine zn (Am ..)<|zi (fun c=>?_)<|fun c=>?_
 ·grind [wr,A8,TM]
 grind [A8]
end T52
namespace T73
theorem no3[Srt]{Q:PV->Ob->Prop}(s:Rd)(neg:Bool)(d:s.length<=20)(h:9<(AB s).length\/9<(yo s).length)(a:∀ob,Q (.tup [.dat i64 0,.dat i64 0,.bl false]) ob):Ends Ns (L3 s neg) Q/\Ends Ns (L4 s) Q:=by
 obtain⟨f,g,i⟩:=BE s;have es:AW s=((AB s).length:Int):=rfl;have e:9<(yo s).length->(s.length:Int)-(AB s).length>10:=fun h=>by
  cases b:Bw s with
  |true=>
   grind
  |false=>grind
 refine⟨zn (BH ..) (zd ah<|zi (fun _=>zf<|a _)<|fun c=>?_),zn (CA ..)<|zd ah<|zi (fun _=>zf<|a _)<|fun c=>?_⟩
 ·grind [zd,zf,wr]
 grind [zd,zf,wr]
theorem okG[Srt]:Af Bb 73 Nk:=by
 refine BL mK<|fun(a:Rd) ha=>?_;obtain⟨_,_,k,db⟩:=OC ha;by_cases b:D4 a=true
 ·have f:∀n ob,n=IG a->Ac Nk a (.tup [.dat i64 n,.dat i64<|if Bw (A6 a)=true then AA 0 (yo<|A6 a)else 1,.bl true]) ob:=fun n ob h=>zy rfl rfl (by
   show(n,_,true)=(fD a,Uo a,D4 a);unfold fD Uo;rw[wd b,wd b,b,h];rfl)
  unfold D4 at b;rw[ze,ze,w5,w5,w5]at b;obtain⟨⟨e,l⟩,j⟩:=b;refine zp (Aj a) (zo ah ?_);cases a with
  |nil=>exact zo rfl (zn (AU ..)<|BR [] e l j k db<|fun n ob h=>f n ob<|by rw[h];rfl)
  |cons c r=>
   have i:(c::r).getD 0 0=c:=rfl;rw[i];refine zd (by simp) (zd (by simp) (zn (Am ..)<|zi (fun d=>zd (by simp) ?_)<|fun d=>?_))
   ·have g:c=45:=by
     exact qc.1 ah
    have m:A6 (c::r)=r:=by simp_all [A6]
    have p:Sp.preB (c::r)=true:=by grind [Sp.preB]
    grind [IG,CY]
   ·have g:c≠45:=by rintro rfl;grind
    simp_all [A6,Sp.preB,IG,CY]
 ·have f:∀ob,Ac Nk a (.tup [.dat i64 0,.dat i64 0,.bl false]) ob:=fun ob=>zy rfl rfl (by
   show((0:Int),(0:Int),false)=(fD a,Uo a,D4 a);simp_all [fD,Uo])
  refine zp (Aj a) (zi (by simp_all)<|fun e=>?_);have e:a.length<=20:=ah
  have o:9<(AB<|A6 a).length\/9<(yo<|A6 a).length:=by
   grind [D4]
  cases a with
  |nil=>exact zo rfl (zn (AU ..) (no3 [] false e o f).2)
  |cons c r=>
   have i:(c::r).getD 0 0=c:=rfl;rw[i];refine zd (by simp) (zd (by simp)<|zn (Am ..)<|zi (fun d=>zd (by simp) ?_)<|fun d=>?_)
   ·have g:c=45:=by
     exact qc.1 ah
    have m:A6 (c::r)=r:=by simp_all [A6]
    grind [no3]
   ·have g:c≠45:=by rintro rfl;grind
    simp_all [A6,no3]
end T73
theorem R6[Srt]:Dn uE:=Aa T73.okG (by grind [Aa,T52.ok,T74.ok,T76.ok,T77.ok,T75.ok,Nc])
theorem TU{x y:Int}(c: -1000000000<x)(d:x<1000000000)(a: -1000000000<y)(b:y<1000000000): -1000000000000000000<=x*y/\x*y<=1000000000000000000:=by
 have h:(x*y).natAbs<=1000000000*1000000000:=by
  rw[zx];exact Nat.mul_le_mul ae ae
 omega
theorem T26.ok[Srt]:Af Bb 26 Pq:=by
 refine BL R6<|fun(i:Rd×Rd) c=>?_;obtain⟨a,b⟩:=i;have c:(A4 a&&A4 b)=true:=c;rw[ze]at c;obtain⟨ha,hb⟩:=c;obtain⟨a1,a2,a3,a4,a5,a6,a7,a8,a9⟩:=D8 ha;obtain⟨b1,b2,b3,b4,b5,b6,b7,b8,b9⟩:=D8 hb;have ad:=(AJ a).den_pos;have F:=(AJ b).den_pos;have eq:=(Zk ha hb).2;have n:∀ob,Ac Pq (a,b) (.dat .str<|Cv (Bf a*AS b+Bf b*AS a)<|AS a*AS b) ob:=fun ob=>zy rfl rfl eq.symm
 have f:Ends uE (T26.L1 a b) (Ac Pq (a,b)):=by
  have e1:BF a=zw (Bf a):=rfl;have e2:By a=zr (Bf a):=rfl;have e3:Bl a=zw (AS a):=rfl;have e4:Bh a=zr (AS a):=rfl;have t:BF b=zw (Bf b):=rfl;have l:By b=zr (Bf b):=rfl;have y:Bl b=zw (AS b):=rfl;have w:Bh b=zr (AS b):=rfl;refine zn (T26.Am ..) ?_;conv=>zeta
  simp only[e1,e2,e3,e4,t,l,y,w,Qo,Qw,bG,iR,N0,HV];have e:=Dz a8 b9;have d:=Dz b8 a9;have h:=Dz a9 b9;rw[<-zx]at e d h;have q:=z7 (Int.natAbs_add_le (Bf a*AS b)<|Bf b*AS a)<|jG (k:=4000+4000) e d;have u:=My e af;have m:=My d af;have r:=My h af;have x:=My q af;have p:AS a*AS b≠0:=(by grind [yk]);exact zd a7<|zd b7<|zd (Ad a1 b3)<|zd (Ad b1 a3)<|zd (Ad u m)<|zd (Ad a3 b3)<|zd (Ad (Ad x r)<|w4 p)<|zf<|n _
 refine zp (T26.Aj a b) (zd ha<|zd hb<|zi (fun o=>zi (fun v=>?_) ah) ah);obtain⟨A,z,s,j,B,g⟩:=F8 ha o;obtain⟨y1,y2,y3,y4,y5,y6⟩:=F8 hb v;have E:=TU s j ae y6;have C:=TU y3 y4 ae g;have D:=TU ae g ae y6;grind [yk,wr,zd,Fh,zf]
theorem T51.ok[Srt]:Af Bb 51 QB:=by
 refine BL R6<|fun(i:Rd×Rd) c=>?_;obtain⟨a,b⟩:=i;have c:(A4 a&&A4 b)=true:=c;rw[ze]at c;obtain⟨ha,hb⟩:=c;obtain⟨a1,a2,a3,a4,a5,a6,a7,a8,a9⟩:=D8 ha;obtain⟨b1,b2,b3,b4,b5,b6,b7,b8,b9⟩:=D8 hb;have ad:=(AJ a).den_pos;have v:=(AJ b).den_pos;have o:∀ob,Ac QB (a,b) (.dat .str<|Cv (Bf a*Bf b)<|AS a*AS b) ob:=fun ob=>zy rfl rfl (Zg).symm
 have d:Ends uE (T51.L1 a b) (Ac QB (a,b)):=by
  have e1:BF a=zw (Bf a):=rfl;have e2:By a=zr (Bf a):=rfl;have e3:Bl a=zw (AS a):=rfl;have e4:Bh a=zr (AS a):=rfl;have j:BF b=zw (Bf b):=rfl;have f:By b=zr (Bf b):=rfl;have n:Bl b=zw (AS b):=rfl;have m:Bh b=zr (AS b):=rfl;refine zn (T51.Am ..) ?_;conv=>zeta
  simp only[e1,e2,e3,e4,j,f,n,m,Qo,Qw,N0,HV];have r:=Dz a8 b8;have w:=Dz a9 b9;grind [My,yk,zd,zf]
 refine zp (T51.Aj a b) (zd ha<|zd hb<|zi (fun g=>zi (fun k=>?_) ah) ah);obtain⟨q,p,h,e,s,l⟩:=F8 ha g;obtain⟨y1,y2,y3,y4,y5,y6⟩:=F8 hb k;have u:=TU h e y3 y4;have t:=TU ae l ae y6;grind [yk,wr,zd,Fh,zf]
theorem T186.ok[Srt]:Af Bb 186 tO:=by
 refine BL R6<|fun(a:Rd) hi=>?_;obtain⟨b,h0⟩:=Ws hi;obtain⟨a1,a2,a3,a4,a5,a6,a7,a8,a9⟩:=D8 (He b).1;refine zp (T186.Aj a)<|zd a7<|zd (Ad (Ad a3 a1) ?_)<|zf<|zy rfl rfl ?_
 ·rw[a2];exact w4 fun e=>(by simp_all)
 ·unfold Ik;rw[a2,a4];exact aF.symm
end Go.Pe
