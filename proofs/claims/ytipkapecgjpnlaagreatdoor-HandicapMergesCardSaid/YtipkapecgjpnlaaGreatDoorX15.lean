import Derived.Test.YtipkapecgjpnlaaGreatDoorX14
import Derived.ChangeShapes
import Derived.OpenShut
import Derived.Test.YtipkapecgjpnlaaGreatDoorRows
import Derived.LaidByTextLater
import Derived.SevenTiedAt
import Derived.LaidSub
import Derived.LaidOnce
/- A part of a proof; no law is stated here. -/
noncomputable section
open Go.Pe.Ends renaming tt -> zc, leaf -> zd, ite -> ze, An -> zi, eq -> zk, ff -> zr
open Bool renaming and_eq_true -> zf, true_and -> yq, eq_iff_iff -> qu
open List renaming mem_cons_of_mem -> zg, length_cons -> zq, take_succ_eq_append_getElem -> zx, mem_cons_self -> zy, getElem?_eq_getElem -> zz, mem_append -> yd, mem_cons -> ye, length -> yh, getD_eq_getElem?_getD -> yk, length_drop -> ym, drop_eq_getElem_cons -> yo, getElem_of_mem -> yp, map_cons -> yw, mem_singleton -> qd, pairwise_iff_getElem -> qe, all_eq_true -> qk, length_eq_zero_iff -> ql, length_take -> qm, take -> qn, take_of_length_le -> qq, map_append -> qv, map_take -> q9, map_drop -> jc, all -> je
open Go.IntKind renaming wrap -> zh, i64 -> zo
open Int renaming toNat_natCast -> zj, mul_ne_zero -> yz, tdiv_eq_ediv_of_dvd -> qj
open Go.Pe.Sh renaming list -> zl, int -> yi, bool -> yv, str -> qi
open Nat renaming eq_of_beq_eq_true -> zm, add -> zw, zero_le -> z8, pow_le_pow_right -> yf, beq -> yx, le_refl -> qg, sub -> jf
open Go.DataW renaming weightsEach -> zn, weights -> yr, trod -> yt, trod_int -> qy
open Go.Pe.Ad renaming of -> zp
open Go.Lib renaming decDigits -> zt, itoa -> qw
open Classical renaming propDecidable -> zu, byContradiction -> qf, not_not -> qh
open Go.Sp renaming first -> z6, rW -> yc, rN -> yg, iF -> yj, DD -> qc
open Rat renaming intCast_eq_zero_iff -> z7, divInt -> yb, not_lt -> qp, num_intCast -> qt, floor_def -> qz
open Go.Value renaming okWide -> yn
open Option renaming getD -> yu, bind_eq_some_iff -> qo
open Go.OpenClaim renaming laidByTextAt_pinned -> yy
open Prod renaming snd -> qx
namespace Go.Sp
theorem lH{a k m:Nat}(h:a<10^k)(b:k<=m):a<10^m:=(by grind [Nat.lt_of_lt_of_le,yf])
theorem bT{a b k:Nat}(c:a<10^k)(d:b<10^k):a+b<10^(k+1):=ae
theorem Mg{n:Int}{k:Nat}(h:n.natAbs<10^k)(a:k<=27000):Ce (rN n,rW n)=true:=(by grind [RF,lH])
theorem G4{m n:Int}(h:Ce (rN n,rW n)=true)(a:m.natAbs<=n.natAbs):Ce (rN m,rW m)=true:=by
 grind [zK,HW,RF]
theorem Yz{n:Int}(h:Ca n=true):Ce (rN n,rW n)=true:=by
 have h:=Go.Pe.EA h;exact Mg (k:=20) ae af
theorem TL{n:Int}(h:Ce (rN n,rW n)=true):A0 (rW n)=true/\(rW n).length<=3000/\Ag n<(B9:Int)^3000:=by
 obtain⟨b,a,_⟩:=CV h;have:=(Go.Pe.Js h).2;grind [Mo]
theorem UF{n:Int}(h:Ce (rN n,rW n)=true):(AV n).length<=27001:=by
 have a:=(TL h).2.2;have b:=Vf a af;grind [Ah,AV,qw]
theorem KV(n:Int):Gj (rN n,rW n)=AV n:=by unfold Gj;rw[HW]
theorem W1{N D:Int}(b:0<D):Int.tdiv N (gI (Ag N) D)=(yb N D).num/\Int.tdiv D (gI (Ag N) D)=((yb N D).den:Int):=by
 have a:D.sign=1:=ah;have c:gI (Ag N) D=(Int.gcd N D:Int):=by rw[Gx,Ah];rfl
 have e:(Int.gcd N D:Int)∣N:=Int.gcd_dvd_left ..;have d:(Int.gcd N D:Int)∣D:=Int.gcd_dvd_right ..;rw[c,qj e,qj d];refine⟨?_,(J9 (N:=N) b).2.2.1▸?_⟩
 ·rw[Rat.num_divInt,a,Int.one_mul,Int.gcd_comm]
 grind
theorem Qs(x y:Int):HP (rN x,rW x) (rN y,rW y)=rN (x*y):=by grind [HP,HW]
theorem Qy(x y:Int):Hk (rN x,rW x) (rN y,rW y)=rW (x*y):=by grind [Hk,HW]
theorem iM(x y:Int):MM (rN x,rW x) (rN y,rW y)=rN (x+y):=by grind [MM,HW]
theorem dG(x y:Int):MJ (rN x,rW x) (rN y,rW y)=rW (x+y):=by grind [MJ,HW]
theorem NU(x y:Int):Iu (rN x,rW x) (rN y,rW y)=Cx x y:=by grind [Iu,HW]
theorem TB{a b:Nat}(h:a<=b):(zt a).length<=(zt b).length:=by
 have c:=Lib.lt_pow_nDigits b;have d:1<=(zt b).length:=(by grind [kD]);rw[<-Lib.decDigits_length]at c;exact Hq ae d
theorem neg_num(x:Rat):(x.num<0↔x<0)/\(x.num>0↔0<x):=by
 simp_all [Rat.lt_iff]
theorem kX(p q:Rat):Ul (p-q).num=if p<q then -1 else if q<p then 1 else 0:=by
 grind [neg_num,Ul]
end Go.Sp
variable {Q:Go.Pe.PV->Go.Pe.Ob->Prop}
namespace Go.Pe
open Sp
open Go.Det
theorem qG[Srt]:Dn mH:=Aa T167.ok (by grind [Aa,T153.ok,T168.ok,T164.ok,T100.ok,Ng])
namespace T104
theorem CW[Srt](n d:Int)(c:Ce (yg n,yc n)=true)(a:Ce (yg d,yc d)=true)(b:0<=d)(o:∀ob,Q (.dat .str (AV n++47::AV d)) ob):Ends mH (L3 (BG d)<|AV n) Q:=by
 have f:=UF c;have j:=UF a;have e:yc d=BG d:=by grind [yc,Ah]
 have g:=(TL a).2.1;obtain⟨i,m⟩:=D4 b;have h:(Cu false<|BG d,Ax<|BG d)=(yg d,yc d):=(by grind [J2]);refine zi (Cr ..) ?_;conv=>zeta
 grind [KV,zc,zd]
theorem A1[Srt](n d:Int)(b:Ce (yg n,yc n)=true)(i:Ce (yg d,yc d)=true)(j:0<d)(g:d=1->∀ob,Q (.dat .str<|AV n) ob)(f:d≠1->∀ob,Q (.dat .str (AV n++47::AV d)) ob):Ends mH (L2 (BG d)<|AV n) Q:=by
 have o:=nP (n:=d) ae;by_cases h:d=1
 ·simp_all [zi,AO]
 ·have a:=CW n d b i ae<|f h;refine zi (AO ..)<|ze (fun c=>zc ?_<|ze (fun e=>?_)<|fun _=>a)<|fun _=>a
  ·grind
  ·cases m:BG d with
   |nil=>grind
   |cons x r=>
    grind
theorem As[Srt](N D:Int)(b:Ce (yg N,yc N)=true)(c:Ce (yg D,yc D)=true)(h0:0<D)(p:∀ob,Q (.dat .str<|Cx N D) ob):Ends mH (L1 (yg D) (yc D) (yg N)<|yc N) Q:=by
 obtain⟨n1,q,t⟩:=TL b;obtain⟨d1,d2,d3⟩:=TL c;obtain⟨g0,f1,f2,f3⟩:=J9 (N:=N) h0;have o:Ag D=D:=by grind [Ah]
 have i:Cc (yc N) (yc D)=BG (Sp.gI (Ag N) D):=by
  grind [Cc,Mo]
 have r:Sp.gI (Ag N) D<=D:=by
  have d:Sp.gI (Ag N) D=(Int.gcd N D:Int):=by rw[Gx,Ah];rfl
  rw[d];exact Int.le_of_dvd h0<|Int.gcd_dvd_right ..
 have fn:=fT h0 (neg:=yg N) rfl;have f:(yb N D).num.natAbs<=N.natAbs:=(by grind [Fs]);have x:(yb N D).den<=D.natAbs:=(by grind [Fs]);have DD:=G4 (m:=(yb N D).num) b f;have a:=G4 (m:=((yb N D).den:Int)) c ae;have e:Ag (yb N D).num<(Sp.B9:Int)^3000:=(TL DD).2.2;have y:=QH (N:=N) (D:=D);have u:=(yb N D).den_pos;have a0:=Nw (yb N D).num;refine zi (Ar ..) ?_;conv=>zeta
 rw[i,Mo,Mo,o];generalize Sp.gI (Ag N) D=g at*;have j:=Ft (n:=g) (k:=3000) ae ae af;rw[j.2.2.1,fn,f1,f2,KV];have v:=HB a0 e;refine zc ah (zc ah<|zc ah<|zc ah<|zc DD (A1 _ _ DD a ae (fun h ob=>?_)<|fun h ob=>?_))
 ·grind
 grind
theorem ok[Srt]:Af A9 104 O8:=by
 refine BM qG<|fun(i:(Bool×List Int)×(Bool×List Int)) f=>?_;obtain⟨a,b⟩:=i;have f:(Ce a&&Ce b&&decide (Sp.vR b≠0))=true:=f;rw[zf,zf,w5]at f;obtain⟨⟨ha,hb⟩,h0⟩:=f;have h:=uZ ha;have j:=uZ hb;have m:∀ob,Ad O8 (a,b) (.dat .str<|Cx (Sp.vR a)<|Sp.vR b) ob:=fun ob=>zp rfl rfl rfl
 have e:=ha;have d:=hb;rw[h]at e;rw[j]at d;refine zk (Ai a b)<|ze (fun c=>zc ha<|zc hb ?_)<|fun c=>?_
 ·have g:Sp.vR b<0:=by
   have:=eV hb;rw[c]at this;exact w6 this.symm
  have:=As (Q:=Ad O8 (a,b)) (-Sp.vR a) (-Sp.vR b) (G4 e ae) (G4 d ae) ae (by grind [UE]);exact this
 grind [As,yg]
end T104
theorem oI[Srt]:Dn aX:=Aa T101.ok (by grind [Aa,T104.ok,T106.ok,T107.ok,Ng])
namespace T61
theorem TX{n:Int}(a: -9000000000000000000<=n)(b:n<=9000000000000000000):imax n (zh .i64<|0-n)=Ag n:=by
 grind [wr,imax,Ag]
theorem BR[Srt](n d:Int)(v:Z)(g:v=AV n)(f:v.length<=27001)(b:0<d)(j:d<9000000000000000000)(a:d=1->∀ob,Q (.dat .str<|AV n) ob)(h:d≠1->∀ob,Q (.dat .str (AV n++47::AV d)) ob):Ends aX (L4 d v) Q:=by
 have i:=TN d 1;have e:IQ d 1=AV d:=by
  rw[Pg ae ae];unfold AV qw;grind
 refine zi (CN ..) (ze (fun c=>zc ah<|zc ah<|zc ah<|zd ?_)<|fun c=>zd ?_)
 ·grind
 grind
theorem CW[Srt](n d:Int)(n1: -9000000000000000000<n)(m:n<9000000000000000000)(f:0<d)(i:d<9000000000000000000)(a:d=1->∀ob,Q (.dat .str<|AV n) ob)(g:d≠1->∀ob,Q (.dat .str (AV n++47::AV d)) ob):Ends aX (L3 n d) Q:=by
 have o:=TN (Ag n) 1;have j:=Ah n;have e:IQ (Ag n) 1=zt n.natAbs:=by
  grind [Pg]
 have b:=ZY n;refine zi (Cr ..) ?_;conv=>zeta
 rw[TX ae ae];have h:(decide (0<=Ag n)&&decide (Ag n<9223372036854775808)&&decide ((0:Int)<=1)&&decide ((1:Int)<=20))=true:=Ab (Ab (by grind [Ab]) rfl) rfl;refine ze (fun c=>zc h<|zc ah<|BR n d _ ?_ ?_ f i a g) (fun c=>zc h (zc ah<|BR n d _ ?_ ?_ f i a g))
 ·have c:=w6 c;rw[wd c]at b;rw[e];exact b.symm
 ·grind
 ·have c:=w7 c;rw[wc c]at b;rw[e];exact b.symm
 grind
theorem A1[Srt](n d:Int)(n1: -9000000000000000000<n)(g:n<9000000000000000000)(b:0<d)(m:d<9000000000000000000)(i:∀ob,Q (.dat .str<|Cx n d) ob):Ends aX (L2 n d) Q:=by
 obtain⟨q1,c⟩:=W1 (N:=n) b;obtain⟨l1,l2⟩:=Fs (n:=n) (d:=d) ae;have f:=Ah n;have e:=(yb n d).den_pos;have j:=QH (N:=n) (D:=d);refine zi (AO ..) ?_;conv=>zeta
 rw[TX ae ae,q1,c,wr _ ae ae,wr _ ae ae];have a:decide (Sp.gI (Ag n) d≠0)=true:=ah;refine zc (Ab (by grind [Ab]) ah) (zc a<|zc a<|CW _ _ ae ae ae ae (fun h ob=>?_)<|fun h ob=>?_)
 ·grind
 grind
theorem ok[Srt]:Af A9 61 Xo:=by
 refine BM oI<|fun(i:Int×Int) a=>?_;obtain⟨n,d⟩:=i;have a:(Ca n&&Ca d&&decide (d≠0))=true:=a;have j:∀ob,Ad Xo (n,d) (.dat .str<|Cx n d) ob:=fun ob=>zp rfl rfl rfl
 have b:(Ce (yg n,yc n)&&Ce (yg d,yc d)&&decide (Sp.vR (yg d,yc d)≠0))=true:=(by grind [Yz,HW]);refine zk (Ai n d) ?_;conv=>zeta
 rw[NU];refine ze (by simp_all) (fun h=>ze (by simp_all) (fun f=>ze (by simp_all)<|fun e=>ze (by simp_all)<|fun g=>?_));refine zi (Ar ..)<|ze (fun c=>?_)<|fun c=>?_
 ·grind [wr,A1,UE]
 grind [A1]
end T61
namespace T102
theorem no3[Srt]{Q:PV->Ob->Prop}(s:Z)(neg:Bool)(e:s.length<=20)(h:9<(AG s).length\/9<(Sp.AT s).length)(a:∀ob,Q (.tup [.dat i64 0,.dat i64 0,.bl false]) ob):Ends NB (L3 s neg) Q/\Ends NB (L4 s) Q:=by
 obtain⟨f,d,b⟩:=BN s;have es:Bc s=((AG s).length:Int):=rfl;have i:9<(Sp.AT s).length->(s.length:Int)-(AG s).length>10:=fun h=>by
  cases g:BE s with
  |true=>
   grind
  |false=>grind
 refine⟨zi (Cr ..) (zc ah<|ze (fun _=>zd<|a _)<|fun c=>?_),zi (CN ..)<|zc ah<|ze (fun _=>zd<|a _)<|fun c=>?_⟩
 ·grind [zc,zd,wr]
 grind [zc,zd,wr]
theorem okG[Srt]:Af A9 102 NF:=by
 refine BM pD<|fun(a:Z) ha=>?_;obtain⟨_,_,o,db⟩:=OQ ha;by_cases b:D5 a=true
 ·have f:∀n ob,n=Iy a->Ad NF a (.tup [.dat i64 n,.dat i64<|if BE (Bk a)=true then AE 0 (Sp.AT<|Bk a)else 1,.bl true]) ob:=fun n ob h=>zp rfl rfl (by
   show(n,_,true)=(lW a,Tw a,D5 a);unfold lW Tw;rw[wd b,wd b,b,h];rfl)
  unfold D5 at b;rw[zf,zf,w5,w5,w5]at b;obtain⟨⟨e,p⟩,q⟩:=b;refine zk (Ai a) (zr ah ?_);cases a with
  |nil=>exact zr rfl (zi (AO ..)<|BR [] e p q o db<|fun n ob h=>f n ob<|by rw[h];rfl)
  |cons c r=>
   have g:(c::r).getD 0 0=c:=rfl;rw[g];refine zc (by simp) (zc (by simp) (zi (Ar ..)<|ze (fun d=>zc (by simp) ?_)<|fun d=>?_))
   ·have i:c=45:=by
     exact UInt8.toNat_inj.1 ah
    have j:Bk (c::r)=r:=by simp_all [Bk]
    have t:Sp.preB (c::r)=true:=by grind [Sp.preB]
    grind [Iy,CW]
   ·have i:c≠45:=by rintro rfl;grind
    simp_all [Bk,Sp.preB,Iy,CW]
 ·have f:∀ob,Ad NF a (.tup [.dat i64 0,.dat i64 0,.bl false]) ob:=fun ob=>zp rfl rfl (by
   show((0:Int),(0:Int),false)=(lW a,Tw a,D5 a);simp_all [lW,Tw])
  refine zk (Ai a) (ze (by simp_all)<|fun e=>?_);have e:a.length<=20:=ah
  have m:9<(AG<|Bk a).length\/9<(Sp.AT<|Bk a).length:=by
   grind [D5]
  cases a with
  |nil=>exact zr rfl (zi (AO ..) (no3 [] false e m f).2)
  |cons c r=>
   have g:(c::r).getD 0 0=c:=rfl;rw[g];refine zc (by simp) (zc (by simp)<|zi (Ar ..)<|ze (fun d=>zc (by simp) ?_)<|fun d=>?_)
   ·have i:c=45:=by
     exact UInt8.toNat_inj.1 ah
    have j:Bk (c::r)=r:=by simp_all [Bk]
    grind [no3]
   ·have i:c≠45:=by rintro rfl;grind
    simp_all [Bk,no3]
end T102
theorem Sl[Srt]:Dn vD:=Aa T102.okG (by grind [Aa,T61.ok,T103.ok,T163.ok,T105.ok,T104.ok,Ng])
theorem TJ{x y:Int}(c: -1000000000<x)(d:x<1000000000)(b: -1000000000<y)(a:y<1000000000): -1000000000000000000<=x*y/\x*y<=1000000000000000000:=by
 have h:(x*y).natAbs<=1000000000*1000000000:=by
  rw[Int.natAbs_mul];exact Nat.mul_le_mul ae ae
 omega
theorem T98.ok[Srt]:Af A9 98 US:=by
 refine BM Sl<|fun(i:Z×Z) c=>?_;obtain⟨a,b⟩:=i;have c:(BB a&&BB b)=true:=c;rw[zf]at c;obtain⟨ha,hb⟩:=c;obtain⟨a1,a2,a3,a4,a5,a6,a7,a8,a9⟩:=D8 ha;obtain⟨b1,b2,b3,b4,b5,b6,b7,b8,b9⟩:=D8 hb;have ad:=(A8 a).den_pos;have I:=(A8 b).den_pos;have eq:=(aG ha hb).2;have j:∀ob,Ad US (a,b) (.dat .str<|Cx (Bh a*AS b+Bh b*AS a)<|AS a*AS b) ob:=fun ob=>zp rfl rfl eq.symm
 have h:Ends vD (T98.L1 a b) (Ad US (a,b)):=by
  have o:BH a=yg (Bh a):=rfl;have y:BA a=yc (Bh a):=rfl;have B:Bm a=yg (AS a):=rfl;have u:Bi a=yc (AS a):=rfl;have m:BH b=yg (Bh b):=rfl;have r:BA b=yc (Bh b):=rfl;have z:Bm b=yg (AS b):=rfl;have t:Bi b=yc (AS b):=rfl;refine zi (T98.Ar ..) ?_;conv=>zeta
  simp only[o,y,B,u,m,r,z,t,Qs,Qy,iM,dG,NU,HW];have d:=Dt a8 b9;have e:=Dt b8 a9;have f:=Dt a9 b9;rw[<-Int.natAbs_mul]at d e f;have v:=Nat.lt_of_le_of_lt (Int.natAbs_add_le (Bh a*AS b)<|Bh b*AS a)<|bT (k:=4000+4000) d e;have D:=Mg d af;have p:=Mg e af;have n:=Mg f af;have F:=Mg v af;have x:AS a*AS b≠0:=(by grind [yz]);exact zc a7<|zc b7<|zc (Ab a1 b3)<|zc (Ab b1 a3)<|zc (Ab D p)<|zc (Ab a3 b3)<|zc (Ab (Ab F n)<|w4 x)<|zd<|j _
 refine zk (T98.Ai a b) (zc ha<|zc hb<|ze (fun C=>ze (fun A=>?_) ah) ah);obtain⟨K,J,q,E,M,g⟩:=F8 ha C;obtain⟨y1,y2,y3,y4,y5,y6⟩:=F8 hb A;have L:=TJ q E ae y6;have N:=TJ y3 y4 ae g;have G:=TJ ae g ae y6;grind [yz,wr,zc,Et,zd]
theorem T60.ok[Srt]:Af A9 60 Re:=by
 refine BM Sl<|fun(i:Z×Z) c=>?_;obtain⟨a,b⟩:=i;have c:(BB a&&BB b)=true:=c;rw[zf]at c;obtain⟨ha,hb⟩:=c;obtain⟨a1,a2,a3,a4,a5,a6,a7,a8,a9⟩:=D8 ha;obtain⟨b1,b2,b3,b4,b5,b6,b7,b8,b9⟩:=D8 hb;have ad:=(A8 a).den_pos;have z:=(A8 b).den_pos;have x:∀ob,Ad Re (a,b) (.dat .str<|Cx (Bh a*Bh b)<|AS a*AS b) ob:=fun ob=>zp rfl rfl (ZC).symm
 have d:Ends vD (T60.L1 a b) (Ad Re (a,b)):=by
  have f:BH a=yg (Bh a):=rfl;have n:BA a=yc (Bh a):=rfl;have q:Bm a=yg (AS a):=rfl;have m:Bi a=yc (AS a):=rfl;have e:BH b=yg (Bh b):=rfl;have h:BA b=yc (Bh b):=rfl;have o:Bm b=yg (AS b):=rfl;have j:Bi b=yc (AS b):=rfl;refine zi (T60.Ar ..) ?_;conv=>zeta
  simp only[f,n,q,m,e,h,o,j,Qs,Qy,NU,HW];have y:=Dt a8 b8;have E:=Dt a9 b9;grind [Mg,yz,zc,zd]
 refine zk (T60.Ai a b) (zc ha<|zc hb<|ze (fun r=>ze (fun p=>?_) ah) ah);obtain⟨B,A,g,u,D,t⟩:=F8 ha r;obtain⟨y1,y2,y3,y4,y5,y6⟩:=F8 hb p;have C:=TJ g u y3 y4;have v:=TJ ae t ae y6;grind [yz,wr,zc,Et,zd]
theorem T172.ok[Srt]:Af A9 172 vJ:=by
 refine BM Sl<|fun(a:Z) hi=>?_;obtain⟨b,h0⟩:=Ww hi;obtain⟨a1,a2,a3,a4,a5,a6,a7,a8,a9⟩:=D8 (HO b).1;refine zk (T172.Ai a)<|zc a7<|zc (Ab (Ab a3 a1) ?_)<|zd<|zp rfl rfl ?_
 ·rw[a2];exact w4 fun e=>(by simp_all)
 ·unfold Iu;rw[a2,a4];exact YZ.symm
theorem Xm[Srt]:Dn XR7:=Aa T172.ok<|Aa T60.ok<|Aa T98.ok<|Aa T99.ok AP
theorem bE{s:Z}(h:GK s=true):BB (KX s)=true/\A8 (KX s)= -A8 s:=by
 obtain⟨b,c⟩:=HO h;obtain⟨t,_⟩:=Gq b;have e:KX s=A5 (-A8 s):=by
  have:=cC<|A8 s;rwa [t]at this
 have r:A8 (KX s)= -A8 s:=by rw[e,DQ]
 refine⟨?_,r⟩;have a:(KX s).length<=4000:=by
  unfold KX;split
  ·omega
  ·split
   ·rw[ym];omega
   ·rw[zq];omega
 unfold BB;rw[r, <-e,w4 rfl,w4 a];rfl
theorem T58.ok[Srt]:Af A9 58 iY:=by
 refine BM Xm<|fun(i:Z×Z) c=>?_;obtain⟨a,b⟩:=i;have c:(BB a&&GK b)=true:=c;rw[zf]at c;obtain⟨ha,hb⟩:=c;obtain⟨n1,n2⟩:=bE hb;have d:=(HO hb).2;refine zk (T58.Ai a b) (zc (w4 ae)<|zc (Ab ha n1)<|zd<|zp rfl rfl ?_);show H7 a (KX b)=M9 a b;unfold H7 M9;rw[n2,Rat.sub_eq_add_neg]
theorem iX{s:Z}(h:Z3 s=true):BB (SO s)=true:=by
 obtain⟨b,h0⟩:=Ww h;obtain⟨b,h2⟩:=HO b;obtain⟨t,_⟩:=Gq b;have a:(A5<|A8 s).length<=3000:=by rw[t];exact h2
 unfold SO;generalize A8 s=q at*;have i:(zt q.num.natAbs).length<=(qw q.num).length:=by
  unfold qw;split
  ·rw[zq];omega
  ·rw[show q.num.toNat=q.num.natAbs by omega];exact qg _
 have key:(A5 q⁻¹).length<=(zt q.num.natAbs).length+(zt q.den).length+2:=by
  have g:=Rat.inv_def q;have f:q.num≠0:=fun e=>h0<|Rat.num_eq_zero.mp e
  have u:=q.den_pos;have m:=Fs (n:=(q.den:Int)) (d:=q.num) f;rw[<-g,Int.natAbs_natCast]at m;have p:=TB m.1;have r:=TB m.2;have o:(qw q⁻¹.num).length<=(zt q⁻¹.num.natAbs).length+1:=by
   unfold qw;split
   ·rw[zq];omega
   ·rw[show q⁻¹.num.toNat=q⁻¹.num.natAbs by omega];omega
  unfold A5;split
  ·omega
  ·rw[List.length_append,zq];omega
 have j:(zt q.num.natAbs).length+(zt q.den).length<=3001:=by
  unfold A5 at a;split at a
  ·next c=>rw[c,Lib.decDigits_one (show 1<10 by decide),List.length_singleton];omega
  ·rw[List.length_append,zq]at a;omega
 unfold BB;rw[DQ,w4 rfl,w4 ae];rfl
theorem T109.ok[Srt]:Af A9 109 uO:=by
 refine BM Xm<|fun(i:Z×Z) c=>?_;obtain⟨a,b⟩:=i;have c:(BB a&&Z3 b)=true:=c;rw[zf]at c;obtain⟨ha,hb⟩:=c;refine zk (T109.Ai a b)<|zc hb<|zc (Ab ha<|iX hb)<|zd<|zp rfl rfl ?_;show Ko a (SO b)=JL a b;unfold Ko JL SO;rw[DQ,Rat.div_def]
theorem XV[Srt]:Dn XR8:=Aa T58.ok<|Aa T154.ok<|Aa T151.ok AP
theorem T94.ok[Srt]:Af A9 94 uC:=by
 refine BM XV<|fun(i:Z×Z) d=>?_;obtain⟨a,b⟩:=i;have d:(BB a&&GK b)=true:=d;have c:=d;rw[zf]at c;obtain⟨ha,hb⟩:=c;have z:=(R3 ha).sub<|R3 (HO hb).1;refine zk (T94.Ai a b) (zc d<|zc (w4<|iV z af)<|zd<|zp rfl rfl ?_);show GV (M9 a b)=ZH a b;unfold M9;rw[QF,kX];rfl
theorem T170.ok[Srt]:Af A9 170 XC:=by
 refine BM XV<|fun(a:Z) ha=>?_;refine zk (T170.Ai a)<|zc ha<|zd<|zp rfl rfl ?_;show(Bc a==(a.length:Int))=Oj a;obtain⟨e,d,c⟩:=BN a;have es:Bc a=((AG a).length:Int):=rfl;unfold Oj;cases b:BE a with
 |false=>rw[es,(c b).1];simp
 |true=>
  obtain⟨g,f⟩:=d b;rw[es];simp;omega
theorem oJ[Srt]:Dn XR9:=Aa T103.ok<|Aa T171.ok<|Aa T100.ok<|Aa T170.ok AP
theorem T108.ok[Srt]:Af A9 108 YT:=by
 refine BM oJ<|fun(a:Z) ha=>?_;obtain⟨a1,a2,a3,a4,a5,e,f,h,a9⟩:=D8 ha;obtain⟨t,hl⟩:=Gq ha;have g:=(A8 a).den_pos;refine zk (T108.Ai a) (zc (w4 ae)<|ze (fun c=>zd<|zp rfl rfl ?_)<|fun c=>zc f<|zc (Ab (Ab a1 a3)<|by rw[a4];exact w4 ae)<|zc ?_<|zd<|zp rfl rfl ?_)
 ·show a=AV (A8 a).floor;have d:(A8 a).den=1:=by
   have b:=(G9<|A8 a).2.2;rw[t]at b;unfold Oj at c;rw[b]at c;simpa using c
  rw[qz,d];have:(A8 a).num/((1:Nat):Int)=(A8 a).num:=Int.ediv_one _;rw[this];conv=>lhs;rw[<-t]
  unfold A5;rw[wd d];rfl
 ·show Ce (Il _ _,IM _ _)=true;unfold Il IM;rw[a2,a4];exact G4 a1<|Int.natAbs_ediv_le_natAbs _ _
 ·show Gj (Il _ _,IM _ _)=AV (A8 a).floor;unfold Il IM;rw[a2,a4,KV,qz,a5,e]
theorem ZZ{f:Al}{q:Rat}(h:E8 f q){k:Nat}(z:GM k q)(d:k<=4000):Bd (FJ f.1 f.2)=true/\Sp.vI (FJ f.1 f.2)=q.floor:=by
 have s:=SF z d;have b:=h.den_pos;have c:=Yb h.n (by rw[h.vn];exact Int.lt_of_lt_of_le s.1<|AN af af);have a:Sp.vI (FJ f.1 f.2)=q.floor:=by rw[gX b,h.vn,h.vd,qz]
 refine⟨Yb (YD c b) ?_,a⟩;have e:=(PB z).1;rw[qt]at e;rw[a];exact Int.lt_of_lt_of_le (R1 e) (AN af ae)
theorem dC{a:Z}(b:Sp.BK a=0):Sp.Fc (frS a)=true/\Sp.JK a=true:=by
 obtain⟨n,z⟩:=Sp.FV b;exact⟨(Ow n).Fc (SF z af),(Sp.D8 n).2.2.2.2.2.2.1⟩
end Go.Pe
namespace Go.Sp
theorem fE(q:Rat):ZQ (A5 q)=max (zt q.num.natAbs).length (zt q.den).length:=by
 unfold ZQ;rw[(G9 q).1,(FN q.num).2.1,bI]
theorem yO{s:Z}(h:BK s=0):Nu (ZQ s) s (A8 s):=by
 obtain⟨n,_⟩:=FV h;have e:=(Gq n).1;have a:=fE<|A8 s;rw[e]at a;exact⟨e.symm,DJ _ (by rw[a];exact Nat.le_max_left ..),DJ _<|by rw[a];exact Nat.le_max_right ..⟩
end Go.Sp
namespace Go.Pe
open Sp
open Go.Det
structure RS(k:Nat)(f:Al)(q:Rat):Prop where
 r:E8 f q
 z:GM k q
theorem RS.mono{i j:Nat}{f:Al}{q:Rat}(h:RS i f q)(k:i<=j):RS j f q:=⟨h.r,h.z.mono k⟩
theorem RS.s{k:Nat}{f:Al}{q:Rat}(h:RS k f q)(a:k<=4000):Lr 4000 q:=SF h.z a
theorem RS.DD{k:Nat}{f:Al}{q:Rat}(h:RS k f q)(a:k<=4000):qc f=true:=h.r.DD<|h.s a
theorem RS.Fc{k:Nat}{f:Al}{q:Rat}(h:RS k f q)(a:k<=4000):Sp.Fc f=true:=h.r.Fc<|h.s a
theorem RS.ok2{i j:Nat}{f g:Al}{p q:Rat}(d:RS i f p)(c:RS j g q)(a:i<=4000)(b:j<=4000):(qc f&&qc g)=true:=Ab (d.DD a)<|c.DD b
theorem RS.add{i j:Nat}{f g:Al}{p q:Rat}(b:RS i f p)(a:RS j g q)(c:i<=4000)(d:j<=4000):RS (i+j+1) (JF f g) (p+q):=⟨E8.add b.r a.r (b.s c)<|a.s d,b.z.add a.z⟩
theorem RS.sub{i j:Nat}{f g:Al}{p q:Rat}(b:RS i f p)(a:RS j g q)(c:i<=4000)(d:j<=4000):RS (i+j+1) (Sj f g) (p-q):=⟨E8.sub b.r a.r (b.s c)<|a.s d,b.z.sub a.z⟩
theorem RS.mul{i j:Nat}{f g:Al}{p q:Rat}(b:RS i f p)(a:RS j g q)(c:i<=4000)(d:j<=4000):RS (i+j) (Hw f g) (p*q):=⟨E8.mul b.r a.r (b.s c)<|a.s d,b.z.mul a.z⟩
theorem RS.div{i j:Nat}{f g:Al}{p q:Rat}(b:RS i f p)(a:RS j g q)(d:i<=4000)(c:j<=4000)(h0:q≠0):RS (i+j) (J5 f g) (p/q):=⟨E8.div b.r a.r (b.s d) (a.s c) (SF (a.z.inv h0) c) h0,b.z.div a.z h0⟩
theorem RS.ok3{i j:Nat}{f g:Al}{p q:Rat}(d:RS i f p)(a:RS j g q)(b:i<=4000)(c:j<=4000)(h0:q≠0):(qc f&&qc g&&decide (Sp.vI g.1≠0))=true:=Ab (d.ok2 a b c)<|a.r.I2.trans<|w4 h0
theorem RS.cmp{i j:Nat}{f g:Al}{p q:Rat}(b:RS i f p)(a:RS j g q):PI f g=if p<q then -1 else if q<p then 1 else 0:=E8.cmp b.r a.r
theorem RS.yB{i j:Nat}{f g:Al}{p q:Rat}(b:RS i f p)(a:RS j g q):PI f g<=0↔p<=q:=by
 rw[b.cmp a];by_cases h:p<q
 ·rw[wd h];exact⟨fun _=>Rat.le_of_lt h,fun _=>by decide⟩
 ·rw[wc h];by_cases k:q<p
  ·rw[wd k];exact⟨fun x=>wh x af,fun x=>wh k<|qp.2 x⟩
  ·rw[wc k];exact⟨fun _=>qp.1 k,fun _=>by decide⟩
theorem RS.fK{i j:Nat}{f g:Al}{p q:Rat}(b:RS i f p)(a:RS j g q):PI f g<0↔p<q:=by
 rw[b.cmp a];by_cases h:p<q
 ·rw[wd h];exact⟨fun _=>h,fun _=>by decide⟩
 ·rw[wc h];by_cases k:q<p
  ·rw[wd k];exact⟨fun x=>wh x af,fun x=>wh x h⟩
  ·rw[wc k];exact⟨fun x=>wh x af,fun x=>wh x h⟩
theorem RS.bW{i j:Nat}{f g:Al}{p q:Rat}(b:RS i f p)(a:RS j g q):PI f g>0↔q<p:=by
 have h:=b.yB a;constructor
 ·intro k;exact Rat.not_le.1 fun x=>by have:=h.2 x;omega
 ·intro k;have:¬PI f g<=0:=fun x=>Rat.not_le.2 k<|h.1 x
  omega
theorem cY{s:Z}(h:BK s=0):RS (Sp.ZQ s) (mI s) (A8 s):=⟨Ow (FV h).1,(yO h).z⟩
theorem EX{n:Int}{k:Nat}(h:n.natAbs<10^k)(b:1<=k)(a:k<=18):RS k ((n,Ct n),(1,Ct 1)) (n:Rat):=by
 have d:10^k<=10^18:=yf af a;have e:10^1<=10^k:=yf af b;have c:Ca n=true:=by
  unfold Ca;exact ad ae ae
 refine⟨Abu n c,?_,?_⟩
 ·rw[qt];exact h
 ·rw[Rat.den_intCast];omega
end Go.Pe
namespace Go.Sp
def pH(q:Rat):Int:=(q+1/2).floor
def ER(n a b:Int):Int:=if n<a\/b<n then 3 else 0
def rdQ(q:Rat)(p:Int):Rat:=(pH (q*p):Rat)/p
def rdN(a:Al)(p:Int):AH:=FJ (JF (Hw a<|iF p)<|J5 (iF 1)<|iF 2).1 (JF (Hw a<|iF p)<|J5 (iF 1)<|iF 2).2
def rdF(a:Al)(p:Int):Al:=WH (rdN a p) (p,Ct p)
def Ace(a:Al)(p:Int):Int:=nS<|rdF a p
def Abl(a:Al)(p:Int):List Int:=nW<|rdF a p
def AaU(a:Al)(p:Int):Int:=dS<|rdF a p
def AbK(a:Al)(p:Int):List Int:=dW<|rdF a p
def zV(x:Al)(p:Int):Prop:=(∃X,Go.Pe.RS 2000 x X)/\1<=p/\p<=10
def qL(x:Al)(p:Int):Bool:=@decide (zV x p) (zu _)
theorem mQ{x:Al}{p:Int}(h:qL x p=true):zV x p:=@w6 _ (zu _) h
theorem qV{x:Al}{p:Int}(h:zV x p):qL x p=true:=@w4 _ (zu _) h
end Go.Sp
namespace Go.Pe
open Go.Det
def jX:Ap:=⟨[i64,i64,i64],fun _=>true,[i64],fun i=>Sp.ER i.1 i.2.1 i.2.2,false⟩
def Abe:Ap:=⟨[A6,i64],fun i=>Sp.qL i.1 i.2,[A6],fun i=>((Sp.Ace i.1 i.2,Sp.Abl i.1 i.2),(Sp.AaU i.1 i.2,Sp.AbK i.1 i.2)),false⟩
def CS:AR:=X7 []
def Ach:AR:=X7 [(78,Yq),(79,cF),(80,jE),(82,YS),(155,kE),(136,Uz),(134,eJ)]
def Aar:AR:=X7 [(86,Jq),(77,jM),(79,cF),(89,uF),(48,Ks)]
def AaH:AR:=X7 [(48,Ks)]
def AbU:AR:=X7 [(93,Jq),(94,uC),(59,Wh)]
def Aan:AR:=X7 [(109,uO),(98,US),(108,YT),(60,Re)]
def Aaq:AR:=X7 [(101,Jr),(100,SU)]
end Go.Pe
namespace Go.Sp
def DW(s:Am):Int:=first [ER s.1 0 99999,ER s.2.1 1 999999999,ER s.2.2.1 1 999,Ik s.2.2.2.1 1 200,ER s.2.2.2.2.1 55 155,ER s.2.2.2.2.2 (-5) 5]
def Tj(seen:List Int):List Am->Int
 |[]=>0
 |x::r=>if DW x≠0 then DW x else if x.2.1∈seen then 9 else Tj (seen++[x.2.1]) r
def A2(l:List Am):Int:=if 256<l.length then 5 else Tj [] l
def Kk(l:List Am):Bool:=decide (l.length<=1000000)&&je l fun s=>decide (s.2.2.2.1.length<=1000000)
def Iq(l:List Am)(n:Int):Bool:= !((decide (n<(l.length:Int))&&decide ((l.length:Int)<=256))||decide (260<(l.length:Int)))&&je l fun s=>decide (s.2.2.2.1.length<=20)
def iA(l:List Am):Prop:=l.length<=1000/\(l.map fun s=>s.2.1).Nodup
def U7(l:List Am):Bool:=@decide (iA l) (zu _)
theorem oL{l:List Am}(h:U7 l=true):iA l:=@w6 _ (zu _) h
theorem Nz{l:List Am}(h:iA l):U7 l=true:=@w4 _ (zu _) h
def LU(l:List Am):List Am:=if A2 l≠0 then[]else CQ l
def mG(s:Am):Rat:=((s.2.2.1-s.2.2.2.2.2:Int):Rat)-A8 s.2.2.2.1
def dfQ(s:Am):Rat:=rdQ (mG s*100/s.2.2.2.2.1) 10
def VF(s:Am):Al:=Sj (iF<|s.2.2.1-s.2.2.2.2.2)<|mI s.2.2.2.1
def dfF(s:Am):Al:=rdF (J5 (Hw (VF s)<|iF 100)<|iF s.2.2.2.2.1) 10
def Aay(s:Am):Int:=nS<|dfF s
def Aa3(s:Am):List Int:=nW<|dfF s
def Acg(s:Am):Int:=dS<|dfF s
def Abi(s:Am):List Int:=dW<|dfF s
def dfT(s:Am):Lv:=A5<|dfQ s
def uI(s:Am):Lv:=if DW s≠0 then[]else dfT s
def FY(h:List Am)(e b:Int)(w:List Am):Bool:=if b≠0 then decide (h=[])&&decide (e=b)else decide (e=0)&&decide (h=w)
def Mu(h:Lv)(e b:Int)(w:Lv):Bool:=if b≠0 then decide (h=[])&&decide (e=b)else decide (e=0)&&decide (h=w)
def U9(l:List Am):Bool:=decide (56*l.length<=140737488355328)
def HV(n:Int):List Am->Int->Int
 |[],_=> -1
 |s::l,i=>if s.2.1=n then i else HV n l<|i+1
def Di(l:List Am)(n:Int):Int:=HV n l 0
end Go.Sp
namespace Go.Pe
open Sp
open Go.Det
def NO:Ap:=⟨[Az],fun s=>decide (yh (α:=UInt8) (Prod.fst<|qx<|qx<|qx (s:Am))<=1000000),[i64],fun s=>DW s,false⟩
def Ku:Ap:=⟨[.list Az],fun l=>Kk l,[i64],fun l=>A2 l,false⟩
def VG:Ap:=⟨[.list Az],fun l=>decide (yh (α:=Am) l<=1000000),[.list Az],fun l=>CQ l,false⟩
def dP:Ap:=⟨[.list Az],fun l=>Kk l,[.list Az,i64],fun l=>(LU l,A2 l),false⟩
def RQ:Ap:=⟨[.list Az],fun l=>U7 l,[.list Az],fun l=>CQ l,false⟩
def Ab4:Ap:=⟨[Az],fun s=>decide (DW s=0),[A6],fun s=>((Aay s,Aa3 s),(Acg s,Abi s)),false⟩
def xK:Ap:=⟨[Az],fun s=>decide (yh (α:=UInt8) (Prod.fst<|qx<|qx<|qx (s:Am))<=1000000),[.str,i64],fun s=>(uI s,DW s),false⟩
def Abg:Ap:=⟨[Az],fun s=>decide (DW s=0),[.str],fun s=>Sp.dfT s,false⟩
def U2:Ap:=⟨[.list Az,i64],fun _=>true,[.bool],fun i=>Iq i.1 i.2,false⟩
def tJ:Ap:=⟨[.list Az],fun l=>U9 l,[.list Az],fun l=>l,false⟩
def Xa:Ap:=⟨[.list Az,.list Az],fun i=>decide (yh (α:=Am) i.1<=1000000),[.bool],fun i=>decide ((i.1:List Am)=i.2),false⟩
def Uj:Ap:=⟨[.list Az,i64,i64,.list Az],fun i=>decide (yh (α:=Am) i.1<=1000000),[.bool],fun i=>FY i.1 i.2.1 i.2.2.1 i.2.2.2,false⟩
def Ym:Ap:=⟨[.str,i64,i64,.str],fun _=>true,[.bool],fun i=>Mu i.1 i.2.1 i.2.2.1 i.2.2.2,false⟩
def gE:Ap:=⟨[.list Az,i64],fun i=>decide (yh (α:=Am) i.1<=1000000),[i64],fun i=>Di i.1 i.2,false⟩
def Ke:Ap:=⟨[.list Az,Az],fun i=>U9 i.1,[.bool],fun _=>true,false⟩
def AaG:AR:=X7 [(47,FE),(56,jX),(57,ZF)]
def jT:AR:=X7 [(47,FE),(48,Ks),(17,NO)]
def Lo:AR:=(X7 []).wr [(147,PE)]
def Aaw:AR:=X7 [(11,Ku),(49,VG)]
def Ab1:AR:=X7 [(79,cF),(77,jM),(83,tH),(78,Yq),(80,jE),(95,Abe)]
def Ab0:AR:=X7 [(17,NO),(54,Ab4),(55,cR)]
def AaW:AR:=X7 [(53,ZF)]
def Ux:AR:=X7 [(15,NO)]
def Aa0:AR:=X7 [(58,iY),(59,Wh),(60,Re),(61,Xo),(62,Yt)]
def AaT:AR:=X7 [(51,Xa)]
def xL:AR:=X7 [(8,RT),(7,tJ),(9,U2),(10,Ku),(11,Ku),(12,dP),(13,RQ),(14,Uj),(15,NO),(17,NO),(16,xK),(19,Abg),(18,Ym)]
section
open List Int Prod
namespace T3
def T(l:List Am)(s:Am):Tr:=tree xL false 9 3<|Ae ([zl Az,Az]) (l,s)
def tl(s:Am):Tr:=.ite (decide (length s.2.2.2.1<=1000000)) (.ite (decide (length s.2.2.2.1<=1000000)) (.ite (decide (length s.2.2.2.1<=1000000)) (.ite (DW s !=DW s) (.leaf (.bl false) [])<|.ite (DW s !=0) (.ite true (.leaf (.dat yv<|Mu (uI s) (DW s) (DW s) []) []) .fail)<|.ite (decide (DW s=0)) (.ite true (.leaf (.dat yv<|Mu (uI s) (DW s) 0<|Sp.dfT s) []) .fail) .fail) .fail) .fail) .fail
theorem Ai(l:List Am)(s:Am):T l s=let a:Tr:=.ck true<|.leaf (.dat yv true) [];let b':Tr:=.leaf (.bl false) [];let b:=decide (length (LU l)<=1000000);.ck (U9 l) (.ck true<|.ite false a<|.ck true<|.ite (!Iq l 30) a<|.di ((length s.2.2.2.1:Int)>20) a<|.ck (Kk l)<|.ck (Kk l)<|.ite (A2 l !=A2 l) b'<|.ck (Kk l)<|.ite (A2 l==0) (.ck (U7 l)<|.ck b<|.ite (!FY (LU l) (A2 l) (A2 l) (CQ l)) b'<|tl s)<|.ck b<|.ite (!FY (LU l) (A2 l) (A2 l) []) b'<|tl s):=by kernel_rfl
end T3
namespace T16
def T(s:Am):Tr:=tree Ab0 false 9 16<|Ae ([Az]) s
theorem Ai(s:Am):T s=let a:=((Aay s,Aa3 s),Acg s,Abi s);.cd (length s.2.2.2.1<=1000000) (.ite (DW s !=0) (.leaf (.tup [.dat qi [],.dat i64<|DW s]) [])<|.cd (DW s=0)<|.ck (Sp.Fc a)<|.leaf (.tup [.dat qi<|MH a,.dat i64 (0:Int)]) []):=by kernel_rfl
end T16
namespace T17
def T(s:Am):Tr:=tree AaG false 9 17<|Ae ([Az]) s
theorem Ai(s:Am):T s=.ck true (.ck true<|.ck true<|.ck (decide (length s.2.2.2.1<=1000000)&&aY 1&&aY 200)<|.ck true<|.ck true<|.ck (decide (6<=6)&&true&&decide (6<=1000000))<|.leaf (.dat i64<|z6 [ER s.1 0 99999,ER s.2.1 1 999999999,ER s.2.2.1 1 999,Ik s.2.2.2.1 1 200,ER s.2.2.2.2.1 55 155,ER s.2.2.2.2.2 (-5) 5]) []):=by kernel_rfl
end T17
namespace T11
def T(l:List Am):Tr:=tree jT false 9 11<|Ae ([zl Az]) l
def L1(a:List Am)(b c:Int)(d:List (Int×Bool)):Tr:=re ((T []).R)<|AB 33 [(3,PV.mp 0),(11,.dat (zl Az) a),(12,.dat i64 b),(13,.dat i64 c)] [(0,Obj.map i64 yv d)] 1
theorem Ai(l:List Am):T l=.di ((length l:Int)>256) (.leaf (.dat i64 (5:Int)) []) (L1 l ((length l:Int)) 0 []):=by kernel_rfl
theorem Ar(b:List Am)(c a:Int)(e:List (Int×Bool)):stepT jT (L1 b c a e)=let d:=getD b (toNat a) Dj;let b':=yu (D9 i64 yv (fst<|snd d) e) false;.di (a<c) (.ck (decide (0<=a)&&decide (a<(length b:Int)))<|.cd (length (fst<|snd<|snd<|snd d)<=1000000)<|.ck true<|.ck (decide (2<=2)&&true&&decide (2<=1000000))<|.ite (z6 [DW d,Hi b' 9] !=0) (.leaf (.dat i64<|z6 [DW d,Hi b' 9]) [])<|L1 b c (zh .i64<|a+1)<|JH i64 yv (fst<|snd d) true e) (.leaf (.dat i64 (0:Int)) []):=by kernel_rfl
end T11
namespace T49
def T(l:List Am):Tr:=tree Lo false 9 49<|Ae ([zl Az]) l
def L1(l v5:List Am)(a c:Int)(b:List Am):Tr:=re ((T l))<|AB 16 [(0,PV.yl 2),(5,.dat (zl Az) v5),(6,.dat i64 a),(7,.dat i64 c)] [(2,Obj.lp 221 3 (Abw (AR.C Lo) 221 3) (tF (AR.C Lo) 221 3) (kV (AR.C Lo) 221 3) LpS.ready 13 [(2,.ptr (zw 0 1) 0)]),(1,.box [.nil]),(0,.box [.dat (zl Az) b])] 3
theorem Ai(l:List Am):T l=L1 l l ((length l:Int)) 0 l:=by kernel_rfl
def L2(l v5:List Am)(b e:Int)(c:List Am)(a:Nat)(d:List Am):Tr:=re ((stepT Lo<|L1 l [] 0 0 []).L.L.L)<|AB 16 [(0,PV.yl 2),(5,.dat (zl Az) v5),(6,.dat i64 b),(7,.dat i64 e)] [(3,.arr false 25 Az c),(2,Obj.lp 221 3 (Abw (AR.C Lo) 221 3) (tF (AR.C Lo) 221 3) (kV (AR.C Lo) 221 3) LpS.ready 13 [(2,.ptr 1 0)]),(1,.box [.sl 3 6 0 a none]),(0,.box [.dat (zl Az) d])] 4
theorem Ar(l v5:List Am)(b a:Int)(c:List Am):stepT Lo (L1 l v5 b a c)=.di (a<b) (.ck (decide (0<=a)&&decide (a<(length v5:Int)))<|.ck (aa 56)<|L2 l v5 b (zh .i64<|a+1) ([(getD v5 (toNat a) Dj)]) 1 c) (.ck true<|.leaf .nil []):=by kernel_rfl
theorem AO(l v5:List Am)(d b:Int)(c:List Am)(a:Nat)(e:List Am):stepT Lo (L2 l v5 d b c a e)=.di (b<d) (.ck (decide (0<=b)&&decide (b<(length v5:Int)))<|.ck (ac a (length c) 56)<|L2 l v5 d (zh .i64<|b+1) (c++[(getD v5 (toNat b) Dj)]) (zw a 1) e) (.ck (sZ c&&decide (a=length c)&&true)<|.leaf (.sl 3 6 0 a none)<|[(3,.arr false (25:Go.TypeId) Az<|CQ c),(1,.box [.sl 3 6 0 a none]),(0,.box [.dat (zl Az) e])]):=by kernel_rfl
end T49
namespace T54
def T(s:Am):Tr:=tree Ab1 false 9 54<|Ae ([Az]) s
theorem Ai(s:Am):T s=let b':=((zh .i64<|s.2.2.1-s.2.2.2.2.2,Ct<|zh .i64<|s.2.2.1-s.2.2.2.2.2),1,Ct 1);let d:=((s.2.2.2.2.1,Ct s.2.2.2.2.1),1,Ct 1);let b:=mI s.2.2.2.1;let c:=Sh.nlist<|yi IntKind.u64;let f:=((100,Ct 100),1,Ct 1);let e:=Hw (Sj b' b) f;let a:=J5 e d;.ck true (.ck (JK s.2.2.2.1)<|.ck (qc b'&&qc b)<|.ck true<|.ck (qc (Sj b' b)&&qc f)<|.ck true<|.ck (qc e&&qc d&&decide (Sp.vI (s.2.2.2.2.1,Ct s.2.2.2.2.1)≠0))<|.ck (qL a 10)<|.leaf (PV.agg [.dat i64<|Ace a 10,.dat c<|Abl a 10,.dat i64<|AaU a 10,.dat c<|AbK a 10]) []):=by kernel_rfl
end T54
namespace T95
def T(a:Al)(p:Int):Tr:=tree Ach false 9 95<|Ae ([A6,yi zo]) (a,p)
theorem Ai(a:Al)(p:Int):T a p=let b':=J5 ((1,Ct 1),1,Ct 1) ((2,Ct 2),1,Ct 1);let c:=((p,Ct p),1,Ct 1);let d:=Sh.nlist<|yi IntKind.u64;let b:=JF (Hw a c) b';.ck true (.ck (qc a&&qc c)<|.ck true<|.ck true<|.ck true<|.ck (qc (Hw a c)&&qc b')<|.ck (qc b)<|.ck true<|.ck (J4 (Sp.flS b,Sp.flW b) (p,Ct p))<|.leaf (PV.agg [.dat i64<|cG (Sp.flS b,Sp.flW b) (p,Ct p),.dat d<|jO (Sp.flS b,Sp.flW b) (p,Ct p),.dat i64<|aZ (Sp.flS b,Sp.flW b) (p,Ct p),.dat d<|iH (Sp.flS b,Sp.flW b) (p,Ct p)]) []):=by kernel_rfl
end T95
namespace T57
def T(a:Z)(b h:Int):Tr:=tree Aar false 9 57<|Ae ([qi,yi zo,yi zo]) (a,b,h)
theorem Ai(a:Z)(b h:Int):T a b h=let c:=((b,Ct b),1,Ct 1);let b':=((h,Ct h),1,Ct 1);.cd (length a<=1000000) (.ite (BK a !=0) (.leaf (.dat i64<|BK a) [])<|.ck (JK a)<|.ck true<|.ck (Sp.Fc (mI a)&&Sp.Fc c)<|.di (PI (mI a) c<0) (.ck true<|.leaf (.dat i64<|Hi true 3) [])<|.ck true<|.ck (Sp.Fc (mI a)&&Sp.Fc b')<|.ck true<|.leaf (.dat i64<|Hi (decide (PI (mI a) b'>0)) 3) []):=by kernel_rfl
end T57
namespace T56
def T(n a h:Int):Tr:=tree AaH false 9 56<|Ae ([yi zo,yi zo,yi zo]) (n,a,h)
theorem Ai(n a h:Int):T n a h=.di (n<a) (.ck true<|.leaf (.dat i64<|Hi true 3) []) (.ck true<|.leaf (.dat i64<|Hi (decide (n>h)) 3) []):=by kernel_rfl
end T56
namespace T48
def T(c:Bool)(e:Int):Tr:=tree CS false 9 48<|Ae ([yv,yi zo]) (c,e)
theorem Ai(c:Bool)(e:Int):T c e=.ite c (.leaf (.dat i64 e) []) (.leaf (.dat i64 (0:Int)) []):=by kernel_rfl
end T48
namespace T47
def T(l:List Int):Tr:=tree CS false 9 47<|Ae ([zl i64]) l
def L1(v5:List Int)(a b:Int):Tr:=re ((T []))<|AB 15 [(5,.dat (zl i64) v5),(6,.dat i64 a),(7,.dat i64 b)] [] 0
theorem Ai(l:List Int):T l=L1 l ((length l:Int)) 0:=by kernel_rfl
theorem Ar(v5:List Int)(b a:Int):stepT CS (L1 v5 b a)=.di (a<b) (.ck (decide (0<=a)&&decide (a<(length v5:Int)))<|.ite (getD v5 (toNat a) 0 !=0) (.leaf (.dat i64<|getD v5 (toNat a) 0) [])<|L1 v5 b<|zh .i64<|a+1) (.leaf (.dat i64 (0:Int)) []):=by kernel_rfl
end T47
end
end Go.Pe
namespace Go.Sp
theorem fC(n:Int):Gj (rN n,rW n)=A5 ((n:Int):Rat):=by rw[KV,Qv]
theorem Ol{n:Int}{k:Nat}(h:n.natAbs<10^k)(a:1<=k):Nu k (A5 (n:Rat)) (n:Rat):=by
 have b:10^1<=10^k:=yf af a;refine⟨rfl,?_,?_⟩
 ·rw[qt];exact h
 ·rw[Rat.den_intCast];omega
theorem Nu.nz{k:Nat}{s:Z}{q:Rat}(h:Nu k s q)(a:k<=1400)(h0:q≠0):Z3 s=true:=zN (h.GK a) fun e=>h0 ((h.K1 ae).1 e)
theorem JC{a:Lv}{c b:Int}(h:BK a=0):Ik a c b=if A8 a<(c:Rat)\/(b:Rat)<A8 a then 3 else 0:=by
 unfold Ik;rw[wc<|by rw[h];decide]
theorem N1{a:Lv}{b c:Int}(h:BK a≠0):Ik a b c=BK a:=by
 unfold Ik;rw[wd h]
theorem S2{n:Int}(h:aY n=true):n.natAbs<10^6:=by
 unfold aY at h;rw[zf,w5,w5]at h;have:(10:Nat)^6=1000000:=rfl;omega
theorem Nu.Gz{k:Nat}{s:Z}{q:Rat}(h:Nu k s q):Nu k (Gz s) (q.floor:Rat):=⟨by unfold Sp.Gz;rw[h.rat,Qv],PB h.z⟩
theorem Oq:∀ {l:List Int},first l=0->∀x∈l,x=0
 |[],_,x,a=>by cases a
 |y::l,h,x,a=>by
  unfold first at h
  split at h
  ·next c=>exact wh h c
  ·next c=>
   rcases ye.1 a with rfl|a
   ·exact qh.1 c
   ·exact Oq h x a
theorem nK{a:Lv}{e b:Int}(h:Ik a e b=0):BK a=0/\(e:Rat)<=A8 a/\A8 a<=(b:Rat):=by
 by_cases c:BK a=0
 ·rw[JC c]at h;split at h
  ·cases h
  ·next d=>
   rw[not_or,qp,qp]at d;exact⟨c,d⟩
 ·rw[N1 c]at h;exact wh h c
theorem Lz{n a b:Int}(h:ER n a b=0):a<=n/\n<=b:=by
 unfold ER at h;split at h
 ·cases h
 ·omega
end Go.Sp
namespace Go.Pe
open Sp
open Go.Det
open Go.Sp (Al)
theorem vB:RS 3 (J5 (yj 1)<|yj 2) (1/2):=by
 have o:RS 1 (yj 1) ((1:Int):Rat):=EX af af af;have t:RS 1 (yj 2) ((2:Int):Rat):=EX af af af;have d:=o.div t af af (by decide+kernel);have e:((1:Int):Rat)/((2:Int):Rat)=1/2:=by decide+kernel
 rw[e]at d;exact d.mono af
structure Rnd(k:Nat)(a:Al)(q:Rat)(p:Int):Prop where
 P:RS 2 (yj p) (p:Rat)
 m:RS (k+2) (Hw a (yj p)) (q*p)
 s:RS (k+6) (JF (Hw a (yj p)) (J5 (yj 1) (yj 2))) (q*p+1/2)
 j:Bd (Sp.rdN a p)=true
 v:Sp.vI (Sp.rdN a p)=pH (q*p)
 om:J4 (Sp.rdN a p) (p,Ct p)=true
 r:RS (k+10) (Sp.rdF a p) (Sp.rdQ q p)
theorem uQ{k:Nat}{a:Al}{q:Rat}{p:Int}(h:RS k a q)(f:k<=3000)(d:1<=p)(e:p<=10):Rnd k a q p:=by
 have P:RS 2 (yj p) (p:Rat):=EX ae af af;have m:=h.mul P ae af;have s:=m.add vB ae af;obtain⟨b,c⟩:=ZZ s.r s.z ae;have i:Ca p=true:=ad ae ae;obtain⟨b1,b2⟩:=S1 i;have p0:(p:Rat)≠0:=fun x=>by have:=z7.1 x;omega
 have j:Bd (Sp.rdN a p)=true:=b;have v:Sp.vI (Sp.rdN a p)=pH (q*p):=c;refine⟨P,m,s.mono ae,j,v,Ab (Ab j b1) (w4<|by rw[b2];omega),?_,?_⟩
 ·have r:=Li j b1 (by rw[b2];omega);rw[b2,v,Rat.divInt_eq_div]at r;exact r
 ·exact((PB s.z).div P.z p0).mono ae
open Go.Sp (Al Lv)
theorem Dy:Dn CS:=fun g sp h=>by cases h
namespace T47
theorem loop{Q:PV->Ob->Prop}(l:List Int)(f:l.length<=1000000)(a:∀ob,Q (.dat i64<|z6 l) ob):∀(r:List Int) (i:Nat),l.drop i=r->i<=l.length->z6 l=z6 r->Ends CS (L1 l ((l.length:Int)) (i:Int)) Q
 |[],i,h,c,e=>by
  have o:=drop_nil h c;refine zi (Ar ..) (zr (w8 ae)<|zd ?_);rw[e]at a;exact a _
 |x::r,i,h,c,e=>by
  obtain⟨g,j,n⟩:=drop_cons (d:=0) h;refine zi (Ar ..) ?_;conv=>zeta
  have m:=wn (i:=i) ae;rw[m,zj,j];refine zc (w4 ae) (zc (ad ae ae) ?_);by_cases b:x=0
  ·subst b;refine zr rfl (loop l f a r (i+1) n g ?_);rw[e];rfl
  ·have ex:z6 (x::r)=x:=by unfold z6;rw[wd b]
   refine zc (by simpa using b)<|zd ?_;rw[e,ex]at a;exact a _
theorem ok:Af A9 47 FE:=by
 refine BM Dy<|fun(l:List Int) hl=>?_;exact zk (Ai l)<|loop l (w6 hl) (fun ob=>zp rfl rfl rfl) l 0 rfl (z8 _) rfl
end T47
theorem T48.ok:Af A9 48 Ks:=by
 refine BM Dy<|fun⟨c,e⟩ _=>?_;refine zk (T48.Ai c e)<|ze (fun h=>zd<|zp rfl rfl ?_)<|fun h=>zd<|zp rfl rfl ?_
 ·show e=Hi c e;rw[h];rfl
 ·show(0:Int)=Hi c e;rw[h];rfl
theorem T136.ok:Af A9 136 Uz:=T136n.ok
theorem kK:Dn Ach:=Aa T78.ok<|Aa T79.ok<|Aa T80.ok<|Aa T82.ok<|Aa T155.ok<|Aa T136.ok<|Aa T134.ok AP
theorem T95.ok:Af A9 95 Abe:=by
 refine BM kK<|fun(i:Al×Int) hi=>?_;obtain⟨a,p⟩:=i;obtain⟨⟨q,h⟩,p1,p2⟩:=mQ hi;have R:=uQ h af p1 p2;have o:RS 1 (yj 1) ((1:Int):Rat):=EX af af af;have t:RS 1 (yj 2) ((2:Int):Rat):=EX af af af;exact zk (T95.Ai a p) (zc rfl (zc (h.ok2 R.P af af)<|zc rfl (zc rfl (zc (o.ok3 t af af<|by decide+kernel)<|zc (R.m.ok2 vB af af)<|zc (R.s.DD af)<|zc rfl (zc R.om<|zd<|zp rfl rfl rfl)))))
theorem lQ:Dn Aar:=Aa T86.ok<|Aa T77.ok<|Aa T79.ok<|Aa T89.ok<|Aa T48.ok AP
theorem T57.ok:Af A9 57 ZF:=by
 refine BM lQ<|fun(i:Lv×Int×Int) g=>?_;obtain⟨a,f,h⟩:=i;have g:(decide (a.length<=1000000)&&aY f&&aY h)=true:=g;rw[zf,zf,w5]at g;obtain⟨⟨hl,h1⟩,h2⟩:=g;have j:∀e ob,e=Ik a f h->Ad ZF (a,f,h) (.dat i64 e) ob:=fun e ob x=>zp rfl rfl x
 have L:=EX (n:=f) (S2 h1) af af;have H:=EX (n:=h) (S2 h2) af af;refine zk (T57.Ai a f h)<|zc (w4 hl)<|ze (fun c=>zd<|j _ _ ?_)<|fun c=>?_
 ·have c:BK a≠0:=by simpa using c
  exact(N1 c).symm
 ·have c:BK a=0:=by simpa using c
  obtain⟨o1,m⟩:=dC c;have A:=cY c;refine zc m (zc rfl (zc (Ab o1<|L.Fc af)<|ze (fun d=>zc rfl (zd<|j _ _ ?_))<|fun d=>zc rfl (zc (Ab o1<|H.Fc af)<|zc rfl (zd<|j _ _ ?_))))
  ·rw[JC c,wd<|.inl<|(A.fK L).1<|w6 d];rfl
  ·have d:=w7 d;rw[JC c];by_cases e:PI (mI a) ((h,Ct h),(1,Ct 1))>0
   ·rw[wd<|.inr<|(A.bW H).1 e];exact wi (fun b=>Hi b 3)<|w4 e
   ·rw[wc<|not_or.2 ⟨fun x=>d<|(A.fK L).2 x,fun x=>e<|(A.bW H).2 x⟩];exact wi (fun b=>Hi b 3)<|w8 e
theorem jZ:Dn AaH:=Aa T48.ok AP
theorem T56.ok:Af A9 56 jX:=by
 refine BM jZ<|fun(i:Int×Int×Int) _=>?_;obtain⟨n,a,h⟩:=i;have b:∀e ob,e=ER n a h->Ad jX (n,a,h) (.dat i64 e) ob:=fun e ob x=>zp rfl rfl x
 refine zk (T56.Ai n a h)<|ze (fun c=>zc rfl (zd<|b _ _ ?_))<|fun c=>zc rfl (zd<|b _ _ ?_)
 ·unfold ER;rw[wd<|.inl<|w6 c];rfl
 ·have c:=w7 c;unfold ER Hi;by_cases d:h<n
  ·rw[wd<|.inr d,w4 ae];rfl
  ·rw[wc ae,w8 ae];rfl
theorem M8:((100:Int):Rat)=100:=rfl
end Go.Pe
namespace Go.Sp
theorem QC:∀ {l:List Am} {seen:List Int},Tj seen l=0->(∀x∈l,DW x=0/\x.2.1∉seen)/\(l.map fun s=>s.2.1).Nodup
 |[],_,_=>⟨fun x i=>(by cases i),List.nodup_nil⟩
 |x::r,seen,h=>by
  rw[Tj]at h;split at h
  ·next d=>exact wh h d
  next d=>
  split at h
  ·cases h
  next g=>
  obtain⟨f,i2⟩:=QC h;refine⟨fun y c=>?_,?_⟩
  ·rcases ye.1 c with rfl|c
   ·exact⟨qh.1 d,g⟩
   ·obtain⟨a,b⟩:=f y c;exact⟨a,fun k=>b<|List.mem_append_left _ k⟩
  ·rw[yw];refine List.nodup_cons.2 ⟨fun k=>?_,i2⟩;obtain⟨y,c,e⟩:=List.mem_map.1 k;exact(f y c).2 (by rw[<-e];exact List.mem_append_right _<|qd.2 rfl)
theorem Cn{l:List Am}(h:A2 l=0):l.length<=256/\(∀x∈l,DW x=0)/\(l.map fun s=>s.2.1).Nodup:=by
 unfold A2 at h;split at h
 ·cases h
 next c=>
 obtain⟨a,b⟩:=QC h;exact⟨by omega,fun x d=>(a x d).1,b⟩
theorem gA{l:List Am}(h:A2 l=0):iA l:=by
 obtain⟨a,_,b⟩:=Cn h;exact⟨by omega,b⟩
theorem Y6{l u v:List Am}(o:(l.map fun s=>s.2.1).Nodup)(f:u.Perm l)(g:v.Perm l)(p:u.Pairwise fun a b=>¬De b a)(q:v.Pairwise fun a b=>¬De b a):u=v:=by
 refine List.Perm.eq_of_pairwise (le:=fun a b=>¬De b a) (fun a b d c m n=>?_) p q<|f.trans g.symm;have e:a.2.1=b.2.1:=by unfold De at m n;omega
 have d:=f.mem_iff.1 d;have c:=g.mem_iff.1 c;obtain⟨i,h,rfl⟩:=yp d;obtain⟨j,hj,rfl⟩:=yp c;by_cases k:i=j
 ·subst k;rfl
 ·exfalso;have:=(qe.1 o);rcases Nat.lt_or_gt_of_ne k with k|k
  ·exact this i j (by simpa using h) (by simpa using hj) k (by simpa using e)
  ·exact this j i (by simpa using hj) (by simpa using h) k (by simpa using e.symm)
theorem Wz{l u:List Am}(e:(l.map fun s=>s.2.1).Nodup)(c:u.Perm l)(d:u.Pairwise fun a b=>¬De b a):u=CQ l:=Y6 e c (Go.Pe.ZW l) d<|Go.Pe.nF l
structure AbI(s:Am):Prop where
 g:1<=s.2.2.1/\s.2.2.1<=999
 c:BK s.2.2.2.1=0
 r1:(1:Rat)<=A8 s.2.2.2.1
 r2:A8 s.2.2.2.1<=200
 sl:55<=s.2.2.2.2.1/\s.2.2.2.2.1<=155
 kd: -5<=s.2.2.2.2.2/\s.2.2.2.2.2<=5
theorem Sc{s:Am}(h:DW s=0):AbI s:=by
 have z:=Oq h;have g:=Lz<|z _<|zg _<|zg _<|zy ..;obtain⟨r1,r2,a⟩:=nK<|z _<|zg _<|zg _<|zg _<|zy ..;have s1:=Lz<|z _<|zg _<|zg _<|zg _<|zg _<|zy ..;have b:=Lz<|z _<|zg _<|zg _<|zg _<|zg _<|zg _<|zy ..;exact⟨g,r1,r2,a,s1,b⟩
end Go.Sp
namespace Go.Pe
open Sp
open Go.Det
open Go.Sp (Al Am Lv)
theorem N8{s:Sh}{sz:Nat}(b:s.sz=sz){id n:Nat}{tail:Ob}{fz:Bool}{t:TypeId}{o:List s.T}(g:n=o.length):MN [.list s] (.sl id sz 0 n none) ((id,.arr fz t s o)::tail)=some (true,o):=by
 subst g b;have e:AM ((id,Obj.arr fz t s o)::tail) id=some (.arr fz t s o):=by unfold AM;rw[Nat.beq_refl];rfl
 show GZ ⟨0,.leaf,(id,.arr fz t s o)::tail,0⟩ (.list s) (.sl id s.sz 0 o.length none)=some (true,o);unfold GZ;have f:Dr ⟨0,.leaf,(id,.arr fz t s o)::tail,0⟩ (PV.cells<|.sl id s.sz 0 o.length none)=some (true,[.dat (.list s) o]):=by
  show(match Cb ⟨0,.leaf,(id,.arr fz t s o)::tail,0⟩ (.sl id s.sz 0 o.length none),some (true,[])with|some (c,x),some (d,a)=>some (c&&d,x::a)|_,_=>none)=_;have:Cb ⟨0,.leaf,(id,.arr fz t s o)::tail,0⟩ (.sl id s.sz 0 o.length none)=some (true,.dat (.list s) o):=by
   unfold Cb AI.obj;simp only[e,Nat.beq_refl,we];simp
  rw[this];rfl
 simp only[M0,Sh.MZ];show(match Dr ⟨0,.leaf,(id,.arr fz t s o)::tail,0⟩ (PV.cells<|.sl id s.sz 0 o.length none)with|some (c,cs)=>_|none=>none)=_;rw[f];have:Dg (.list s) [PV.dat (.list s) o]=some o:=by
  unfold Dg Cj nB Eg;simp
 simp only[V0,this,yq]
theorem lX:Dn AaG:=Aa T47.ok<|Aa T56.ok<|Aa T57.ok AP
theorem T17.ok:Af A9 17 NO:=by
 refine BM lX<|fun(s:Am) a=>?_;have a:decide (s.2.2.2.1.length<=1000000)=true:=a;exact zk (T17.Ai s)<|zc rfl (zc rfl (zc rfl (zc (Ab (Ab a rfl) rfl)<|zc rfl (zc rfl (zc rfl (zd<|zp rfl rfl rfl))))))
theorem cJ:Dn jT:=Aa T47.ok<|Aa T48.ok<|Aa T17.ok AP
theorem VQ{l:List Am}(h:Kk l=true):l.length<=1000000/\∀s∈l,s.2.2.2.1.length<=1000000:=by
 unfold Kk at h;rw[zf,w5,qk]at h;exact⟨h.1,fun s a=>w6<|h.2 s a⟩
namespace T11
theorem loop(l:List Am)(z:l.length<=256)(n:∀s∈l,s.2.2.2.1.length<=1000000):∀(r:List Am) (i:Nat) (m:List (Int×Bool)),l.drop i=r->i<=l.length->Qh m (fun y=>y∈(l.take i).map fun s=>s.2.1)->(∀ob,Q (.dat i64<|Tj ((l.take i).map fun s=>s.2.1) r) ob)->Ends jT (L1 l (l.length:Int) i m) Q
 |[],i,m,h,p,g,a=>by
  have:=drop_nil h p;exact zi (Ar ..) (zr (w8 ae)<|zd<|a _)
 |x::r,i,m,h,p,g,a=>by
  obtain⟨j,o,u⟩:=drop_cons (d:=Dj) h;have t:=n x (List.mem_of_mem_drop (i:=i)<|by rw[h];exact zy ..);have q:=wn (i:=i) ae;refine zi (Ar ..) ?_;conv=>zeta
  rw[q,zj,o];have b:(D9 (.int .i64) .bool x.2.1 m).getD false=decide (x.2.1∈(l.take i).map fun s=>s.2.1):=by
   rw[qu,w5];exact g x.2.1
  have e:(l.take<|i+1).map (fun s=>s.2.1)=(l.take i).map (fun s=>s.2.1)++[x.2.1]:=by
   rw[zx j,qv];have:l[i]=x:=by rw[<-o];simp[j]
   rw[this];rfl
  refine zc (w4 ae) (zc (ad ae ae)<|zc (w4 t)<|zc rfl (zc rfl ?_));show Ends jT (.ite (z6 [DW x,Hi ((D9 (.int .i64) .bool x.2.1 m).getD false) 9] !=(0:Int)) (.leaf (.dat i64<|z6 [DW x,Hi ((D9 (.int .i64) .bool x.2.1 m).getD false) 9]) _) _) Q;rw[b];unfold Tj at a;by_cases c:DW x≠0
  ·rw[wd c]at a;have f:z6 [DW x,Hi (decide (x.2.1∈(l.take i).map fun s=>s.2.1)) 9]=DW x:=by unfold z6;rw[wd c]
   rw[f];exact zc (by simpa using c)<|zd<|a _
  ·have v:DW x=0:=qh.1 c;rw[wc c]at a;rw[v];by_cases d:x.2.1∈(l.take i).map fun s=>s.2.1
   ·rw[wd d]at a;rw[w4 d];exact zc rfl (zd<|a _)
   ·rw[wc d]at a;rw[w8 d];refine zr rfl (loop l z n r (i+1) _ u j ((g.add x.2.1).congr fun y=>?_)<|by rw[e];exact a);rw[e,yd,qd];exact or_comm
theorem ok:Af A9 11 Ku:=by
 refine BM cJ<|fun(l:List Am) hl=>?_;obtain⟨_,b⟩:=VQ hl;have a:∀v ob,v=A2 l->Ad Ku l (.dat i64 v) ob:=fun v ob e=>zp rfl rfl e
 unfold A2 at a;refine zk (Ai l)<|ze (fun c=>zd<|a _ _ ?_)<|fun c=>?_
 ·have c:=w6 c;rw[wd ae]
 ·have c:=w7 c;refine loop l ae b l 0 [] rfl (z8 _) (Qh.nil.congr (by simp)) (fun ob=>a _ ob ?_);rw[wc ae];rfl
end T11
theorem sS:∀g w,Lo.ws g=some w->Fi A9 g w:=X5 (l:=[(147,PE)]) fun x a=>by
 cases qd.1 a;exact ZX
theorem eG:Dn Lo:=fun g sp h=>by cases h
namespace T49
variable {Q:PV->Ob->Prop}{k l:List Am}
theorem loop(b:l.length<=1000000)(a:∀ob,Q (.sl 3 6 0 (CQ l).length none) ((3,Obj.arr false 25 Az<|CQ l)::ob)):∀(r:List Am) (i:Nat) (o:List Am),l.drop i=r->i<=l.length->o.length=i->o++r=l->Ends Lo (L2 k l (l.length:Int) (i:Int) o o.length l) Q
 |[],i,o,h,f,c,e=>by
  have q:=drop_nil h f;rw[List.append_nil]at e;subst e;refine zi (AO ..) (zr (w8 ae)<|zc (Ab (Ab (w4 b)<|w4 rfl) rfl)<|zd ?_);have a:=a [(1,Obj.box [PV.sl 3 6 0 o.length none]),(0,Obj.box [PV.dat (zl Az) o])];rw[C2]at a;exact a
 |x::r,i,o,h,f,c,e=>by
  obtain⟨g,j,p⟩:=drop_cons (d:=Dj) h;have n:=wn (i:=i) ae;have cap:(decide ((1:Nat)<=(1:Nat))&&true&&decide (o.length=o.length)&&decide ((3*(o.length+1)+2000)*56<=562949953421312))=true:=by
   rw[w4 (show(1:Nat)<=1 by omega),w4 rfl,w4 ae];rfl
  refine zi (AO ..) ?_;conv=>zeta
  rw[n,zj,j];refine zc (w4 ae) (zc (ad ae ae)<|zc cap ?_);have nx:=loop b a r (i+1) (o++[x]) p g (by simp[c]) (by rw[<-e];simp);have m:(o++[x]).length=zw o.length 1:=by simp
  rw[m]at nx;exact nx
theorem ok:Af A9 49 VG:=by
 refine Lq (X:=Lo) rfl eG (d:=9) ag ag ag (fun(l:List Am) a=>?_) (Bn ag) sS;have a:l.length<=1000000:=w6 a;refine zk (Ai l)<|zi (Ar ..) ?_;cases l with
 |nil=>exact zr rfl (zc rfl (zd<|zp rfl rfl (ql.1<|C2 []).symm))
 |cons x t=>
  refine zc (w4<|by simp only[zq];omega) (zc (Ab rfl (w4<|by simp only[zq];omega))<|zc rfl ?_);exact loop (k:=x::t) a (fun ob=>zp (N8 rfl rfl) rfl rfl) t 1 [x] rfl (by simp) rfl rfl
end T49
theorem kC:Dn Ab1:=Aa T79.ok<|Aa T77.ok<|Aa T83.ok<|Aa T78.ok<|Aa T80.ok<|Aa T95.ok AP
structure Dif(s:Am):Prop where
 A:RS 5 (yj (s.2.2.1-s.2.2.2.2.2)) ((s.2.2.1-s.2.2.2.2.2:Int):Rat)
 B:RS 600 (mI s.2.2.2.1) (A8 s.2.2.2.1)
 o:RS 606 (VF s) (mG s)
 m:RS 610 (Hw (VF s) (yj 100)) (mG s*100)
 d:RS 620 (J5 (Hw (VF s) (yj 100)) (yj s.2.2.2.2.1)) (mG s*100/s.2.2.2.2.1)
 r:RS 640 (Sp.dfF s) (Sp.dfQ s)
theorem mC{s:Am}(h:AbI s):Dif s:=by
 have g:=h.g;have kd:=h.kd;have sl:=h.sl;have A:RS 5 (yj<|s.2.2.1-s.2.2.2.2.2) ((s.2.2.1-s.2.2.2.2.2:Int):Rat):=EX ae af af;have B:RS 600 (mI s.2.2.2.1) (A8 s.2.2.2.1):=⟨Ow (FV h.c).1,(FV h.c).2⟩;have H:RS 3 (yj 100) ((100:Int):Rat):=EX af af af;have S:RS 3 (yj s.2.2.2.2.1) (s.2.2.2.2.1:Rat):=EX ae af af;have h0:(s.2.2.2.2.1:Rat)≠0:=fun x=>by have:=z7.1 x;omega
 have o:RS 606 (VF s) (mG s):=(A.sub B af af).mono af;have m:RS 610 (Hw (VF s)<|yj 100) (mG s*100):=by
  have:=(o.mul H af af).mono (show _<=610 by decide);rw[M8]at this;exact this
 have d:RS 620 (J5 (Hw (VF s)<|yj 100)<|yj s.2.2.2.2.1) (mG s*100/s.2.2.2.2.1):=(m.div S af af h0).mono af;exact⟨A,B,o,m,d,(uQ (p:=10) d af af af).r.mono af⟩
theorem T54.ok:Af A9 54 Ab4:=by
 refine BM kC<|fun(s:Am) hs=>?_;have k:=Sc<|w6 hs;have D:=mC k;have g:=k.g;have kd:=k.kd;have sl:=k.sl;have H:RS 3 (yj 100) ((100:Int):Rat):=EX af af af;have S:RS 3 (yj s.2.2.2.2.1) (s.2.2.2.2.1:Rat):=EX ae af af;have h0:(s.2.2.2.2.1:Rat)≠0:=fun x=>by have:=z7.1 x;omega
 have a:zh .i64 (s.2.2.1-s.2.2.2.2.2)=s.2.2.1-s.2.2.2.2.2:=wr _ ae ae;refine zk (T54.Ai s) ?_;conv=>zeta
 rw[a];exact zc rfl (zc (dC k.c).2<|zc (D.A.ok2 D.B af af)<|zc rfl (zc (D.o.ok2 H af af)<|zc rfl (zc (D.m.ok3 S af af h0)<|zc (qV ⟨⟨_,D.d.mono af⟩,by decide,by decide⟩)<|zd<|zp rfl rfl rfl)))
open Go.Sp (Am)
theorem cV:Dn Ab0:=Aa T17.ok<|Aa T54.ok<|Aa T55.ok AP
theorem T16.ok:Af A9 16 xK:=by
 refine BM cV<|fun(s:Am) a=>?_;have a:decide (s.2.2.2.1.length<=1000000)=true:=a;have b:∀v e ob,(v,e)=(uI s,DW s)->Ad xK s (.tup [.dat .str v,.dat i64 e]) ob:=fun v e ob h=>zp rfl rfl h
 refine zk (T16.Ai s)<|zc a<|ze (fun c=>zd<|b _ _ _ ?_)<|fun c=>?_
 ·have c:DW s≠0:=by simpa using c
  unfold uI;rw[wd c]
 ·have c:DW s=0:=by simpa using c
  have D:=mC<|Sc c;refine zc (w4 c) (zc (D.r.Fc af)<|zd<|b _ _ _ ?_);unfold uI Sp.dfT;rw[c,wc af, <-iR D.r.r];rfl
section
open List Int Prod
namespace T15
def T(s:Am):Tr:=tree AaW false 9 15<|Ae ([Az]) s
theorem Ai(s:Am):T s=let a:Tr:=.leaf (.dat i64 (3:Int)) [];let b':Tr:=.leaf (.dat i64<|Ik s.2.2.2.1 1 200) [];.di (s.1<0) a (.di (s.1>99999) a<|.di (s.2.1<1) a<|.di (s.2.1>999999999) a<|.di (s.2.2.1<1) a<|.di (s.2.2.1>999) a<|.ck (decide (length s.2.2.2.1<=1000000)&&aY 1&&aY 200)<|.ite (Ik s.2.2.2.1 1 200==0) (.di (s.2.2.2.2.1<55) a<|.di (s.2.2.2.2.1>155) a<|.di (s.2.2.2.2.2<(-5)) a<|.di (s.2.2.2.2.2>5) a b') b'):=by kernel_rfl
end T15
namespace T10
def T(l:List Am):Tr:=tree Ux false 9 10<|Ae ([zl Az]) l
def L1(v0:List Am)(v3:Int):Tr:=re ((T []).R)<|AB 39 [(0,.dat (zl Az) v0),(3,.dat i64 v3)] [] 0
theorem Ai(l:List Am):T l=.di ((length l:Int)>256) (.leaf (.dat i64 (5:Int)) []) (L1 l 0):=by kernel_rfl
def L2(v0:List Am)(v3 v5:Int):Tr:=re ((stepT Ux<|L1 [] 0).L.L.L.R)<|AB 39 [(0,.dat (zl Az) v0),(3,.dat i64 v3),(5,.dat i64 v5)] [] 0
theorem Ar(v0:List Am)(v3:Int):stepT Ux (L1 v0 v3)=let a:=getD v0 (toNat v3) Dj;let b':=decide (v3<(length v0:Int));.ite b' (.ck (decide (0<=v3)&&b')<|.cd (length (fst<|snd<|snd<|snd a)<=1000000)<|.ite (DW a !=0) (.leaf (.dat i64<|DW a) [])<|L2 v0 v3 0) (.leaf (.dat i64 (0:Int)) []):=by kernel_rfl
theorem AO(v0:List Am)(v3 v5:Int):stepT Ux (L2 v0 v3 v5)=.di (v5<v3) (.ck (decide (0<=v5)&&decide (v5<(length v0:Int)))<|.ck (decide (0<=v3)&&decide (v3<(length v0:Int)))<|.ite (fst (snd<|getD v0 (toNat v5) Dj)==fst (snd<|getD v0 (toNat v3) Dj)) (.leaf (.dat i64 (9:Int)) [])<|L2 v0 v3<|zh .i64<|v5+1) (L1 v0<|zh .i64<|v3+1):=by kernel_rfl
end T10
namespace T9
def T(l:List Am)(n:Int):Tr:=tree CS false 9 9<|Ae ([zl Az,yi zo]) (l,n)
def L1(v0:List Am)(v5:Int):Tr:=re ((T [] 0).L.R.R)<|AB 33 [(0,.dat (zl Az) v0),(5,.dat i64 v5)] [] 0
theorem Ai(l:List Am)(n:Int):T l n=let b':=(length l:Int);let a:Tr:=.di (b'>260) (.leaf (.bl false) [])<|L1 l 0;.di (b'>n) (.di (b'<=256) (.leaf (.bl false) []) a) a:=by kernel_rfl
theorem Ar(v0:List Am)(v5:Int):stepT CS (L1 v0 v5)=let a:=decide (v5<(length v0:Int));.ite a (.ck (decide (0<=v5)&&a)<|.di ((↑(length<|fst<|snd<|snd<|snd<|getD v0 (toNat v5) Dj):Int)>20) (.leaf (.bl false) [])<|L1 v0<|zh .i64<|v5+1) (.leaf (.bl true) []):=by kernel_rfl
end T9
namespace T13
def T(l:List Am):Tr:=tree CS false 9 13<|Ae ([zl Az]) l
def L1(v0:List Am)(v4:Int):Tr:=re ((T []))<|AB 46 [(0,.dat (zl Az) v0),(3,.nil),(4,.dat i64 v4)] [] 0
theorem Ai(l:List Am):T l=L1 l 0:=by kernel_rfl
def L2(v0:List Am)(v4 v5:Int):Tr:=re ((stepT CS<|L1 [] 0).L)<|AB 46 [(0,.dat (zl Az) v0),(3,.nil),(4,.dat i64 v4),(5,.dat i64 v5)] [] 0
theorem Ar(v0:List Am)(v4:Int):stepT CS (L1 v0 v4)=.di (v4<(length v0:Int)) (L2 v0 v4 0) (.leaf .nil []):=by kernel_rfl
def L3(v0:List Am)(a:Nat)(v4:Int)(b:List Am):Tr:=re ((stepT CS<|L2 [] 0 0).R.L.L.L.L.L.L)<|AB 46 [(0,.dat (zl Az) v0),(3,.sl 0 6 0 a none),(4,.dat i64 v4)] [(0,.arr false 38 Az b)] 1
theorem AO(v0:List Am)(v4 v5:Int):stepT CS (L2 v0 v4 v5)=let a:=decide (0<=v4)&&decide (v4<(length v0:Int));let b':=getD v0 (toNat v4) Dj;.di (v5>0) (.ck a .fail) (.ck (decide (0<=v5)&&decide (0<=toNat v5)&&decide (toNat v5<=0))<|.ck a<|.ck (decide (0<=v5)&&true&&decide (toNat v5<=0)&&true)<|.ck true<|.ck (decide (1<=1)&&true&&true&&decide ((3*(0+1)+2000)*56<=562949953421312))<|.ck (decide (zw 0 1=length ([]++[]++[b']))&&decide ((3*zw 0 1+2000)*56<=562949953421312))<|L3 v0 1 (zh .i64<|v4+1)<|[]++[]++[b']++[]):=by kernel_rfl
def L4(v0:List Am)(a:Nat)(v4 v5:Int)(b:List Am):Tr:=re ((stepT CS<|L3 [] 0 0 []).L)<|AB 46 [(0,.dat (zl Az) v0),(3,.sl 0 6 0 a none),(4,.dat i64 v4),(5,.dat i64 v5)] [(0,.arr false 38 Az b)] 1
theorem Cr(v0:List Am)(a:Nat)(v4:Int)(b:List Am):stepT CS (L3 v0 a v4 b)=.di (v4<(length v0:Int)) (L4 v0 a v4 ((↑a:Int)) b) (.leaf (.sl 0 6 0 a none)<|[(0,.arr false 38 Az b)]):=by kernel_rfl
def ins(v0:List Am)(a:Nat)(v4 v5:Int)(b:List Am):Tr:=.ite (decide (0<=v5)&&true&&decide (0<=toNat v5)&&decide (toNat v5<=yu none a)&&decide (yu none a<=yu none a)&&true) (.ite (decide (0<=v4)&&decide (v4<(length v0:Int))) (.ite (decide (0<=v5)&&true&&true&&decide (toNat v5<=a)&&decide (a<=yu none a)&&decide (yu none a<=yu none a)&&true) (.ite (decide (0+toNat v5<=length b)&&true&&true&&decide ((3*(0+length (take (toNat v5) b))+2000)*56<=562949953421312)) (.ite (decide (1<=1)&&true&&decide (zw 0 (length<|take (toNat v5) b)=length ([]++take (toNat v5) b))&&decide ((3*(zw 0 (length<|take (toNat v5) b)+1)+2000)*56<=562949953421312)) (.ite (decide (zw 0 (toNat v5)+jf a (toNat v5)<=length b)&&true&&decide (zw (zw 0<|length<|take (toNat v5) b) 1=length ([]++take (toNat v5) b++[(getD v0 (toNat v4) Dj)]))&&decide ((3*(zw (zw 0<|length<|take (toNat v5) b) 1+length (take (jf a<|toNat v5)<|drop (zw 0<|toNat v5) b))+2000)*56<=562949953421312)) (L3 v0 (zw (zw (zw 0<|length<|take (toNat v5) b) 1)<|length<|take (jf a<|toNat v5)<|drop (zw 0<|toNat v5) b) (zh .i64<|v4+1)<|[]++take (toNat v5) b++[(getD v0 (toNat v4) Dj)]++take (jf a<|toNat v5) (drop (zw 0<|toNat v5) b)) .fail) .fail) .fail) .fail) .fail) .fail
theorem CN(v0:List Am)(a:Nat)(v4 v5:Int)(b:List Am):stepT CS (L4 v0 a v4 v5 b)=let c:=zh .i64<|v5-1;let b':=getD v0 (toNat v4) Dj;let d:=ins v0 a v4 v5 b;let e:=getD b (toNat c) Dj;.di (v5>0) (.ck (decide (0<=v4)&&decide (v4<(length v0:Int)))<|.ck (decide (0<=zh .i64 (v5-1))&&decide (zh .i64 (v5-1)<(↑a:Int)))<|.cd (toNat c<length b)<|.di (fst b'<fst e) (L4 v0 a v4 c b)<|.ite (fst b'==fst e) (.di (fst (snd b')<fst (snd e)) (L4 v0 a v4 c b) d) d) d:=by kernel_rfl
end T13
namespace T19
def T(s:Am):Tr:=tree Aa0 false 9 19<|Ae ([Az]) s
theorem Ai(s:Am):T s=let a:=zh .i64<|s.2.2.1-s.2.2.2.2.2;let d:=([49,47,49,48]:Z);let c:=Cx 100 s.2.2.2.2.1;let b:=M9 (Qd a) s.2.2.2.1;let b':=Ko b c;.ck (S5 a) (.ck (BB (Qd a)&&GK s.2.2.2.1)<|.ck (Ca 100&&Ca s.2.2.2.2.1&&decide (s.2.2.2.2.1≠0))<|.ck (BB b&&BB c)<|.ck (rO b' d)<|.leaf (.dat qi<|oR b' d) []):=by kernel_rfl
end T19
namespace T7
def T(l:List Am):Tr:=tree CS false 9 7<|Ae ([zl Az]) l
def L1(v0:List Am)(v4:Int):Tr:=re ((T []))<|AB 19 [(0,.dat (zl Az) v0),(3,.nil),(4,.dat i64 v4)] [] 0
theorem Ai(l:List Am):T l=L1 l 0:=by kernel_rfl
def L2(v0:List Am)(a:Nat)(v4:Int)(b:List Am):Tr:=re ((stepT CS<|L1 [] 0).L.L.L)<|AB 19 [(0,.dat (zl Az) v0),(3,.sl 0 6 0 a none),(4,.dat i64 v4)] [(0,.arr false 38 Az b)] 1
theorem Ar(v0:List Am)(v4:Int):stepT CS (L1 v0 v4)=let a:=decide (v4<(length v0:Int));.ite a (.ck (decide (0<=v4)&&a)<|.ck (aa 56)<|L2 v0 1 (zh .i64<|v4+1)<|[(getD v0 (toNat v4) Dj)]) (.leaf .nil []):=by kernel_rfl
theorem AO(v0:List Am)(a:Nat)(v4:Int)(b:List Am):stepT CS (L2 v0 a v4 b)=let c:=decide (v4<(length v0:Int));.ite c (.ck (decide (0<=v4)&&c)<|.ck (ac a (length b) 56)<|L2 v0 (zw a 1) (zh .i64<|v4+1)<|b++[(getD v0 (toNat v4) Dj)]) (.leaf (.sl 0 6 0 a none)<|[(0,.arr false 38 Az b)]):=by kernel_rfl
end T7
namespace T51
def T(l w:List Am):Tr:=tree CS false 9 51<|Ae ([zl Az,zl Az]) (l,w)
def L1(v0 v1:List Am)(v5:Int):Tr:=re ((T [] []).R)<|AB 26 [(0,.dat (zl Az) v0),(1,.dat (zl Az) v1),(5,.dat i64 v5)] [] 0
theorem Ai(l w:List Am):T l w=.ite ((length l:Int) !=(length w:Int)) (.leaf (.bl false) []) (L1 l w 0):=by kernel_rfl
theorem Ar(v0 v1:List Am)(v5:Int):stepT CS (L1 v0 v1 v5)=let c:=getD v0 (toNat v5) Dj;let b':=getD v1 (toNat v5) Dj;let d:=decide (v5<(length v0:Int));let b:=snd<|snd c;let a:=snd<|snd b';.ite d (.ck (decide (0<=v5)&&d)<|.ck (decide (0<=v5)&&decide (v5<(length v1:Int)))<|.ite (!(fst c==fst b'&&(fst (snd c)==fst (snd b')&&(fst b==fst a&&(fst (snd b)==fst (snd a)&&(fst (snd<|snd b)==fst (snd<|snd a)&&(snd (snd<|snd b)==snd (snd<|snd a)&&true))))))) (.leaf (.bl false) [])<|L1 v0 v1<|zh .i64<|v5+1) (.leaf (.bl true) []):=by kernel_rfl
end T51
namespace T14
def T(l:List Am)(e b:Int)(w:List Am):Tr:=tree AaT false 9 14<|Ae ([zl Az,yi zo,yi zo,zl Az]) (l,e,b,w)
theorem Ai(l:List Am)(e b:Int)(w:List Am):T l e b w=.ite (b !=0) (.ite ((length l:Int)==0) (.leaf (.dat yv<|e==b) [])<|.leaf (.bl false) []) (.ite (e==0) (.cd (length l<=1000000)<|.leaf (.dat yv<|decide (l=w)) [])<|.leaf (.bl false) []):=by kernel_rfl
end T14
namespace T18
def T(x:Z)(e b:Int)(w:Z):Tr:=tree CS false 9 18<|Ae ([qi,yi zo,yi zo,qi]) (x,e,b,w)
theorem Ai(x:Z)(e b:Int)(w:Z):T x e b w=.ite (b !=0) (.ite (x==[]) (.leaf (.dat yv<|e==b) [])<|.leaf (.bl false) []) (.ite (e==0) (.leaf (.dat yv<|x==w) [])<|.leaf (.bl false) []):=by kernel_rfl
end T18
namespace T53
def T(a:Z)(b h:Int):Tr:=tree AbU false 9 53<|Ae ([qi,yi zo,yi zo]) (a,b,h)
theorem Ai(a:Z)(b h:Int):T a b h=let c:Tr:=.leaf (.dat i64<|BK a) [];let b':Tr:=.leaf (.dat i64 (3:Int)) [];.cd (length a<=1000000) (.ite (BK a==0) (.ck (S5 b)<|.ck (BB a&&GK (Qd b))<|.di (ZH a (Qd b)<0) b'<|.ck (S5 h)<|.ck (BB a&&GK (Qd h))<|.di (ZH a (Qd h)>0) b' c) c):=by kernel_rfl
end T53
namespace T62
def T(a u:Z):Tr:=tree Aan false 9 62<|Ae ([qi,qi]) (a,u)
theorem Ai(a u:Z):T a u=let b':=([49,47,50]:Z);let b:=H7 (JL a u) b';.ck (BB a&&Z3 u) (.ck (BB (JL a u)&&BB b')<|.ck (BB b)<|.ck (BB (Gz b)&&BB u)<|.leaf (.dat qi<|Ko (Gz b) u) []):=by kernel_rfl
end T62
namespace T59
def T(n:Int):Tr:=tree Aaq false 9 59<|Ae ([yi zo]) n
theorem Ai(n:Int):T n=.ck (Ca n) (.ck (Ce (yg n,yc n))<|.leaf (.dat qi<|Gj (yg n,yc n)) []):=by kernel_rfl
end T59
namespace T25
def T(c:Bool)(e:Int):Tr:=tree CS false 9 25<|Ae ([yv,yi zo]) (c,e)
theorem Ai(c:Bool)(e:Int):T c e=.ite c (.leaf (.dat i64 e) []) (.leaf (.dat i64 (0:Int)) []):=by kernel_rfl
end T25
namespace T21
def T(l:List Int):Tr:=tree CS false 9 21<|Ae ([zl i64]) l
def L1(v0:List Int)(v3:Int):Tr:=re ((T []))<|AB 19 [(0,.dat (zl i64) v0),(3,.dat i64 v3)] [] 0
theorem Ai(l:List Int):T l=L1 l 0:=by kernel_rfl
theorem Ar(v0:List Int)(v3:Int):stepT CS (L1 v0 v3)=let a:=decide (v3<(length v0:Int));.ite a (.ck (decide (0<=v3)&&a)<|.ite (getD v0 (toNat v3) 0 !=0) (.ck (decide (0<=v3)&&a)<|.leaf (.dat i64<|getD v0 (toNat v3) 0) [])<|L1 v0<|zh .i64<|v3+1) (.leaf (.dat i64 (0:Int)) []):=by kernel_rfl
end T21
end
open Go.Sp (Lv)
namespace T21
theorem loop{Q:PV->Ob->Prop}(l:List Int)(f:l.length<=1000000)(a:∀ob,Q (.dat i64<|z6 l) ob):∀(r:List Int) (i:Nat),l.drop i=r->i<=l.length->z6 l=z6 r->Ends CS (L1 l (i:Int)) Q
 |[],i,h,c,e=>by
  have o:=drop_nil h c;refine zi (Ar ..) (zr (w8 ae)<|zd ?_);rw[e]at a;exact a _
 |x::r,i,h,c,e=>by
  obtain⟨g,j,n⟩:=drop_cons (d:=0) h;refine zi (Ar ..) ?_;conv=>zeta
  have m:=wn (i:=i) ae;rw[m,zj,j];refine zc (w4 ae) (zc (ad ae ae) ?_);by_cases b:x=0
  ·subst b;refine zr rfl (loop l f a r (i+1) n g ?_);rw[e];rfl
  ·have ex:z6 (x::r)=x:=by unfold z6;rw[wd b]
   refine zc (by simpa using b) (zc (ad ae ae)<|zd ?_);rw[e,ex]at a;exact a _
theorem ok:Af A9 21 FE:=by
 refine BM Dy<|fun(l:List Int) hl=>?_;exact zk (Ai l)<|loop l (w6 hl) (fun ob=>zp rfl rfl rfl) l 0 rfl (z8 _) rfl
end T21
theorem T25.ok:Af A9 25 Ks:=by
 refine BM Dy<|fun⟨c,e⟩ _=>?_;refine zk (T25.Ai c e)<|ze (fun h=>zd<|zp rfl rfl ?_)<|fun h=>zd<|zp rfl rfl ?_
 ·show e=Hi c e;rw[h];rfl
 ·show(0:Int)=Hi c e;rw[h];rfl
theorem iP:Dn Aan:=Aa T109.ok<|Aa T98.ok<|Aa T108.ok<|Aa T60.ok AP
theorem T62.ok:Af A9 62 Yt:=by
 refine BM iP<|fun(i:Z×Z) b=>?_;obtain⟨a,u⟩:=i;have b:(BB a&&Z3 u&&BB (JL a u)&&BB (H7 (JL a u) [49,47,50])&&BB (Gz<|H7 (JL a u) [49,47,50]))=true:=b;simp only[zf]at b;obtain⟨⟨⟨⟨h1,h2⟩,h3⟩,h4⟩,h5⟩:=b;exact zk (T62.Ai a u) (zc (Ab h1 h2)<|zc (Ab h3<|YI.num af)<|zc h4<|zc (Ab h5 (HO (Ww h2).1).1)<|zd<|zp rfl rfl rfl)
theorem eU:Dn Aaq:=Aa T101.ok<|Aa T100.ok AP
theorem T59.ok:Af A9 59 Wh:=by
 refine BM eU<|fun(n:Int) a=>?_;have a:n.natAbs<9223372036854775808:=w6 a;have b:Ca n=true:=ad ae ae;refine zk (T59.Ai n)<|zc b<|zc (Yz b)<|zd<|zp rfl rfl ?_;exact fC n
theorem oK{n d:Int}{i j:Nat}(c:n.natAbs<10^i)(a:1<=i)(e:d.natAbs<10^j)(f:1<=j)(h0:d≠0):Sp.Nu (i+j) (Cx n d) ((n:Rat)/(d:Rat)):=by
 have b:(d:Rat)≠0:=fun x=>h0<|z7.1 x
 have z:=(Ol c a).z.div (Ol e f).z b;refine⟨?_,z⟩;unfold Cx;rw[Rat.divInt_eq_div]
theorem bZ:Dn AbU:=Aa T93.ok<|Aa T94.ok<|Aa T59.ok AP
theorem T53.ok:Af A9 53 ZF:=by
 refine BM bZ<|fun(i:Lv×Int×Int) g=>?_;obtain⟨a,b,h⟩:=i;have g:(decide (a.length<=1000000)&&aY b&&aY h)=true:=g;rw[zf,zf,w5]at g;obtain⟨⟨hl,j⟩,m⟩:=g;have j:=S2 j;have m:=S2 m;have f:∀e ob,e=Ik a b h->Ad ZF (a,b,h) (.dat i64 e) ob:=fun e ob x=>zp rfl rfl x
 have L:Sp.Nu 6 (Qd b) (b:Rat):=Ol j af;have H:Sp.Nu 6 (Qd h) (h:Rat):=Ol m af;refine zk (T53.Ai a b h)<|zc (w4 hl)<|ze (fun c=>?_)<|fun c=>zd<|f _ _ ?_
 ·have c:BK a=0:=by simpa using c
  have A:=Tm c;have n:=A.cmp L;have o:=A.cmp H;refine zc (w4 ae) (zc (Ab (A.num af)<|L.GK af) (ze (fun d=>zd<|f _ _ ?_)<|fun d=>zc (w4 ae)<|zc (Ab (A.num af)<|H.GK af)<|ze (fun e=>zd<|f _ _ ?_)<|fun e=>zd<|f _ _ ?_))
  ·have d:=w6 d;rw[n]at d;have x:A8 a<(b:Rat):=by
    refine qf fun x=>?_
    rw[wc x]at d;by_cases y:(b:Rat)<A8 a
    ·rw[wd y]at d;omega
    ·rw[wc y]at d;omega
   rw[JC c,wd<|.inl x]
  ·have e:=w6 e;rw[o]at e;have y:(h:Rat)<A8 a:=by
    refine qf fun y=>?_
    by_cases x:A8 a<(h:Rat)
    ·rw[wd x]at e;omega
    ·rw[wc x,wc y]at e;omega
   rw[JC c,wd<|.inr y]
  ·have d:=w7 d;have e:=w7 e;rw[n]at d;rw[o]at e;rw[JC c,wc,c];rintro(x|x)
   ·rw[wd x]at d;omega
   ·have y:¬A8 a<(h:Rat):=qp.2<|Rat.le_of_lt x;rw[wc y,wd x]at e;omega
 ·have c:BK a≠0:=by simpa using c
  exact(N1 c).symm
end Go.Pe
namespace Go.Sp
structure Pf(l:List Am)(i:Nat)(u:List Am):Prop where
 p:u.Perm (l.take i)
 s:u.Pairwise fun a b=>¬De b a
theorem Pf.len{l:List Am}{i:Nat}{u:List Am}(h:Pf l i u)(a:i<=l.length):u.length=i:=by
 rw[h.p.length_eq,qm];omega
theorem nR{a b:Am}(h:De a b):¬De b a:=by unfold De at*;omega
theorem Pf.step{l:List Am}{i:Nat}{u:List Am}(h:Pf l i u){x:Am}{r:List Am}(m:l.drop i=x::r){k:Nat}(y:k<=u.length)(f:k=0\/¬De x (u.getD (k-1) Dj))(t:∀j,k<=j->j<u.length->De x (u.getD j Dj)):Pf l (i+1) (u.take k++x::u.drop k):=by
 refine⟨?_,?_⟩
 ·have n:i<l.length:=by
   have:=wi yh m;rw[ym,zq]at this;omega
  have e:l.take (i+1)=l.take i++[x]:=by
   have q:l[i]=x:=by
    have:=yo n;rw[m]at this;exact(List.cons.inj this).1.symm
   rw[zx n,q]
  rw[e];refine List.perm_middle.trans ?_;rw[List.take_append_drop];exact(h.p.cons x).trans (List.perm_append_singleton x _).symm
 ·have s:=h.s;rw[<-List.take_append_drop k u,List.pairwise_append]at s;obtain⟨s1,s2,s3⟩:=s;rw[List.pairwise_append,List.pairwise_cons];have up:∀b∈u.drop k,De x b:=fun b c=>by
   obtain⟨j,g,rfl⟩:=yp c;rw[ym]at g;have:=t (k+j) ae ae;rw[yk,zz ae,Option.getD_some]at this;rw[List.getElem_drop];exact this
  have o:∀a∈u.take k,¬De x a:=fun a d=>by
   rcases f with rfl|f
   ·simp at d
   ·by_cases v:k=0
    ·subst v;simp at d
    refine Ua f ?_;obtain⟨j,g,rfl⟩:=yp d;rw[qm]at g;rw[List.getElem_take,yk,zz ae,Option.getD_some];by_cases e:j=k-1
    ·subst e;exact Uw
    ·exact qe.1 h.s j (k-1) ae ae ae
  refine⟨s1,⟨fun b c=>nR<|up b c,s2⟩,fun a d b c=>?_⟩;rcases ye.1 c with rfl|c
  ·exact o a d
  ·exact s3 a d b c
theorem eH:Nu 2 [49,47,49,48] (1/10):=by
 refine⟨by decide+kernel,?_⟩;unfold GM;decide+kernel
theorem rH(q:Rat):((q/(1/10)+1/2).floor:Rat)*(1/10)=rdQ q 10:=by
 have e:((10:Int):Rat)=10:=rfl;unfold rdQ pH;rw[e,show q/(1/10)=q*10 by grind];grind
theorem zC(s:Am):DW s=if ER s.1 0 99999≠0\/ER s.2.1 1 999999999≠0\/ER s.2.2.1 1 999≠0 then 3 else if Ik s.2.2.2.1 1 200≠0 then Ik s.2.2.2.1 1 200 else if ER s.2.2.2.2.1 55 155≠0\/ER s.2.2.2.2.2 (-5) 5≠0 then 3 else 0:=by
 have v:∀n h g,ER n h g=0\/ER n h g=3:=fun n h g=>by unfold ER;split<;>simp
 unfold DW;rcases v s.1 0 99999 with a|a<;>rw[a]
 ·rcases v s.2.1 1 999999999 with b|b<;>rw[b]
  ·rcases v s.2.2.1 1 999 with c|c<;>rw[c]
   ·by_cases d:Ik s.2.2.2.1 1 200=0
    ·rw[d];rcases v s.2.2.2.2.1 55 155 with e|e<;>rw[e]
     ·rcases v s.2.2.2.2.2 (-5) 5 with f|f<;>rw[f]<;>rfl
     ·rfl
    ·rw[wc (by simp),wd d];unfold first first first first
     rw[wc (by simp),wc (by simp),wc (by simp),wd d]
   ·rfl
  ·rfl
 ·rfl
end Go.Sp
namespace Go.Pe
open Sp
open Go.Det
open Go.Sp (Lv Am)
theorem GH{i n:Int}(h:0<=i/\i<n):(decide ((0:Int)<=i)&&decide (i<n))=true:=Ab (w4 h.1)<|w4 h.2
theorem Acj{s:Lv}{q:Rat}(h:Sp.Nu 1300 s q){u:Lv}{v:Rat}(a:Sp.Nu 2 u v)(h0:v≠0):rO s u=true/\Sp.Nu 1306 (oR s u) (((q/v+1/2).floor:Rat)*v):=by
 have b:=h.JL a h0;have ad:=b.H7 YI;have fl:=ad.Gz;have c:=fl.Ko a;refine⟨?_,c.mono af⟩;unfold rO;rw[h.num af,b.num af,ad.num af,fl.num af,a.nz af h0];rfl
theorem dM:Dn AaW:=Aa T53.ok AP
theorem T15.ok:Af A9 15 NO:=by
 refine BM dM<|fun(s:Am) e=>?_;have e:decide (s.2.2.2.1.length<=1000000)=true:=e;have d:∀v ob,v=DW s->Ad NO s (.dat i64 v) ob:=fun v ob h=>zp rfl rfl h
 rw[zC]at d;have z:∀ {n f g:Int},ER n f g≠0↔n<f\/g<n:=fun {n f g}=>by unfold ER;split<;>simp_all
 simp only[z]at d;have bad:∀ob,(s.1<0\/99999<s.1)\/(s.2.1<1\/999999999<s.2.1)\/(s.2.2.1<1\/999<s.2.2.1)->Ad NO s (.dat i64 3) ob:=fun ob h=>d _ ob (by rw[wd h])
 refine zk (T15.Ai s)<|ze (fun a=>zd<|bad _<|.inl<|.inl<|w6 a)<|fun a1=>ze (fun a=>zd<|bad _<|.inl<|.inr<|w6 a)<|fun a2=>ze (fun a=>zd<|bad _<|.inr<|.inl<|.inl<|w6 a)<|fun a3=>ze (fun a=>zd<|bad _<|.inr<|.inl<|.inr<|w6 a)<|fun a4=>ze (fun a=>zd<|bad _<|.inr<|.inr<|.inl<|w6 a)<|fun a5=>ze (fun a=>zd<|bad _<|.inr<|.inr<|.inr<|w6 a)<|fun i=>zc (Ab (Ab e rfl) rfl) ?_;have a1:=w7 a1;have a2:=w7 a2;have a3:=w7 a3;have a4:=w7 a4;have a5:=w7 a5;have i:=w7 i;rw[wc ae]at d;refine ze (fun b=>?_)<|fun b=>zd<|d _ _ ?_
 ·have b:Ik s.2.2.2.1 1 200=0:=by simpa using b
  rw[b,wc<|by simp]at d;rw[b];refine ze (fun c=>zd<|d _ _ ?_)<|fun o=>ze (fun c=>zd<|d _ _ ?_)<|fun j=>ze (fun c=>zd<|d _ _ ?_)<|fun m=>ze (fun c=>zd<|d _ _ ?_)<|fun p=>zd<|d _ _ ?_;all_goals simp only[w5,w9]at*
  ·rw[wd ae]
  ·rw[wd ae]
  ·rw[wd ae]
  ·rw[wd ae]
  ·rw[wc ae]
 ·have b:Ik s.2.2.2.1 1 200≠0:=by simpa using b
  rw[wd b]
theorem cB:Dn Ux:=Aa T15.ok AP
theorem fB:Dn Aa0:=Aa T58.ok<|Aa T59.ok<|Aa T60.ok<|Aa T61.ok<|Aa T62.ok AP
theorem T19.ok:Af A9 19 Abg:=by
 refine BM fB<|fun(s:Am) hs=>?_;have k:=Sc<|w6 hs;have g:=k.g;have kd:=k.kd;have sl:=k.sl;have b:zh .i64 (s.2.2.1-s.2.2.2.2.2)=s.2.2.1-s.2.2.2.2.2:=wr _ ae ae;have A:Sp.Nu 4 (Qd<|s.2.2.1-s.2.2.2.2.2) ((s.2.2.1-s.2.2.2.2.2:Int):Rat):=Ol ae af;have B:=Tm k.c;have O:=A.M9 B;have F:Sp.Nu 6 (Cx 100 s.2.2.2.2.1) (((100:Int):Rat)/(s.2.2.2.2.1:Rat)):=oK (i:=3) (j:=3) af af ae af ae;have M:=O.Ko F;obtain⟨r1,R⟩:=Acj (M.mono<|show _<=1300 by decide) eH (by decide+kernel);have a:Ca s.2.2.2.2.1=true:=ad ae ae;have h0:s.2.2.2.2.1≠0:=ae
 refine zk (T19.Ai s) ?_;conv=>zeta
 rw[b];refine zc (w4 ae) (zc (Ab (A.num af)<|B.GK af) (zc (Ab (Ab rfl a)<|by simpa using h0) (zc (Ab (O.num af)<|F.num af)<|zc r1<|zd<|zp rfl rfl ?_)));show oR _ _=Sp.dfT s;rw[R.t,rH];show A5 (Sp.rdQ (mG s*(((100:Int):Rat)/(s.2.2.2.2.1:Rat))) 10)=A5 (Sp.dfQ s);rw[M8];unfold Sp.dfQ;rw[show mG s*(100/(s.2.2.2.2.1:Rat))=mG s*100/s.2.2.2.2.1 by grind]
namespace T10
variable {Q:PV->Ob->Prop}{l:List Am}
theorem inner(p:l.length<=256){i:Nat}(r:i<l.length){x:Am}(n:l.getD i Dj=x)(j:x.2.1∈(l.take i).map (fun s=>s.2.1)->∀ob,Q (.dat i64 9) ob)(o:x.2.1∉(l.take i).map (fun s=>s.2.1)->Ends Ux (L1 l ((i+1:Nat):Int)) Q):
  ∀(f k:Nat),i-k=f->k<=i->x.2.1∉(l.take k).map (fun s=>s.2.1)->Ends Ux (L2 l (i:Int) (k:Int)) Q
 |0,k,t,u,a=>by
  have:k=i:=ae
  subst this;have g:=wn (i:=k) ae;refine zi (AO ..) (zr (w8 ae) ?_);rw[g];exact o a
 |f+1,k,t,u,a=>by
  have e:k<i:=ae
  have d:k<l.length:=ae
  have g:=wn (i:=k) ae;have q:List.getD l k Dj=l[k]:=by rw[yk,zz d];rfl
  refine zi (AO ..) ?_;conv=>zeta
  rw[g,zj,zj,n,q];have b:∀m,k<m->m<=l.length->(l[k]).2.1∈(l.take m).map (fun s=>s.2.1):=fun m v y=>List.mem_map.2 ⟨l[k],List.mem_take_iff_getElem.2 ⟨k,by omega,rfl⟩,rfl⟩
  refine zc (w4 ae) (zc (ad ae ae)<|zc (ad ae ae)<|ze (fun c=>zd ?_)<|fun c=>?_)
  ·have c:(l[k]).2.1=x.2.1:=by simpa using c
   exact j (c▸b i e ae) _
  ·have c:(l[k]).2.1≠x.2.1:=by simpa using c
   refine inner p r n j o f (k+1) ae e ?_;rw[zx d,qv,yd];rintro(h|h)
   ·exact a h
   ·simp at h;exact c h.symm
theorem loop(j:l.length<=256)(n:∀s∈l,s.2.2.2.1.length<=1000000):∀(r:List Am) (i:Nat),l.drop i=r->i<=l.length->(∀ob,Q (.dat i64<|Tj ((l.take i).map fun s=>s.2.1) r) ob)->Ends Ux (L1 l (i:Int)) Q
 |[],i,h,m,a=>by
  have:=drop_nil h m;exact zi (Ar ..) (zr (w8 ae)<|zd<|a _)
 |x::r,i,h,m,a=>by
  obtain⟨b,f,o⟩:=drop_cons (d:=Dj) h;have p:=n x (List.mem_of_mem_drop (i:=i)<|by rw[h];exact zy ..);refine zi (Ar ..) ?_;conv=>zeta
  rw[zj,f];rw[Tj]at a;refine zc (w4 ae) (zc (ad ae ae)<|zc (w4 p)<|ze (fun c=>zd ?_)<|fun c=>?_)
  ·have c:DW x≠0:=by simpa using c
   rw[wd c]at a;exact a _
  ·have c:DW x=0:=by simpa using c
   rw[wc<|by simpa using c]at a;have e:(l.take<|i+1).map (fun s=>s.2.1)=(l.take i).map (fun s=>s.2.1)++[x.2.1]:=by
    rw[zx b,qv];have:l[i]=x:=by rw[<-f];simp[b]
    rw[this];rfl
   refine inner j b f (fun g=>by rw[wd g]at a;exact a) (fun g=>?_) i 0 ae (z8 _) (by simp);rw[wc g]at a;exact loop j n r (i+1) o b (by rw[e];exact a)
theorem ok:Af A9 10 Ku:=by
 refine BM cB<|fun(l:List Am) hl=>?_;obtain⟨_,b⟩:=VQ hl;have a:∀v ob,v=A2 l->Ad Ku l (.dat i64 v) ob:=fun v ob e=>zp rfl rfl e
 unfold A2 at a;refine zk (Ai l)<|ze (fun c=>zd<|a _ _ ?_)<|fun c=>?_
 ·have c:=w6 c;rw[wd ae]
 ·have c:=w7 c;refine loop ae b l 0 rfl (z8 _) (fun ob=>a _ ob ?_);rw[wc ae];rfl
end T10
namespace T9
variable {Q:PV->Ob->Prop}{l:List Am}
theorem loop(g:l.length<=260)(a:∀b ob,b=je l (fun s=>decide (s.2.2.2.1.length<=20))->Q (.bl b) ob):∀(r:List Am) (i:Nat),l.drop i=r->i<=l.length->je l (fun s=>decide (s.2.2.2.1.length<=20))=je r (fun s=>decide (s.2.2.2.1.length<=20))->Ends CS (L1 l (i:Int)) Q
 |[],i,h,f,e=>by
  have:=drop_nil h f;exact zi (Ar ..) (zr (w8 ae)<|zd<|a _ _<|by rw[e];rfl)
 |x::r,i,h,f,e=>by
  obtain⟨j,m,n⟩:=drop_cons (d:=Dj) h;have o:=wn (i:=i) ae;refine zi (Ar ..) ?_;conv=>zeta
  rw[o,zj,m];rw[List.all_cons]at e;refine zc (w4 ae) (zc (ad ae ae)<|ze (fun c=>zd<|a _ _ ?_)<|fun c=>?_)
  ·have c:=w6 c;rw[e,w8 ae];rfl
  ·have c:=w7 c;rw[w4 ae,yq]at e;exact loop g a r (i+1) n j e
theorem ok:Af A9 9 U2:=by
 refine BM Dy<|fun(i:List Am×Int) _=>?_;obtain⟨l,n⟩:=i;have d:∀b ob,b=Iq l n->Ad U2 (l,n) (.bl b) ob:=fun b ob e=>zp rfl rfl e
 have no:∀b:Prop,b->(n<(l.length:Int)/\(l.length:Int)<=256\/260<(l.length:Int))->false=Iq l n:=fun _ _ c=>by
  have:(decide (n<(l.length:Int))&&decide ((l.length:Int)<=256)||decide (260<(l.length:Int)))=true:=by
   rw[Bool.or_eq_true,zf,w5,w5,w5];exact c
  unfold Iq;rw[this];rfl
 have yes:¬(n<(l.length:Int)/\(l.length:Int)<=256\/260<(l.length:Int))->Ends CS (L1 l 0) (Ad U2 (l,n)):=fun c=>by
  have e:(decide (n<(l.length:Int))&&decide ((l.length:Int)<=256)||decide (260<(l.length:Int)))=false:=by
   rw[Bool.eq_false_iff,vc,Bool.or_eq_true,zf,w5,w5,w5];exact c
  refine loop ae (fun b ob h=>d _ _ ?_) l 0 rfl (z8 _) rfl;unfold Iq;rw[e,h];rfl
 refine zk (Ai l n)<|ze (fun a=>ze (fun b=>zd<|d _ _<|no True trivial ?_)<|fun b=>ze (fun c=>zd<|d _ _<|no True trivial ?_)<|fun c=>yes ?_)<|fun a=>ze (fun c=>zd<|d _ _<|no True trivial ?_)<|fun c=>yes ?_;all_goals (simp only[w5,w9]at*;omega)
end T9
namespace T13
variable {Q:PV->Ob->Prop}{l:List Am}
theorem place(y:l.length<=1000){i:Nat}{u:List Am}(h:Pf l i u){x:Am}{r:List Am}(a:l.drop i=x::r)(e:∀v,Pf l (i+1) v->Ends CS (L3 l (i+1) ((i+1:Nat):Int) v) Q){k:Nat}(z:k<=i)(g:k=0\/¬De x (u.getD (k-1) Dj))(p:∀j,k<=j->j<u.length->De x (u.getD j Dj)):Ends CS (ins l i (i:Int) (k:Int) u) Q:=by
 obtain⟨A,o,_⟩:=drop_cons (d:=Dj) a;have b:=h.len ae;have m:=wn (i:=i) ae;have f:=GH (i:=(i:Int)) (n:=(l.length:Int)) ae;have st:=e _ (h.step a (k:=k) ae g p);have t:(qn k u).length=k:=by rw[qm];omega
 have q:zw (zw (zw 0 (qn k u).length) 1) (qn (jf i k)<|List.drop (zw 0 k) u).length=i+1:=by simp;omega
 have c:[]++qn k u++[x]++qn (jf i k) (List.drop (zw 0 k) u)=qn k u++x::List.drop k u:=by
  simp[<-b];exact qq (by rw[ym];exact qg _)
 unfold ins;rw[zj,zj,o,m,q,c];exact zc (by simp;omega) (zc f (zc (by simp;omega)<|zc (by simp;omega)<|zc (by simp;omega)<|zc (by simp;omega) st))
theorem inner(o:l.length<=1000){i:Nat}{u:List Am}(h:Pf l i u){x:Am}{r:List Am}(m:l.drop i=x::r)(p:∀v,Pf l (i+1) v->Ends CS (L3 l (i+1) ((i+1:Nat):Int) v) Q):∀k:Nat,k<=i->(∀j,k<=j->j<u.length->De x (u.getD j Dj))->Ends CS (L4 l i (i:Int) (k:Int) u) Q:=by
 obtain⟨E,B,_⟩:=drop_cons (d:=Dj) m;have C:=h.len ae;have A:=GH (i:=(i:Int)) (n:=(l.length:Int)) ae;intro k;induction k with
 |zero=>
  intro g b;exact zi (CN ..) (zr (w8 ae)<|place o h m p g (.inl rfl) b)
 |succ k q=>
  intro g b;have t:zh .i64 (((k+1:Nat):Int)-1)=(k:Int):=by rw[wr _ ae ae];omega
  have c:k<u.length:=ae
  have go:De x (u.getD k Dj)->Ends CS (L4 l i (i:Int) (k:Int) u) Q:=fun lt=>q ae fun j D f=>by
   by_cases e:j=k
   ·subst e;exact lt
   ·exact b j ae f
  have st:=fun le:¬De x (u.getD k Dj)=>place o h m p g (.inr<|by rw[Nat.add_sub_cancel];exact le) b
  refine zi (CN ..) ?_;conv=>zeta
  rw[t,zj,zj,B];refine zc (w4 ae) (zc A (zc (GH ae) (zc (w4 c)<|ze (fun z=>go<|.inl<|w6 z) (fun z=>ze (fun y=>ze (fun w=>go<|.inr ⟨by simpa using y,w6 w⟩)<|fun w=>st ?_)<|fun y=>st ?_))))
  ·have z:=w7 z;have w:=w7 w;rintro(a|a)
   ·exact z a
   ·exact w a.2
  ·have z:=w7 z;rintro(a|a)
   ·exact z a
   ·rw[beq_eq_false_iff_ne]at y;exact y a.1
theorem loop(b:iA l)(c:Q (.sl 0 6 0 (CQ l).length none) [(0,Obj.arr false 38 Az<|CQ l)]):∀(k i:Nat) (u:List Am),i+k=l.length->Pf l i u->Ends CS (L3 l i (i:Int) u) Q
 |0,i,u,a,h=>by
  have a:i=l.length:=a;subst a;have g:=h.len<|qg _;have f:=h.p;rw[List.take_length]at f;have e:=Wz b.2 f h.s;rw[<-e,g]at c;exact zi (Cr ..) (zr (w8 ae)<|zd c)
 |k+1,i,u,a,h=>by
  have d:=b.1;have o:i<l.length:=ae
  have q:l.drop i=l[i]::l.drop (i+1):=yo o;refine zi (Cr ..) (zc (w4 ae) ?_);exact inner d h q (fun v m=>loop b c k (i+1) v ae m) i (qg _) (fun j r n=>by rw[h.len ae]at n;omega)
theorem ok:Af A9 13 RQ:=by
 refine BM Dy<|fun(l:List Am) a=>?_;have a:=oL a;refine zk (Ai l)<|zi (Ar ..) ?_;by_cases n0:l=[]
 ·subst n0;exact zr rfl (zd<|zp rfl rfl (ql.1<|C2 []).symm)
 have n0:=List.length_pos_iff.2 n0;have b:l.drop 0=l[0]::l.drop 1:=yo n0;obtain⟨_,e,_⟩:=drop_cons (d:=Dj) b;have c:Pf l 0 []:=⟨List.Perm.refl _,List.Pairwise.nil⟩;have st:=loop a (Q:=Ad RQ l) (zp (N8 rfl rfl) rfl rfl) (l.length-1) 1 _ ae (c.step b (k:=0) (z8 _) (.inl rfl) (fun j _ h=>by cases h));refine zc (w4 ae) (zi (AO ..)<|zr rfl (zc rfl (zc (GH ae)<|zc rfl (zc rfl (zc rfl (zc rfl ?_))))));rw[show Int.toNat 0=0 from rfl,e];exact st
end T13
namespace T7
variable {Q:PV->Ob->Prop}{l:List Am}
theorem loop(f:56*l.length<=140737488355328)(a:Q (.sl 0 6 0 l.length none) [(0,Obj.arr false 38 Az l)]):∀(r:List Am) (i:Nat) (o:List Am),l.drop i=r->i<=l.length->o.length=i->o++r=l->Ends CS (L2 l o.length (i:Int) o) Q
 |[],i,o,h,c,b,e=>by
  have q:=drop_nil h c;rw[List.append_nil]at e;subst e;exact zi (AO ..) (zr (w8 ae)<|zd a)
 |x::r,i,o,h,c,b,e=>by
  obtain⟨g,j,p⟩:=drop_cons (d:=Dj) h;have n:=wn (i:=i) ae;have cap:(decide ((1:Nat)<=(1:Nat))&&true&&decide (o.length=o.length)&&decide ((3*(o.length+1)+2000)*56<=562949953421312))=true:=by
   rw[w4 (show(1:Nat)<=1 by omega),w4 rfl,w4 ae];rfl
  refine zi (AO ..) ?_;conv=>zeta
  rw[n,zj,j];refine zc (w4 ae) (zc (GH ae)<|zc cap ?_);have nx:=loop f a r (i+1) (o++[x]) p g (by simp[b]) (by rw[<-e];simp);have m:(o++[x]).length=zw o.length 1:=by simp
  rw[m]at nx;exact nx
theorem ok:Af A9 7 tJ:=by
 refine BM Dy<|fun(l:List Am) a=>?_;have a:56*l.length<=140737488355328:=w6 a;refine zk (Ai l)<|zi (Ar ..) ?_;cases l with
 |nil=>exact zr rfl (zd<|zp rfl rfl rfl)
 |cons x t=>
  refine zc (w4<|by simp only[zq];omega) (zc (Ab rfl (w4<|by simp only[zq];omega))<|zc rfl ?_);exact loop a (zp (N8 rfl rfl) rfl rfl) t 1 [x] rfl (by simp) rfl rfl
end T7
theorem WZ(x y:Am):(x.1==y.1&&(x.2.1==y.2.1&&(x.2.2.1==y.2.2.1&&(x.2.2.2.1==y.2.2.2.1&&(x.2.2.2.2.1==y.2.2.2.2.1&&(x.2.2.2.2.2==y.2.2.2.2.2&&true))))))=decide (x=y):=by
 obtain⟨a,b,c,d,e,f⟩:=x;obtain⟨a',b',c',d',e',f'⟩:=y;rw[qu];simp
namespace T51
variable {Q:PV->Ob->Prop}{l w:List Am}
theorem loop(p:l.length<=1000000)(e:l.length=w.length)(a:∀b ob,b=decide (l=w)->Q (.bl b) ob):∀(r u:List Am) (i:Nat),l.drop i=r->w.drop i=u->i<=l.length->(l=w↔r=u)->Ends CS (L1 l w (i:Int)) Q
 |[],u,i,h,g,f,q=>by
  have v:=drop_nil h f;have o:u=[]:=by rw[<-g];exact List.drop_of_length_le ae
  subst o;exact zi (Ar ..) (zr (w8 ae)<|zd<|a _ _ (w4<|q.2 rfl).symm)
 |x::r,[],i,h,g,f,q=>by
  obtain⟨j,m,n⟩:=drop_cons (d:=Dj) h;have:=wi yh g;rw[ym,List.length_nil]at this;omega
 |x::r,y::u,i,h,g,f,q=>by
  obtain⟨j,m,n⟩:=drop_cons (d:=Dj) h;obtain⟨g1,g2,g3⟩:=drop_cons (d:=Dj) g;have t:=wn (i:=i) ae;refine zi (Ar ..) ?_;conv=>zeta
  rw[t,zj,m,g2,WZ];refine zc (w4 ae) (zc (GH ae)<|zc (GH ae) ?_);by_cases c:x=y
  ·rw[w4 c];exact zr rfl (loop p e a r u (i+1) n g3 j<|by rw[q,c];simp)
  ·rw[w8 c];refine zc rfl (zd<|a _ _ (w8 fun k=>c ?_).symm);exact(List.cons.inj<|q.1 k).1
theorem ok:Af A9 51 Xa:=by
 refine BM Dy<|fun(i:List Am×List Am) hi=>?_;obtain⟨l,w⟩:=i;have d:l.length<=1000000:=w6 hi;have a:∀b ob,b=decide (l=w)->Ad Xa (l,w) (.bl b) ob:=fun b ob h=>zp rfl rfl h
 refine zk (Ai l w)<|ze (fun c=>zd<|a _ _ ?_)<|fun c=>?_
 ·refine(w8 fun k=>?_).symm;subst k;simp at c
 ·have c:(l.length:Int)=(w.length:Int):=by simpa using c
  exact loop d ae a l w 0 rfl rfl (z8 _) Iff.rfl
end T51
theorem eZ:Dn AaT:=Aa T51.ok AP
theorem T14.ok:Af A9 14 Uj:=by
 refine BM eZ<|fun(i:List Am×Int×Int×List Am) hi=>?_;obtain⟨l,e,b,w⟩:=i;have a:∀v ob,v=FY l e b w->Ad Uj (l,e,b,w) (.dat .bool v) ob:=fun v ob h=>zp rfl rfl h
 have f:∀ob,false=FY l e b w->Ad Uj (l,e,b,w) (.bl false) ob:=fun ob h=>zp rfl rfl h
 unfold FY at a f;refine zk (T14.Ai l e b w)<|ze (fun c=>?_)<|fun c=>?_
 ·have c:b≠0:=by simpa using c
  rw[wd c]at a f;refine ze (fun d=>zd<|a _ _ ?_)<|fun d=>zd<|f _ ?_
  ·have d:l=[]:=by simpa using d
   rw[w4 d,yq];rfl
  ·have d:¬l=[]:=by simpa using d
   rw[w8 d];rfl
 ·have c:¬b≠0:=by simpa using c
  rw[wc c]at a f;refine ze (fun d=>zc hi<|zd<|a _ _ ?_)<|fun d=>zd<|f _ ?_
  ·have d:e=0:=by simpa using d
   rw[w4 d,yq]
  ·have d:¬e=0:=by simpa using d
   rw[w8 d];rfl
theorem T18.ok:Af A9 18 Ym:=by
 refine BM Dy<|fun(i:Lv×Int×Int×Lv) _=>?_;obtain⟨x,e,b,w⟩:=i;have a:∀v ob,v=Mu x e b w->Ad Ym (x,e,b,w) (.dat .bool v) ob:=fun v ob h=>zp rfl rfl h
 have f:∀ob,false=Mu x e b w->Ad Ym (x,e,b,w) (.bl false) ob:=fun ob h=>zp rfl rfl h
 unfold Mu at a f;refine zk (T18.Ai x e b w)<|ze (fun c=>?_)<|fun c=>?_
 ·have c:b≠0:=by simpa using c
  rw[wd c]at a f;refine ze (fun d=>zd<|a _ _ ?_)<|fun d=>zd<|f _ ?_
  ·have d:x=[]:=by simpa using d
   rw[w4 d,yq];rfl
  ·have d:¬x=[]:=by simpa using d
   rw[w8 d];rfl
 ·have c:¬b≠0:=by simpa using c
  rw[wc c]at a f;refine ze (fun d=>zd<|a _ _ ?_)<|fun d=>zd<|f _ ?_
  ·have d:e=0:=by simpa using d
   rw[w4 d,yq,qu];simp
  ·have d:¬e=0:=by simpa using d
   rw[w8 d];rfl
section
open List Int Prod
namespace T12
def T(l:List Sp.Am):Tr:=tree Aaw false 9 12<|Ae ([zl Az]) l
theorem Ai(l:List Sp.Am):T l=.ck (Sp.Kk l) (.ite (Sp.A2 l !=0) (.leaf (.tup [.nil,.dat i64<|Sp.A2 l]) [])<|.cd (length l<=1000000)<|.leaf (.tup [.dat (zl Az)<|Sp.CQ l,.dat i64 (0:Int)]) []):=by kernel_rfl
end T12
end
open Go.Sp (Am)
theorem eW:Dn Aaw:=Aa T11.ok<|Aa T49.ok AP
theorem T12.ok:Af A9 12 dP:=by
 refine BM eW<|fun(l:List Am) a=>?_;have a:Kk l=true:=a;refine zk (T12.Ai l)<|zc a<|ze (fun c=>zd<|zp rfl rfl ?_)<|fun c=>zc (w4 (VQ a).1)<|zd<|zp rfl rfl ?_
 ·have c:A2 l≠0:=by simpa using c
  show _=(LU l,A2 l);unfold LU;rw[wd c]
 ·have c:A2 l=0:=by simpa using c
  show _=(LU l,A2 l);unfold LU;rw[c,wc af]
open Go.Det Go.RowKit Go.ChangeShapes
def Nc(k:Nat):Value->V
 | .agg cs=>.agg<|cs.toList.map<|KI k
 |v=>KI k v
def bV(P:Program)(k:Nat)(t:TypeId):Option Sh:=
 match wA P k t with
 |some s=>match P.underlying t with
  |some (.struct _)=>bif s.MZ then some s else none
  |some (.int _)|some .bool|some .string|some (.slice _)=>bif s.MZ then none else some s
  |_=>none
 |none=>none
def jB(P:Program)(t:TypeId):Option Sh:=
 match P.underlying t with
 |some (.array 2 e)=>match P.underlying e with
  |some (.int q)=>bif yx (P.cellsOf t) 2&&yx (P.cellsOf e) 1 then some (.pair (.int q)<|.int q)else none
  |_=>none
 |_=>none
def lC(P:Program)(k:Nat)(t:TypeId):Option Sh:=
 match jB P t with
 |some s=>some s
 |none=>bV P k t
def Ps(P:Program)(k:Nat):List TypeId->Option (List Sh)
 |[]=>some []
 |t::ts=>match lC P k t,Ps P k ts with
  |some s,some a=>some (s::a)
  |_,_=>none
def wfL:(l:List Sh)->(Bv l).T->Prop
 |[],_=>True
 |[a],x=>R9 a x
 |a::b::l,x=>R9 a x.1/\wfL (b::l) x.2
section
variable {H:Type}{enc:TypeId×Value->H}{P:Program}{W:World}{base:Nat}
theorem one_cell{t:TypeId}{v:Value}(a:(∃k,P.underlying t=some (.int k))\/P.underlying t=some .bool\/P.underlying t=some .string\/∃e,P.underlying t=some (.slice e))(h:yn P W .any base t v):v.cells.toList=[v]/\∀cs,v≠ .agg cs:=by
 rcases a with⟨k,a⟩|a|a|⟨e,a⟩<;>
 (simp only[yn,a]at h
  unfold Cell.okWide at h;simp only[a]at h;unfold Cell.ok at h;simp only[a]at h;cases v<;>first|(exact⟨rfl,fun _ e=>by cases e⟩)|(exfalso;exact h))
theorem rV{t:TypeId}{s:Sh}{v:Value}{d:DataW H}{p:List MemPlace}(f:jB P t=some s)(A:yn P W .any base t v)(h:DataW.Trod enc P W 0 (fun _=>true) true t v d p):
  (∃q,s=.pair (.int q) (.int q))/\∃x:s.T,PC (FW W) (BL s x) (Nc W.heap.size v)/\R9 s x/\Ac (pW W) (Nc W.heap.size v) v:=by
 unfold jB at f;split at f
 case h_2=>cases f
 rename_i e z;split at f
 case h_2=>cases f
 rename_i q r;cases j:(yx (P.cellsOf t) 2&&yx (P.cellsOf e) 1)with
 |false=>rw[j]at f;cases f
 |true=>
 rw[j]at f;cases f;refine⟨⟨q,rfl⟩,?_⟩;rw[zf]at j;have F:=zm j.1;have E:=zm j.2;simp only[yn,z]at A;obtain⟨cs,rfl,i,_⟩:=A;obtain⟨fuel,c⟩:=h;have C:(Value.agg cs).cells.toList=cs.toList:=rfl;rw[C]at c;rw[F]at i;obtain⟨m,o,hl⟩:∃m o,cs.toList=[m,o]:=by
  match hh:cs.toList,(show cs.toList.length=2 by rw[Array.length_toList];exact i)with
  |[a,b],_=>exact⟨a,b,rfl⟩
 rw[hl]at c;cases fuel with
 |zero=>simp[yt]at c
 |succ n=>
  unfold yt at c;rw[z]at c;have r2:List.range 2=[0,1]:=rfl;simp[r2,E]at c;obtain⟨_,c⟩:=c;cases h0:yt enc P W 0 (fun _=>true) true n e [m]with
  |none=>simp[h0]at c
  |some G=>
   cases y:yt enc P W 0 (fun _=>true) true n e [o]with
   |none=>simp[h0,y]at c
   |some I=>
    obtain⟨n0,z0,_,w0⟩:=qy r h0;obtain⟨n1,z1,_,w1⟩:=qy r y;cases z0;cases z1;have u:DC (FW W) (.pair (.int q)<|.int q) ((n0:Int),(n1:Int)) (cs.toList.map<|KI W.heap.size):=by
     rw[hl];simp only[DC];exact⟨[KI W.heap.size<|.int q n0],[KI W.heap.size<|.int q n1],rfl,by simp[KI],by simp[KI]⟩
    refine⟨((n0:Int),(n1:Int)),(PC.BL u).1 rfl,⟨by simpa [R9,Lit.wf]using w0,by simpa [R9,Lit.wf]using w1⟩,?_⟩;simp only[Nc,Ac];refine⟨cs,rfl,?_⟩;have g:=u.ok;generalize cs.toList=l at g;induction l with
    |nil=>simp
    |cons a l D=>
     simp only[yw,Bb];exact⟨Kp (g _ (by simp)),D fun v B=>g v<|by simp only[yw,ye];exact .inr B⟩
theorem EJ:∀ {ts:List TypeId} {args:List Value} {ds:List (DataW H)} {p:List MemPlace},DataW.TrodAll enc P W 0 (fun _=>true) true ts args ds p->ds.length=ts.length
 |[],_,_,_,h=>by obtain⟨_,rfl,_⟩:=trodAll_nil h;rfl
 |t::ts,_,_,_,h=>by
  obtain⟨v0,c,d,b,p0,e,rfl,rfl,rfl,h0,a⟩:=trodAll_cons h;simp[EJ a]
theorem AbA{α:Type}{l:List α}(h:l.length=2):∃a b,l=[a,b]:=by
 match l,h with
 |[a,b],_=>exact⟨a,b,rfl⟩
theorem AbG{α:Type}{l:List α}(h:l.length=3):∃a b c,l=[a,b,c]:=by
 match l,h with
 |[a,b,c],_=>exact⟨a,b,c,rfl⟩
end
def qM:Sh->Nat
 | .str=>16
 | .list _=>24
 | .pair a b=>qM a+qM b
 | .unit=>0
 |_=>8
def Wt{H:Type}(P:Program)(t:TypeId)(d:DataW H):Prop:=∀n∈yr P t d,n<=reachBytes
def Si(P:Program):Nat->TypeId->Bool
 |0,_=>false
 |f+1,t=>match P.underlying t with
  |some (.slice e)=>Si P f e&&(match wA P f e with|some s=>yx (P.bytesOf e) (qM s)|none=>false)
  |some (.struct fs)=>fs.toList.all fun x=>Si P f x.type
  |_=>true
def Wx:(s:Sh)->s.T->Prop
 | .list s,l=>(l:List s.T).length*qM s<=reachBytes/\∀x∈(l:List s.T),Wx s x
 | .pair a b,x=>Wx a x.1/\Wx b x.2
 |_,_=>True
def pR:(l:List Sh)->(Bv l).T->Prop
 |[],_=>True
 |[a],x=>Wx a x
 |a::b::l,x=>Wx a x.1/\pR (b::l) x.2
section
variable {H:Type}{enc:TypeId×Value->H}{P:Program}{W:World}{base:Nat}
theorem Abj{e:TypeId}{n:Nat}:∀ {l:List (DataW H)} {d:DataW H},d∈l->n∈yr P e d->n∈DataW.weightsAll P e l
 |x::l,d,a,b=>by
  rw[DataW.weightsAll,yd];rcases ye.1 a with rfl|a
  ·grind
  ·exact .inr<|Abj a b
theorem uU{n:Nat}:∀ {ts:List TypeId} {l:List (DataW H)} {i:Nat} {t:TypeId} {d:DataW H},ts[i]?=some t->l[i]?=some d->n∈yr P t d->n∈zn P ts l
 |u::ts,x::l,0,t,d,b,c,a=>by
  grind [zn]
 |u::ts,x::l,i+1,t,d,b,c,a=>by
  rw[zn,yd];exact .inr (uU (i:=i) ah ah a)
 |[],_,_,_,_,b,_,_=>by grind
 |_::_,[],_,_,_,_,c,_=>by grind
theorem wO{n:Nat}:∀ {ts b:List TypeId} {ds es:List (DataW H)},ts.length=ds.length->n∈zn P ts ds->n∈zn P (ts++b) (ds++es)
 |t::ts,b,d::ds,es,h,a=>by
  rw[zn,yd]at a;rw[List.cons_append,List.cons_append,zn,yd];exact a.imp id fun x=>wO ah x
 |[],_,_,_,_,a=>by grind [zn]
 |_::_,_,[],_,h,_=>by simp at h
theorem xH{t e:TypeId}{el sp:List (DataW H)}(a:P.underlying t=some (.slice e))(h:Wt P t (.slice el sp)):(el.length+sp.length)*P.bytesOf e<=reachBytes:=by
 grind [yr,zy,Wt]
theorem tW{t e:TypeId}{el sp:List (DataW H)}{d:DataW H}(a:P.underlying t=some (.slice e))(h:Wt P t (.slice el sp))(c:d∈el\/d∈sp):Wt P e d:=fun n b=>by
 refine h n ?_;grind [yr,Abj]
theorem nE{t:TypeId}{fs:Array Field}{l:List (DataW H)}{i:Nat}{f:Field}{d:DataW H}(a:P.underlying t=some (.struct fs))(h:Wt P t (.agg l))(e:fs[i]?=some f)(c:l[i]?=some d):Wt P f.type d:=fun n b=>by
 refine h n ?_;rw[yr,a];exact uU (i:=i) (t:=f.type) (by simp[e]) c b
theorem OH{G:TypeId->DataW H->Prop}{f:TypeId->Option Sh}{n:Nat}{cs:List Value}
  (m:∀(t:TypeId) (s:Sh) (cs:List Value) (y:DataW H×List MemPlace),f t=some s->yt enc P W 0 (fun _=>true) true n t cs=some y->G t y.1->∃x:s.T,DC (FW W) s x (cs.map<|KI W.heap.size)/\R9 s x/\Wx s x):
  ∀(fs:List Field) (o:Nat) (s:Sh),bG P f o fs=some s->(∀x∈fs,∃z,yt enc P W 0 (fun _=>true) true n x.type ((cs.drop x.offset).take<|P.cellsOf x.type)=some z/\G x.type z.1)->
   ∃x:s.T,DC (FW W) s x (((cs.map<|KI W.heap.size).drop o).take s.sz)/\R9 s x/\Wx s x
 |[],o,s,c,_=>by
  cases c;exact⟨(),by rfl,trivial,trivial⟩
 |[x],o,s,c,i=>by
  unfold bG at c;split at c
  case h_2=>cases c
  rename_i h d;cases g:(yx x.offset o&&yx (P.cellsOf x.type) h.sz)with
  |false=>grind
  |true=>
  obtain⟨z,j,e⟩:=i x (by simp);grind [zm,q9,jc]
 |x::x'::l,o,s,c,i=>by
  unfold bG at c;split at c
  case h_2=>cases c
  rename_i h d;cases g:(yx x.offset o&&yx (P.cellsOf x.type) h.sz)with
  |false=>grind
  |true=>
  rw[g]at c;simp only[we,Option.map_eq_some_iff]at c;obtain⟨s2,p,rfl⟩:=c;simp only[zf]at g;obtain⟨z,j,e⟩:=i x (by simp);rw[zm g.1,zm g.2]at j;obtain⟨a,a1,a2,a3⟩:=m _ _ _ _ d j e;obtain⟨b,b1,b2,b3⟩:=OH m (x'::l) (o+h.sz) s2 p (fun u q=>i u ah);refine⟨(a,b),?_,⟨a2,b2⟩,a3,b3⟩;refine⟨_,_,?_,a1,b1⟩;rw[q9,jc, <-List.drop_drop];exact List.take_add
theorem OB:∀(k r:Nat) (t:TypeId) (s:Sh) (cs:List Value) (y:DataW H×List MemPlace),wA P k t=some s->yt enc P W 0 (fun _=>true) true r t cs=some y->Si P k t=true->Wt P t y.1->
  ∃x:s.T,DC (FW W) s x (cs.map<|KI W.heap.size)/\R9 s x/\Wx s x
 |0,_,_,_,_,_,j,_,_,_=>by cases j
 |k+1,r,t,s,cs,y,j,h,D,E=>by
  have ih:=OB k;unfold wA at j;split at j
  case h_1 q g=>
   cases j;obtain⟨n,rfl,_,hw⟩:=qy g h;exact⟨(n:Int),by rfl,by grind [R9,Lit.wf],trivial⟩
  case h_2 g=>
   cases j;obtain⟨b,rfl,_⟩:=DataW.trod_bool g h;exact⟨b,by rfl,trivial,trivial⟩
  case h_3 g=>
   cases j;obtain⟨b,rfl,_,hw⟩:=DataW.trod_string g h;exact⟨b.data.toList,by rfl,by show b.data.toList.length<=maxLen;simp_all,trivial⟩
  case h_4 e g=>
   split at j
   case h_2=>cases j
   rename_i f B;cases F:(yx (P.cellsOf e) f.sz&&Nat.blt 0 f.sz)with
   |false=>grind
   |true=>
   rw[F]at j;cases j;simp only[zf]at F;have M:=zm F.1;have K:=Nat.le_of_ble_eq_true F.2;rcases DataW.trod_slice g h with⟨rfl,_⟩|⟨a,len,cap,C,I,n,rfl,rfl,V,_,hlc,hcm,hel,X,O,_⟩
   ·exact⟨[],by simp[DC,KI],by simp[R9],by simp[Wx]⟩
   ·obtain⟨hrl,O⟩:=O rfl;rw[V]at E;have E:Wt P t (.slice (C.map (·.1)) (I.map (·.1))):=E;unfold Si at D;rw[g]at D;simp only[B,zf]at D;obtain⟨D,L⟩:=D;have L:=zm L;rw[M]at X O;by_cases h0:cap=0
    ·obtain rfl:len=0:=ae
     subst h0;exact⟨[],by simp[DC,KI],by simp[R9],by simp[Wx]⟩
    ·
     have all:∀i,i<cap->∃A z,W.cells? 0 (a.add<|i*f.sz) f.sz=some A/\yt enc P W 0 (fun _=>true) true n e A=some z/\Wt P e z.1:=by
      intro i N;by_cases hl:i<len
      ·have m:=X i hl;rw[zz ae]at m;rw[qo]at m;obtain⟨A,v,o⟩:=m;exact⟨A,_,v,o,tW g E ah⟩
      ·have m:=O (i-len) ae;rw[show len+(i-len)=i by omega,zz ae]at m;rw[qo]at m;obtain⟨A,v,o⟩:=m;exact⟨A,_,v,o,tW g E ah⟩
     obtain⟨c0,z0,U,_,_⟩:=all 0 ae;rw[Nat.zero_mul,show a.add 0=a from by rfl]at U;obtain⟨c,tc,fz,hb,hsp,hoff,_⟩:=QK U K;have R:a.block<W.heap.size:=ah;have Z:=cT hb ae;obtain⟨ab,ao,ax⟩:=a;simp only at hsp hb hoff R Z;subst hsp;have u:∀i,i<cap->ao+i*f.sz+f.sz<=c.size/\∃x:f.T,DC (FW W) f x (((c.toList.map<|KI W.heap.size).drop<|ao+i*f.sz).take f.sz)/\R9 f x/\Wx f x:=by
      intro i N;obtain⟨A,z,m,v,hz⟩:=all i N;rw[Addr.LG]at m;obtain⟨c',tc',fz',hb',_,ho',rfl⟩:=QK m ae;grind [q9,jc]
     obtain⟨l,J,hl2⟩:=YF (p:=fun i (x:f.T)=>DC (FW W) f x (((c.toList.map<|KI W.heap.size).drop<|ao+i*f.sz).take f.sz)/\R9 f x/\Wx f x) len fun i N=>(u i ae).2
     refine⟨l,?_,?_,?_⟩
     ·simp only[DC];refine⟨.sl ab ao len cap 0,?_,.inr ⟨ab,ao,cap,0,_,by rw[J],by omega,Z,?_,.inl rfl,ah⟩⟩
      ·simp_all [KI]
      ·rw[J];have:=(u (cap-1) ae).1;have o:cap*f.sz=(cap-1)*f.sz+f.sz:=by rw[<-Nat.succ_mul];grind
       grind
     ·refine⟨by omega,fun x S=>?_⟩;obtain⟨i,N,rfl⟩:=List.mem_iff_getElem.1 S;grind
     ·refine⟨?_,fun x S=>?_⟩
      ·have hw:=xH g E;grind
      ·obtain⟨i,N,rfl⟩:=List.mem_iff_getElem.1 S;grind
  case h_5 fs g=>
   split at j
   case h_2=>cases j
   rename_i f B;cases F:yx (P.cellsOf t) f.sz with
   |false=>grind
   |true=>
   have M:=zm F;obtain⟨xs,n,rfl,V,Y,hxl,hf⟩:=DataW.trod_struct g h;unfold Si at D;obtain⟨x,m,v,o⟩:=OH (G:=fun t d=>Si P k t=true/\Wt P t d) (cs:=cs) (fun t s cs y m v o=>ih n t s cs y m v o.1 o.2) fs.toList 0 _ B (by grind [List.mem_iff_getElem?,nE]);grind [qq]
  grind
theorem jF{k:Nat}{t:TypeId}{s:Sh}{v:Value}{d:DataW H}{p:List MemPlace}(e:wA P k t=some s)(c:s.MZ=false)(g:v.cells.toList=[v])(h:DataW.Trod enc P W 0 (fun _=>true) true t v d p)(i:Si P k t=true)(f:Wt P t d):
  ∃x:s.T,PC (FW W) (BL s x) (KI W.heap.size v)/\(R9 s x/\Wx s x)/\Ac (pW W) (KI W.heap.size v) v:=by
 obtain⟨a,b⟩:=h;rw[g]at b;obtain⟨x,h1,h2⟩:=OB k a t s [v] (d,p) e b i f;exact⟨x,(PC.BL h1).2 c _ rfl,h2,Kp<|h1.ok _<|by simp⟩
theorem bK{k:Nat}{t:TypeId}{s:Sh}{v:Value}{d:DataW H}{p:List MemPlace}(b:lC P k t=some s)(i:yn P W .any base t v)(h:DataW.Trod enc P W 0 (fun _=>true) true t v d p)(r:Si P k t=true)(u:Wt P t d):
  ∃x:s.T,PC (FW W) (BL s x) (Nc W.heap.size v)/\(R9 s x/\Wx s x)/\Ac (pW W) (Nc W.heap.size v) v:=by
 unfold lC at b;split at b
 case h_1=>
  rename_i s1 f;cases b;obtain⟨⟨q,rfl⟩,x,a1,a2,a3⟩:=rV f i h;exact⟨x,a1,⟨a2,trivial,trivial⟩,a3⟩
 unfold bV at b;split at b
 case h_2=>cases b
 rename_i g j;have plain:((∃k,P.underlying t=some (.int k))\/P.underlying t=some .bool\/P.underlying t=some .string\/∃e,P.underlying t=some (.slice e))->(bif g.MZ then none else some g)=some s->∃x:s.T,PC (FW W) (BL s x) (Nc W.heap.size v)/\(R9 s x/\Wx s x)/\Ac (pW W) (Nc W.heap.size v) v:=by
  intro o z;cases m:g.MZ with
  |true=>grind
  |false=>
   obtain⟨f,n⟩:=one_cell o i;have e:Nc W.heap.size v=KI W.heap.size v:=by
    simp_all [Nc]
   grind [jF]
 split at b
 case h_1=>
  rename_i fs y;cases m:g.MZ with
  |false=>grind
  |true=>
   rw[m]at b;cases b;simp only[yn,y]at i;obtain⟨cs,rfl,_,_⟩:=i;obtain⟨fuel,hf⟩:=h;obtain⟨x,f,n⟩:=OB k fuel t s _ (d,p) j hf r u;refine⟨x,(PC.BL f).1 m,n,?_⟩;refine⟨cs,rfl,?_⟩;have c:=f.ok;have e:(Value.agg cs).cells.toList=cs.toList:=rfl;rw[e]at c;generalize cs.toList=l at c;induction l with
   |nil=>simp
   |cons a l A=>
    grind [Bb,Kp]
 case h_2=>simp_all
 case h_3=>grind
 case h_4=>grind
 case h_5=>simp_all
 grind
theorem Lx{k:Nat}:∀ {ts:List TypeId} {a:List Sh} {args:List Value} {ds:List (DataW H)} {p:List MemPlace},Ps P k ts=some a->(∀(j:Nat) t v,ts[j]?=some t->args[j]?=some v->yn P W .any base t v)->
  DataW.TrodAll enc P W 0 (fun _=>true) true ts args ds p->(ts.all<|Si P k)=true->(∀n∈zn P ts ds,n<=reachBytes)->∃x:(Bv a).T,J1 (FW W) (Ae a x) (args.map<|Nc W.heap.size)/\(wfL a x/\pR a x)/\Au (pW W) (args.map<|Nc W.heap.size) args
 |[],a,args,ds,p,b,_,h,_,_=>by
  cases b;obtain⟨rfl,rfl,rfl⟩:=trodAll_nil h;exact⟨(),fun ρ N=>by rfl,⟨trivial,trivial⟩,by simp⟩
 |t::ts,a,args,ds,p,b,g,h,d,r=>by
  unfold Ps at b;split at b
  case h_2=>cases b
  rename_i s f u A;cases b;obtain⟨v0,c,C,m,p0,B,rfl,rfl,rfl,h0,z⟩:=trodAll_cons h;rw[List.all_cons,zf]at d;rw[zn]at r;obtain⟨x,a1,a2,a3⟩:=bK u (g 0 t v0 rfl rfl) h0 d.1 (fun n D=>(by simp_all));obtain⟨y,b1,b2,b3⟩:=Lx A (fun j t v q e=>g (j+1) t v q e) z d.2 (by simp_all);have i:Au (pW W) ((v0::c).map<|Nc W.heap.size) (v0::c):=by simp_all
  cases f with
  |nil=>exact⟨x,fun ρ N=>by
    have:=b1 ρ N;simp only[Ae,DB]at this;simp only[yw,Ae,this,BF,DB,ve];exact a1 ρ N,a2,i⟩
  |cons s2 o=>exact⟨(x,y),fun ρ N=>by
    simp only[yw,Ae,BF];exact⟨a1 ρ N,b1 ρ N⟩,⟨⟨a2.1,b2.1⟩,a2.2,b2.2⟩,i⟩
end
theorem Rr{l:List Am}{n:Int}(h:Iq l n=true):l.length<=260/\(∀s∈l,s.2.2.2.1.length<=20)/\((l.length:Int)<=n\/256<l.length):=by
 unfold Iq at h;rw[zf,Bool.not_eq_true',Bool.or_eq_false_iff,Bool.and_eq_false_iff,w9,w9,w9,qk]at h;exact⟨by omega,fun s a=>w6<|h.2 s a,by omega⟩
theorem Lh{l:List Am}{n:Int}(h:Iq l n=true):Kk l=true:=by
 obtain⟨a,b,_⟩:=Rr h;unfold Kk;rw[zf,w5,qk];exact⟨by omega,fun s c=>w4 (by have:=b s c;omega)⟩
theorem I1(h:List Am)(e b:Int)(w:List Am)(k:if b≠0 then h=[]/\e=b else e=0/\h=w):FY h e b w=true:=by
 unfold FY;split at k
 ·next c=>rw[wd c,w4 k.1,w4 k.2];rfl
 ·next c=>rw[wc c,w4 k.1,w4 k.2];rfl
theorem tM(h:Lv)(e b:Int)(w:Lv)(k:if b≠0 then h=[]/\e=b else e=0/\h=w):Mu h e b w=true:=by
 unfold Mu;split at k
 ·next c=>rw[wd c,w4 k.1,w4 k.2];rfl
 ·next c=>rw[wc c,w4 k.1,w4 k.2];rfl
theorem lT(l:List Am):(LU l).length<=l.length:=by
 unfold LU;split
 ·exact z8 _
 ·rw[C2];exact qg _
theorem bF:Dn xL:=Aa Vb<|Aa T7.ok<|Aa T9.ok<|Aa T10.ok<|Aa T11.ok<|Aa T12.ok<|Aa T13.ok<|Aa T14.ok<|Aa T15.ok<|Aa T17.ok<|Aa T16.ok<|Aa T19.ok<|Aa T18.ok AP
namespace T3
variable {Q:PV->Ob->Prop}{s:Am}
theorem tail(f:s.2.2.2.1.length<=20)(d:∀ob,Q (.dat .bool true) ob):Ends xL (tl s) Q:=by
 have a:∀(b:Bool) ob,b=true->Q (.dat .bool b) ob:=fun b ob e=>by rw[e];exact d ob
 have w:decide (s.2.2.2.1.length<=1000000)=true:=w4 ae;refine zc w (zc w<|zc w<|zr (by simp)<|ze (fun c=>zc rfl (zd<|a _ _<|tM _ _ _ _ ?_))<|fun c=>?_)
 ·have c:DW s≠0:=by simpa using c
  rw[wd c];refine⟨?_,rfl⟩;unfold uI;rw[wd c]
 ·have c:DW s=0:=by simpa using c
  refine zc (w4 c)<|zc rfl (zd<|a _ _<|tM _ _ _ _ ?_);rw[wc af];refine⟨c,?_⟩;unfold uI;rw[c,wc af]
theorem ok:Af A9 3 Ke:=by
 refine BM bF<|fun(i:List Am×Am) d=>?_;obtain⟨l,s⟩:=i;have d:U9 l=true:=d;have f:∀ob,Ad Ke (l,s) (.dat .bool true) ob:=fun ob=>zp rfl rfl rfl
 refine zk (Ai l s)<|zc d<|zc rfl (zr rfl (zc rfl (ze (fun _=>zc rfl (zd<|f _))<|fun a=>ze (fun _=>zc rfl (zd<|f _))<|fun b=>?_)));have a:Iq l 30=true:=by simpa using a
 have b:¬(s.2.2.2.1.length:Int)>20:=w7 b;have e:=Lh a;have tl:=tail (Q:=Ad Ke (l,s)) (s:=s) ae f;have g:decide ((LU l).length<=1000000)=true:=w4 (by have:=lT l;have:=(Rr a).1;omega);refine zc e (zc e<|zr (by simp)<|zc e<|ze (fun c=>?_)<|fun c=>?_)
 ·have c:A2 l=0:=by simpa using c
  refine zc (Nz<|gA c)<|zc g<|zr ?_ tl;rw[I1 _ _ _ _<|by rw[wc<|by simpa using c];exact⟨c,by unfold LU;rw[wc<|by simpa using c]⟩];rfl
 ·have c:A2 l≠0:=by simpa using c
  refine zc g<|zr ?_ tl;rw[I1 _ _ _ _<|by rw[wd c];exact⟨by unfold LU;rw[wd c],rfl⟩];rfl
end T3
theorem Adk{x:(Bv Ke.ins).T}(h:pR Ke.ins x):Ke.pre x=true:=by
 obtain⟨⟨a,_⟩,_⟩:=h;have a:(x.1:List Am).length*56<=140737488351232:=a;exact w4 ae
abbrev M7:Ap:=Ke
end Go.Pe
namespace Go.Proofs.YtipkapecgjpnlaaGreatDoor
open Go
set_option maxRecDepth 100000
theorem seatTie1:Tryz.prog.laidByTextLater [("math/bits.deBruijn32tab",Rows.laid_math_bits_deBruijn32tab),("math/bits.deBruijn64tab",Rows.laid_math_bits_deBruijn64tab),("internal/strconv.uint64pow10",Rows.laid_internal_strconv_uint64pow10),("unicode/utf8.acceptRanges",Rows.laid_unicode_utf8_acceptRanges),("strconv.ErrRange",Rows.laid_strconv_ErrRange),("strconv.ErrSyntax",Rows.laid_strconv_ErrSyntax)] [.data,.data,.data,.data,.sentinel,.sentinel] true:=
 Program.laidByTextLater_by_one 72 8 65 ag ag ag ag ag ag (fun _ _=>by kernel_rfl)
theorem noOwnUnsafe:Tryz.pinned.checked.prog.headLifts.contains "ownunsafe"=false:=by kernel_rfl
theorem fits1:Tryz.pinned.checked.prog.listedFits Rows.handicapScoresRow.laid=true:=by
 unfold Program.listedFits;rw[noOwnUnsafe];kernel_rfl
theorem handicapScores_row_tie:Rows.handicapScoresRow.laidByTextAt .later Tryz.pinned [.data,.data,.data,.data,.sentinel,.sentinel,.pinned] true:=by
 refine yy rfl rfl seatTie1 rfl rfl rfl rfl (fun y a _e=>?_) fits1;simp only[Rows.handicapScoresRow,List.zip_cons_cons,List.zip_nil_right,ye,List.mem_nil_iff,or_false]at a;rcases a with rfl|rfl|rfl|rfl|rfl|rfl|rfl
 ·cases _e
 ·cases _e
 ·cases _e
 ·cases _e
 ·cases _e
 ·cases _e
 ·exact⟨by kernel_rfl,by kernel_rfl⟩
theorem handicapMerges_row_tie:Rows.handicapMergesRow.laidByTextAt .later Tryz.pinned [.data,.data,.data,.data,.sentinel,.sentinel,.pinned] true:=by
 refine yy rfl rfl seatTie1 rfl rfl rfl rfl (fun y a _e=>?_) fits1;simp only[Rows.handicapMergesRow,List.zip_cons_cons,List.zip_nil_right,ye,List.mem_nil_iff,or_false]at a;rcases a with rfl|rfl|rfl|rfl|rfl|rfl|rfl
 ·cases _e
 ·cases _e
 ·cases _e
 ·cases _e
 ·cases _e
 ·cases _e
 ·exact⟨by kernel_rfl,by kernel_rfl⟩
end Go.Proofs.YtipkapecgjpnlaaGreatDoor
