import Derived.Test.YtknhdhchejmpgaaGreatDoorX12
import Derived.Test.YtknhdhchejmpgaaGreatDoorX11
/- A part of a proof (no law is stated here). Made by program out of texts by AI agents. -/
open Go.Pe.Ends renaming tt -> zc, leaf -> zg, An -> zj, ite -> zl, ff -> zt, eq -> ye
open Go.Sp renaming B9 -> zd, val -> ze, vI -> zq, AM -> z7, preB -> ql, gI -> qm, first -> ji, FO -> jj
open Int renaming toNat_natCast -> zf, mul_le_mul_of_nonneg_left -> zr, lt_of_lt_of_le -> zw, le_of_lt -> z6, mul_le_mul_of_nonneg_right -> ya, mul_comm -> yb, lt_of_le_of_lt -> yh, pow_succ -> yj, mul_lt_mul_of_pos_right -> yk, tdiv_eq_ediv_of_nonneg -> yn, ne_of_gt -> yp, eq_ofNat_of_zero_le -> yt, tmod_eq_emod_of_nonneg -> yz, mul_nonneg -> y7, lt_of_mul_lt_mul_left -> y8, mul_add -> qc, mul_one -> qd, mul_assoc -> qf, le_trans -> qg, emod_lt_of_pos -> qh, natAbs_natCast -> qj, ediv_eq_iff_of_pos -> qu, emod_nonneg -> qw, one_mul -> qy, le_refl -> qz, mul_pos -> q9, gcd -> jc, add_assoc -> jd, mul_zero -> je, add_zero -> jf, pow_zero -> jg
open Bool renaming and_eq_true -> zh, true_and -> yq, eq_iff_iff -> qx
open Go.IntKind renaming wrap -> zi
open List renaming length_drop -> zk, take_of_length_le -> zo, length_take -> zu, length_append -> z8, length_eq_zero_iff -> yc, take_length -> yd, getD_eq_getElem?_getD -> yf, getElem?_eq_getElem -> yi, dropWhile_cons -> yr, all_cons -> yx, replicate -> yy, take_append_drop -> qe, mem_singleton -> qi, drop -> qn, all_reverse -> qo, all_eq_true -> qp, length_cons -> qq, length_eq_one_iff -> qt
open Go.Pe.Ad renaming of -> yg
open Nat renaming add_sub_cancel -> ym, le_refl -> yo, zero_le -> yu, sub -> yv, min_eq_left -> qv, add -> jh
open UInt8 renaming toNat_inj -> yw
open Rat renaming divInt -> y9, num_divInt_den -> qk
namespace Go.Pe
open Sp
open Go.Det
theorem F7{w:List Int}(hd:Au zd w)(hn:Sp.nz w){k:Nat}(hl:w.length=k+1):0<w.getD k 0/\w.getD k 0<1000000000:=by
 have g:=Gr hd k;refine⟨?_,g.2⟩;have e:w.getLast?=some (w.getD k 0):=by
  rw[List.getLast?_eq_getElem?,hl,ym,yf,yi (by omega)];rfl
 unfold Sp.nz at hn;rw[e]at hn;have:w.getD k 0≠0:=fun h=>hn (by rw[h])
 omega
theorem Eh(d:Int):ze zd [d]=d:=by simp[ze]
namespace T164
variable {Q:PV->Ob->Prop}
theorem A2(v:List Int)(k la:Nat)(f:Int)(hf:0<f/\f<1000000000)(hn:v.length=k+2)(hla:la<=9000)(hkl:k+2<=la)(hv:Au zd v)(hv1:1<=v.getD (k+1) 0)(W0:Int)
  (hq:∀(u qs:List Int) ob,Au zd u->Au zd qs->ze zd u<ze zd v->W0=ze zd u+ze zd v*ze zd qs->Q (.tup [.dat li (As qs),.dat li (BN (ze zd u/f))]) ob):
  ∀(t:Nat) (u qs:List Int),t+qs.length=la-(k+2)+1->u.length=la+1->Au zd u->Au zd qs->ze zd (u.drop t)<ze zd v->W0=ze zd u+ze zd v*((zd:Int)^t*ze zd qs)->
   Ends LB (L2 1 v ((k+2:Nat):Int) (la+1) (la-(k+2)+1) ((t:Int)-1) (yy t 0++qs) u [f]) Q
 |0,u,qs,hl,hu,hd,hdq,hlt,he=>by
  have hlt:ze zd u<ze zd v:=hlt;have hVlt:=Bo (b:=zd) (by decide) hv;rw[hn]at hVlt;have hz:ze zd (u.drop (k+2))=0:=I4 (b:=zd) (by decide) hd (by omega) (by omega);have hvu:ze zd (u.take (k+2))=ze zd u:=by
   rw[Ca zd u (k+2) (by omega),hz,je,jf]
  have ht:(yy 0 0++qs).take (la-(k+2)+1)=qs:=by
   rw[List.replicate_zero,List.nil_append];exact zo (by omega)
  have htr:=Hj (AK hd (k+2));have hlr:(As (u.take (k+2))).length<=9000:=by
   rw[Fp (AK hd (k+2))];refine Nat.le_trans (NA (k:=k+2) (Ax (by decide) (AK hd (k+2))) ?_) (by omega);show ze zd (u.take (k+2))<_;rw[hvu];omega
  have e1:Ar (As (u.take (k+2)))=ze zd u:=by
   show ze zd (As _)=_;rw[IW,hvu]
  refine zj (AY ..) (zt (by simp) ?_);rw[zf,ht,e1];refine zc (by simp;omega) (zc rfl (zc rfl (zc (by simp;omega) (zc (Ac (Ac (KT (by omega) htr) (w4 hf.1)) (w4 hf.2)) (zc (by simp;omega) (zg (hq u qs _ hd hdq hlt (by rw[he,jg,qy]))))))))
 |j+1,u,qs,hl,hu,hd,hdq,hlt,he=>by
  obtain⟨lo,r,rfl,hlo⟩:∃lo r:List Int,u=lo++r/\lo.length=j:=⟨u.take j,u.drop j,(qe j u).symm,by rw[zu];omega⟩;have hdlo:Au zd lo:=fun d hd'=>hd d (List.mem_append.2 (.inl hd'))
  have hdr:Au zd r:=fun d hd'=>hd d (List.mem_append.2 (.inr hd'))
  have hrl:r.length=la+1-j:=by rw[z8]at hu;omega
  have hdrop:∀z:List Int,(lo++z).drop j=z:=fun z=>by rw[<-hlo];exact List.drop_left
  have hr0:r=r.getD 0 0::r.drop 1:=by
   have:=Cb (l:=r) (i:=0) (by omega);rw[List.drop_zero]at this;exact this
  have hd1:(lo++r).drop (j+1)=r.drop 1:=by rw[Nat.add_comm j 1,Nat.add_comm 1 j, <-List.drop_drop,hdrop]
  rw[hd1]at hlt;have g0:=Gr hdr 0;have hvr:ze zd r=r.getD 0 0+1000000000*ze zd (r.drop 1):=by
   conv=>lhs;rw[hr0]
   rfl
  have hVlt:=Bo (b:=zd) (by decide) hv;rw[hn]at hVlt;have hrV:ze zd r<1000000000*ze zd v:=by rw[hvr];omega
  have hz:ze zd (r.drop (k+3))=0:=by
   refine I4 (b:=zd) (by decide) hdr (by omega) ?_;have ep:(zd:Int)^(k+3)=(zd:Int)^(k+2)*1000000000:=yj ..;rw[ep];omega
  have gu0:=Gr hdr (k+2);have gu1:=Gr hdr (k+1);have gu2:=Gr hdr k;have gv1:=Gr hv (k+1);have gv2:=Gr hv k;have hP:=AN (b:=zd) (by decide) k;have hW:=lO zd r k (by omega) hz;have hV:=qW zd v k hn;have hu'':=Bo (b:=zd) (by decide) (AK hdr k);have hv':=Ax (b:=zd) (by decide) (AK hv k);rw[zu,qv (by omega)]at hu'';have hle:r.getD (k+2) 0<=v.getD (k+1) 0:=by
   have a1:=Ca zd (r.drop 1) (k+1) (by rw[zk];omega);have a2:(r.drop 1).drop (k+1)=r.getD (k+2) 0::r.drop (k+3):=by
    rw[List.drop_drop,show 1+(k+1)=k+2 by omega];exact Cb (by omega)
   have a3:ze zd (r.getD (k+2) 0::r.drop (k+3))=r.getD (k+2) 0:=by
    show r.getD (k+2) 0+(zd:Int)*ze zd (r.drop (k+3))=_;rw[hz];omega
   rw[a2,a3]at a1;have b1:ze zd v=ze zd (v.take (k+1))+(zd:Int)^(k+1)*v.getD (k+1) 0:=by
    rw[<-AB,zo (by omega)]
   have b2:=Bo (b:=zd) (by decide) (AK hv (k+1));rw[zu,qv (by omega)]at b2;have c1:=Ax (b:=zd) (by decide) (AK (Eu hdr 1) (k+1));have c2:(zd:Int)^(k+1)*r.getD (k+2) 0<(zd:Int)^(k+1)*(v.getD (k+1) 0+1):=by
    rw[qc,qd];omega
   have:=y8 c2 (z6 (AN (by decide) (k+1)));omega
  have hfin:∀(q:Int) (r':List Int),r'.length=r.length->Au zd r'->(0<=q/\q<1000000000)->ze zd r'<ze zd v->ze zd r'=ze zd r-q*ze zd v->Ends LB (L2 1 v ((k+2:Nat):Int) (la+1) (la-(k+2)+1) (zi .i64 ((j:Int)-1)) ((yy (j+1) 0++qs).set j q) (lo++r') [f]) Q:=by
   intro q r' h1 h2 h3 h4 h5;have es:(yy (j+1) (0:Int)++qs).set j q=yy j 0++(q::qs):=by
    rw[List.replicate_succ',List.append_assoc];exact Dg _ _ _ _ (by simp)
   rw[es,wr ((j:Int)-1) (by omega) (by omega)];refine A2 v k la f hf hn hla hkl hv hv1 W0 hq j (lo++r') (q::qs) (by simp;omega) (by simp;omega) (EF hdlo h2) (fun d hd'=>?_) (by rw[hdrop];exact h4) ?_
   ·rcases List.mem_cons.1 hd' with rfl|hd'
    ·exact h3
    ·exact hdq d hd'
   ·rw[he,CU,CU,hlo,h5,JH];show ze zd lo+(zd:Int)^j*ze zd r+ze zd v*((zd:Int)^j*(1000000000*ze zd qs))=ze zd lo+(zd:Int)^j*(ze zd r-q*ze zd v)+ze zd v*((zd:Int)^j*(q+1000000000*ze zd qs));have x1:ze zd v*((zd:Int)^j*q)=(zd:Int)^j*(q*ze zd v):=by
     rw[Int.mul_left_comm,yb (ze zd v) q]
    rw[Int.mul_sub,qc ((zd:Int)^j) q,qc (ze zd v),x1];omega
  have e0:(((j+1:Nat):Int)-1)=(j:Int):=by omega
  have e1:zi .i64 ((j:Int)+((k+2:Nat):Int))=((k+2+j:Nat):Int):=by rw[wr _ (by omega) (by omega)];omega
  have e2:zi .i64 (((k+2+j:Nat):Int)-1)=((k+1+j:Nat):Int):=by rw[wr _ (by omega) (by omega)];omega
  have e3:zi .i64 (((k+2:Nat):Int)-1)=((k+1:Nat):Int):=by rw[wr _ (by omega) (by omega)];omega
  have g1:(lo++r).getD (k+2+j) 0=r.getD (k+2) 0:=GM _ _ _ _ hlo;have g2:(lo++r).getD (k+1+j) 0=r.getD (k+1) 0:=GM _ _ _ _ hlo;have hll:(lo++r).length=la+1:=hu;have hmul:zi .i64 (zi .i64 (r.getD (k+2) 0*1000000000)+r.getD (k+1) 0)=r.getD (k+2) 0*1000000000+r.getD (k+1) 0:=by
   rw[wr (r.getD (k+2) 0*1000000000) (by omega) (by omega)];exact wr _ (by omega) (by omega)
  have htop0:0<=r.getD (k+2) 0*1000000000+r.getD (k+1) 0:=by omega
  have hq0:0<=(r.getD (k+2) 0*1000000000+r.getD (k+1) 0)/v.getD (k+1) 0:=Int.ediv_nonneg htop0 (by omega);have hqs:(r.getD (k+2) 0*1000000000+r.getD (k+1) 0)/v.getD (k+1) 0<=r.getD (k+2) 0*1000000000+r.getD (k+1) 0:=Int.ediv_le_self _ htop0;have hdm:=Int.mul_ediv_add_emod (r.getD (k+2) 0*1000000000+r.getD (k+1) 0) (v.getD (k+1) 0);have hm0:=qw (r.getD (k+2) 0*1000000000+r.getD (k+1) 0) (show v.getD (k+1) 0≠0 by omega);have hm1:=qh (r.getD (k+2) 0*1000000000+r.getD (k+1) 0) (show 0<v.getD (k+1) 0 by omega);rw[yb]at hdm;have et:zi .i64 (Int.tdiv (r.getD (k+2) 0*1000000000+r.getD (k+1) 0) (v.getD (k+1) 0))=(r.getD (k+2) 0*1000000000+r.getD (k+1) 0)/v.getD (k+1) 0:=by
   rw[yn htop0];exact wr _ (by omega) (by omega)
  have em:Int.tmod (r.getD (k+2) 0*1000000000+r.getD (k+1) 0) (v.getD (k+1) 0)=(r.getD (k+2) 0*1000000000+r.getD (k+1) 0) % v.getD (k+1) 0:=yz htop0;have b2:(decide ((0:Int)<=((k+1:Nat):Int))&&decide (((k+1:Nat):Int)<((k+2:Nat):Int)))=true:=by simp;omega
  have bn:decide (v.getD (k+1) 0≠0)=true:=w4 (by omega);rw[e0];refine zj (AY ..) (zc (by simp) ?_);rw[hn,e1,e2,e3,zf,zf,zf,g1,g2,hmul,et,em,hll];refine zc (by simp;omega) (zc (w4 (by omega)) (zc (by simp;omega) (zc (w4 (by omega)) (zc b2 (zc bn (zc b2 (zc bn ?_)))))));refine Ci 1 (la+1) (la-(k+2)+1) _ [f] v lo r _ _ _ k j hn (by omega) hlo (by omega) (by omega) (by omega) (by omega) (by simp;omega) hv hdr hz hv1 hle hrV hfin (((r.getD (k+2) 0*1000000000+r.getD (k+1) 0)/v.getD (k+1) 0).toNat+1) _ _ hq0 (by omega) (by omega) ⟨hm0,by omega⟩ hdm ?_;rw[hW,hV];exact MG hP (by decide) hq0 hv' gv2.1 hu'' gu2.2 hdm hm1
theorem Al(a v:List Int)(n la:Nat)(f:Int)(hla:a.length=la)(hla9:la<=9000)(hnl:n<=la)(hq:∀u:List Int,u.length=la+1->Au zd u->ze zd u=ze zd a*f->Ends LB (L2 1 v n (la+1) (la-n+1) (((la-n+1:Nat):Int)-1) (yy (la-n+1) 0) u [f]) Q):
  ∀(m:Nat) (u:List Int),u.length+m=la+1->Au zd u->ze zd u=ze zd a*f->Ends LB (L1 a 1 v n u.length u [f]) Q
 |0,u,hl,hd,he=>by
  have e1:zi .i64 ((a.length:Int)+1)=((la+1:Nat):Int):=by rw[wr _ (by omega) (by omega)];omega
  have e2:zi .i64 ((u.length:Int)-(n:Int))=((la-n+1:Nat):Int):=by rw[wr _ (by omega) (by omega)];omega
  have e3:zi .i64 (((la-n+1:Nat):Int)-1)=((la-n+1:Nat):Int)-1:=wr _ (by omega) (by omega);refine zj (Ap ..) ?_;conv=>zeta
  rw[e1,e2,e3,zf];refine zt (by simp;omega) (zc (by simp;omega) ?_);have hul:u.length=la+1:=by omega
  rw[hul];exact hq u hul hd he
 |m+1,u,hl,hd,he=>by
  have e1:zi .i64 ((a.length:Int)+1)=((la+1:Nat):Int):=by rw[wr _ (by omega) (by omega)];omega
  refine zj (Ap ..) ?_;conv=>zeta
  rw[e1];refine zc (by simp;omega) (zc (by simp;omega) ?_);have:=Al a v n la f hla hla9 hnl hq m (u++[0]) (by simp;omega) (E4 hd (by decide)) (by rw[B6,je,jf];exact he);rw[z8]at this;exact this
set_option maxHeartbeats 1000000 in
theorem ok:Ag Bh 164 QG:=by
 refine Cn kT (fun(i:List Int×List Int) hi=>?_);obtain⟨a,b⟩:=i;have hi:(A5 a&&A5 b&&decide (a.length<=9000)&&decide (b.length<=9000)&&decide (0<Ar b))=true:=hi;rw[zh,zh,zh,zh,w5,w5,w5]at hi;obtain⟨⟨⟨⟨na,nb⟩,la9⟩,lb9⟩,hb0⟩:=hi;obtain⟨_,da,za⟩:=Bk na;obtain⟨_,db,zb⟩:=Bk nb;have hb0:0<ze zd b:=hb0;have ha0:=Ax (b:=zd) (by decide) da;have hg:∀q r ob,q=BN (Ar a/Ar b)->r=BN (Ar a % Ar b)->Ad QG (a,b) (PV.tup [PV.dat li q,PV.dat li r]) ob:=fun q r ob e1 e2=>yg rfl rfl (Prod.ext e1 e2)
 have hbne:b≠[]:=by rintro rfl;simp[ze]at hb0
 have hblen:b.length≠0:=fun h=>hbne (yc.1 h)
 refine ye (Am a b) (zc (by rw[na,nb];rfl) (zl (fun c=>?_) (fun c=>?_)))
 ·have c:=w6 c;have hlt:ze zd a<ze zd b:=by
   unfold BO at c;have c:(if ze zd a<ze zd b then(-1:Int)else if ze zd a>ze zd b then 1 else 0)<0:=c;split at c
   ·assumption
   ·split at c<;>omega
  refine zg (yg rfl rfl ?_);show([],a)=(BN (ze zd a/ze zd b),BN (ze zd a % ze zd b));rw[Int.ediv_eq_zero_of_lt ha0 hlt,Int.emod_eq_of_lt ha0 hlt];exact Prod.ext rfl (Ie (by decide) da za)
 ·have c:=w7 c;have hge:ze zd b<=ze zd a:=by
   rcases Int.lt_or_le (ze zd a) (ze zd b)with g|g
   ·have:BO (Ar a) (Ar b)= -1:=wd g;omega
   ·exact g
  have hll:b.length<=a.length:=by
   rcases Nat.lt_or_ge a.length b.length with g|g
   ·have:=Ex (b:=zd) (by decide) da db zb g;omega
   ·exact g
  refine zl (fun c1=>?_) (fun c1=>?_)
  ·have c1:b.length=1:=by
    have:(b.length:Int)=1:=by simpa using c1
    omega
   obtain⟨d,rfl⟩:=qt.1 c1;have hd:0<d/\d<1000000000:=F7 (k:=0) db zb rfl;have m0:=qw (ze zd a) (show d≠0 by omega);have m1:=qh (ze zd a) hd.1;refine zc rfl (zc (Ac (Ac (KT (by omega) da) (w4 hd.1)) (w4 hd.2)) (zc rfl (zg (hg _ _ _ ?_ ?_))))
   ·show BN (ze zd a/d)=BN (ze zd a/ze zd [d]);rw[Eh]
   ·show As [ze zd a % d]=BN (ze zd a % ze zd [d]);rw[Eh,Fp (fun x hx=>by rw[qi]at hx;subst hx;show 0<=_/\_<(1000000000:Int);omega)];show BN (ze zd [_])=_;rw[Eh]
  ·have c1:b.length≠1:=by
    have:(b.length:Int)≠1:=by simpa using c1
    omega
   obtain⟨k,hk⟩:∃k,b.length=k+2:=⟨b.length-2,by omega⟩;obtain⟨y0,y1⟩:=F7 (k:=k+1) db zb hk;have e1:zi .i64 (((k+2:Nat):Int)-1)=((k+1:Nat):Int):=by rw[wr _ (by omega) (by omega)];omega
   have e2:zi .i64 (b.getD (k+1) 0+1)=b.getD (k+1) 0+1:=wr _ (by omega) (by omega);have f0:0<1000000000/(b.getD (k+1) 0+1):=by
    have:=Int.le_ediv_of_mul_le (a:=1) (b:=1000000000) (c:=b.getD (k+1) 0+1) (by omega) (by omega);omega
   have f1:1000000000/(b.getD (k+1) 0+1)<1000000000:=Int.ediv_lt_of_lt_mul (by omega) (by omega);have f2:1000000000/(b.getD (k+1) 0+1)*(b.getD (k+1) 0+1)<=1000000000:=Int.ediv_mul_le _ (by omega);have e3:zi .i64 (Int.tdiv 1000000000 (b.getD (k+1) 0+1))=1000000000/(b.getD (k+1) 0+1):=by
    rw[yn (by decide)];exact wr _ (by omega) (by omega)
   rw[hk,e1,zf,e2,e3];generalize 1000000000/(b.getD (k+1) 0+1)=f at*;have hdf:Au zd [f]:=fun x hx=>by rw[qi]at hx;subst hx;show 0<=_/\_<(1000000000:Int);omega
   have hvf:Ar [f]=f:=Eh f;rw[hvf];have hv1:(zd:Int)^(k+1)<=ze zd b*f:=by
    have a1:=De (b:=zd) (by decide) db zb hbne;rw[hk,show k+2-1=k+1 by omega]at a1;have a2:=zr (show 1<=f by omega) (z6 hb0);omega
   have hv2:ze zd b*f<(zd:Int)^(k+2):=by
    have b1:ze zd b=ze zd (b.take (k+1))+(zd:Int)^(k+1)*b.getD (k+1) 0:=by
     rw[<-AB,zo (by omega)]
    have b2:=Bo (b:=zd) (by decide) (AK db (k+1));rw[zu,qv (by omega)]at b2;have hp:=AN (b:=zd) (by decide) (k+1);have b3:ze zd b<(zd:Int)^(k+1)*(b.getD (k+1) 0+1):=by
     rw[qc,qd];omega
    have b4:=yk b3 f0;have b5:=zr f2 (z6 hp);have b6:(zd:Int)^(k+2)=(zd:Int)^(k+1)*1000000000:=yj ..;rw[qf,yb (b.getD (k+1) 0+1) f]at b4;omega
   have hV0:0<=ze zd b*f:=y7 (z6 hb0) (by omega);have hU0:0<=ze zd a*f:=y7 ha0 (by omega);have hU1:ze zd a*f<(zd:Int)^(a.length+1):=by
    have a1:=Bo (b:=zd) (by decide) da;have a2:=yk a1 f0;have a3:=zr (show f<=1000000000 by omega) (z6 (AN (b:=zd) (by decide) a.length));have a4:(zd:Int)^(a.length+1)=(zd:Int)^a.length*1000000000:=yj ..;omega
   have vd:=Fh (b:=zd) (by decide) (ze zd b*f);have vz:=Yu (b:=zd) (by decide) (ze zd b*f);have vv:ze zd (Sp.dg zd (ze zd b*f))=ze zd b*f:=CS (by decide) hV0;have vl:=bX (b:=zd) (by decide) vd vz (k:=k+1) (by rw[vv];exact hv1) (by rw[vv];exact hv2);have v1:=(F7 vd vz vl).1;have ud:=Fh (b:=zd) (by decide) (ze zd a*f);have uv:ze zd (Sp.dg zd (ze zd a*f))=ze zd a*f:=CS (by decide) hU0;have ul:=NA (k:=a.length+1) hU0 hU1;have hfa:Sp.hR [f]=true:=Q7 (by simp) hdf;have bd:decide ((2*(0+(BN (Ar a*f)).length)+1000)*8<=281474976710656)=true:=w4 (by have:(BN (Ar a*f)).length<=a.length+1:=ul;omega);refine zc (by simp;omega) (zc (w4 (by omega)) (zc (by rw[Q7 lb9 db,hfa];rfl) (zc (by rw[Q7 la9 da,hfa];rfl) (zc bd ?_))));have ez:jh 0 (BN (Ar a*f)).length=(BN (Ar a*f)).length:=Nat.zero_add _;have evl:(BN (Ar b*f)).length=k+2:=vl;rw[ez,List.nil_append,evl];refine Al a (BN (Ar b*f)) (k+2) a.length f rfl la9 (by omega) (fun u hul hud huv=>?_) (a.length+1-(BN (Ar a*f)).length) (BN (Ar a*f)) (by have:(BN (Ar a*f)).length<=a.length+1:=ul;omega) ud uv;have hpn:=AN (b:=zd) (by decide) (a.length-(k+2)+1);have start:ze zd (u.drop (a.length-(k+2)+1))<ze zd (BN (Ar b*f)):=by
    have a1:=Ca zd u (a.length-(k+2)+1) (by omega);have a2:=Ax (b:=zd) (by decide) (AK hud (a.length-(k+2)+1));have a3:=Bo (b:=zd) (by decide) da;have a4:=yk a3 f0;have a5:(zd:Int)^a.length=(zd:Int)^(a.length-(k+2)+1)*(zd:Int)^(k+1):=by rw[<-Int.pow_add,show a.length-(k+2)+1+(k+1)=a.length by omega]
    have a6:=De (b:=zd) (by decide) db zb hbne;rw[hk,show k+2-1=k+1 by omega]at a6;have a7:=ya a6 (show 0<=f by omega);have a8:=zr a7 (z6 hpn);rw[a5,qf]at a4;show _<ze zd (Sp.dg zd (ze zd b*f));rw[vv];refine y8 (a:=(zd:Int)^(a.length-(k+2)+1)) ?_ (z6 hpn);omega
   have go:=A2 (Q:=Ad QG (a,b)) (BN (Ar b*f)) k a.length f ⟨f0,f1⟩ evl la9 (by omega) vd (by have:0<(BN (Ar b*f)).getD (k+1) 0:=v1;omega) (ze zd a*f) (fun u' qs ob hud' hdq hlt' he=>by
    have vv':ze zd (BN (Ar b*f))=ze zd b*f:=vv;rw[vv']at he hlt';have e:ze zd u'=f*(ze zd a-ze zd qs*ze zd b):=by
     have x1:ze zd b*f*ze zd qs=f*(ze zd qs*ze zd b):=by
      rw[yb (ze zd b) f,qf,yb (ze zd b)]
     rw[x1,yb (ze zd a)]at he;rw[Int.mul_sub];omega
    have h0:=Ax (b:=zd) (by decide) hud';have r0:0<=ze zd a-ze zd qs*ze zd b:=by
     rw[e]at h0;exact Int.nonneg_of_mul_nonneg_right h0 f0
    have r1:ze zd a-ze zd qs*ze zd b<ze zd b:=by
     rw[e,yb (ze zd b) f]at hlt';exact y8 hlt' (by omega)
    obtain⟨u1,u2⟩:=(Int.ediv_emod_unique (a:=ze zd a) (b:=ze zd b) (r:=ze zd a-ze zd qs*ze zd b) (q:=ze zd qs) hb0).2 ⟨by rw[yb (ze zd b)];omega,r0,r1⟩;refine hg _ _ ob ?_ ?_
    ·rw[Fp hdq];show BN (ze zd qs)=BN (ze zd a/ze zd b);rw[u1]
    ·show BN (ze zd u'/f)=BN (ze zd a % ze zd b);rw[u2,e,Int.mul_ediv_cancel_left _ (by omega)]) (a.length-(k+2)+1) u [] (by simp) hul hud (fun x hx=>by cases hx) start (by rw[huv];simp[ze])
   rw[List.append_nil]at go;exact go
end T164
theorem oH:D3 yT:=Aa T164.ok AO
namespace T92
variable {Q:PV->Ob->Prop}
theorem Al(g:Nat)(L:Int)(hL:∀n:Nat,(n:Int)<L->A5 (BN (n:Int))=true/\Ar (BN (n:Int))=n/\(BN (n:Int)).length<=9000)(hq:∀ob,Q (.dat li (BN (g:Int))) ob):∀(f x y:Nat),y<f->Nat.gcd x y=g->(x:Int)<L->(y:Int)<L->
  Ends yT (L1 (BN (x:Int)) (BN (y:Int))) Q
 |0,x,y,h,_,_,_=>by omega
 |f+1,x,y,hy,hg,bx,by'=>by
  obtain⟨nx,vx,lx⟩:=hL x bx;obtain⟨ny,vy,ly⟩:=hL y by'
  refine zj (Ap ..) ?_;conv=>zeta
  by_cases h0:y=0
  ·subst h0;rw[Nat.gcd_zero_right]at hg;subst hg;exact zt rfl (zg (hq _))
  ·have hlt:x % y<y:=Nat.mod_lt _ (by omega);have hl:(BN (y:Int)).length≠0:=by
    intro h;have:=yc.1 h;rw[this]at vy;simp[Ar,ze]at vy;omega
   rw[vx,vy,TP];refine zc (by simp;omega) (zc (Ac (Ac (Ac (Ac nx ny) (w4 lx)) (w4 ly)) (w4 (by omega))) ?_);exact Al g L hL hq f y (x % y) (by omega) (by rw[Nat.gcd_comm, <-Nat.gcd_rec,Nat.gcd_comm];exact hg) by' (by omega)
theorem UR{a:List Int}(h:A5 a=true):a=BN (Ar a)/\0<=Ar a:=by
 obtain⟨_,d,z⟩:=Bk h;exact⟨Ie (by decide) d z,Ax (by decide) d⟩
theorem VK(n:Nat)(h:(n:Int)<(zd:Int)^9000):A5 (BN (n:Int))=true/\Ar (BN (n:Int))=n/\(BN (n:Int)).length<=9000:=by
 obtain⟨a,_,b,c⟩:=GN (n:=(n:Int)) (k:=9000) (Int.natCast_nonneg n) h (by decide);exact⟨a,b,c⟩
theorem ok:Ag Bh 92 Kj:=by
 refine Cn oH (fun(i:List Int×List Int) hi=>?_);obtain⟨a,b⟩:=i;have hi:(A5 a&&A5 b&&decide (a.length<=9000)&&decide (b.length<=9000))=true:=hi;rw[zh,zh,zh,w5,w5]at hi;obtain⟨⟨⟨na,nb⟩,la9⟩,lb9⟩:=hi;obtain⟨ea,a0⟩:=UR na;obtain⟨eb,b0⟩:=UR nb;have la:Ar a<(zd:Int)^9000:=zw (Bo (b:=zd) (by decide) (Bk na).2.1) (AH (by decide) la9);have lb:Ar b<(zd:Int)^9000:=zw (Bo (b:=zd) (by decide) (Bk nb).2.1) (AH (by decide) lb9);have key:∀(x y:Nat),Ar a=x->Ar b=y->Ends yT (L1 a b) (Ad Kj (a,b)):=by
  intro x y hx hy;rw[ea,eb,hx,hy];rw[hx]at la;rw[hy]at lb;refine Al (Nat.gcd x y) _ VK (fun ob=>yg rfl rfl ?_) (y+1) x y (Nat.lt_succ_self _) rfl la lb;have e:qm (Ar (BN (x:Int))) (Ar (BN (y:Int)))=((Nat.gcd x y:Nat):Int):=by
   rw[(VK x la).2.1,(VK y lb).2.1,Fk];rfl
  exact wi BN e.symm
 obtain⟨x,hx⟩:=yt a0;obtain⟨y,hy⟩:=yt b0;exact ye (Am a b) (key x y hx hy)
end T92
theorem mE:D3 Zn:=
 Aa (G3 (by kernel_rfl) (Bl (by kernel_rfl))) (Aa (G3 (by kernel_rfl) (Bl (by kernel_rfl))) (Aa (G3 (by kernel_rfl) (Bl (by kernel_rfl))) (Aa (G3 (by kernel_rfl) (Bl (by kernel_rfl))) AO)))
theorem E9:D3 Ng:=fun g sp h=>by cases h
namespace T211
variable {Q:PV->Ob->Prop}
theorem xK:∀i:Fin 10,(Dm.getD i.1 0).toNat<128:=by decide
theorem EA(s:List UInt8)(i:Nat)(o:List Bool)(hi:i<10)(ho:o.length=256)(h:Ends Zn (L2 s Dm Dm ((i+1:Nat):Int) (o.set (Dm.getD i 0).toNat true)) Q):Ends Zn (L2 s Dm Dm (i:Int) o) Q:=by
 have hl:Dm.length=10:=rfl;have hc:=xK ⟨i,hi⟩;have hc:(Dm.getD i 0).toNat<128:=hc;have e:zi .i64 ((i:Int)+1)=((i+1:Nat):Int):=by rw[wr _ (by omega) (by omega)];omega
 refine zj (AY ..) ?_;conv=>zeta
 rw[hl,e,zf,zf];exact zc (w4 (by omega)) (zc (Ac (w4 (by omega)) (w4 (by omega))) (zt (w8 (by omega)) (zc (Ac (w4 (show(0:Int)<=((Dm.getD i 0).toNat:Int)by omega)) (w4 (by omega))) (zc (w4 (by omega)) h))))
def Tb(o:List Bool):Prop:=o.length=256/\∀c:UInt8,o.getD c.toNat false=BL c
theorem Ck(s t v0:List UInt8)(v4:Int)(o0:List Bool)(v0':List UInt8)(o1 o0':List Bool)(p1 p0:List Bool)(hT:Tb p1):∀(w:List UInt8),(∀ob,Q (.dat .str (w.dropWhile BL)) ob)->Ends Zn (L7 s t v0 v4 o0 v0' o1 o0' w p1 p0) Q
 |[],hq=>zj (ET ..) (zt (by simp) (zg (hq _)))
 |c::r,hq=>by
  have hc:c.toNat<256:=c.toNat_lt;have g0:(c::r).getD 0 0=c:=rfl;have e:(qn 1 (c::r)).take (yv (c::r).length 1)=r:=by show r.take ((r.length+1)-1)=r;rw[ym];exact yd
  refine zj (ET ..) ?_;conv=>zeta
  rw[g0,zf,hT.2,hT.1,e];refine zc (by simp) (zc (by simp) (zc (Ac (w4 (show(0:Int)<=(c.toNat:Int)by omega)) (w4 (by omega))) (zc (w4 hc) (zl (fun d=>?_) (fun d=>zc (by simp) ?_)))))
  ·have d:BL c=false:=by simpa using d
   rw[yr,wc (by rw[d];decide)]at hq;exact zg (hq _)
  ·have d:BL c=true:=by simpa using d
   rw[yr,wd d]at hq;exact Ck s t v0 v4 o0 v0' o1 o0' p1 p0 hT r hq
theorem BS(s t v0:List UInt8)(v4:Int)(o0:List Bool)(o1 o0':List Bool)(hT:Tb o1):∀(n:Nat) (w:List UInt8),w.length=n->n<=1000000->(∀ob,Q (.dat .str (((w.reverse.dropWhile BL).reverse).dropWhile BL)) ob)->Ends Zn (L4 s t v0 v4 o0 w o1 o0') Q
 |0,w,hl,_,hq=>by
  have:w=[]:=yc.1 hl;subst this;exact zj (CJ ..) (zt (by simp) (zj (HO ..) (zt (by simp) (zg (hq _)))))
 |n+1,w,hl,hn,hq=>by
  obtain⟨p,c,rfl⟩:∃p c,w=p++[c]:=by
   have hne:w≠[]:=by rintro rfl;simp at hl
   exact⟨w.dropLast,w.getLast hne,(List.dropLast_concat_getLast hne).symm⟩
  have hp:p.length=n:=by simpa using hl
  have hc:c.toNat<256:=c.toNat_lt;have e1:zi .i64 (((p++[c]).length:Int)-1)=(n:Int):=by rw[hl,wr _ (by omega) (by omega)];omega
  have g1:(p++[c]).getD n 0=c:=DH _ _ _ _ hp;have t1:(p++[c]).take n=p:=by rw[<-hp];exact List.take_left
  have hr:(p++[c]).reverse=c::p.reverse:=by simp
  rw[hr,yr]at hq;refine zj (CJ ..) (zc (w4 (by omega)) ?_);rw[e1,zf,g1,t1,zf,hT.2,hT.1,hl];refine zc (by simp;omega) (zc (Ac (w4 (show(0:Int)<=(c.toNat:Int)by omega)) (w4 (by omega))) (zc (w4 hc) (zl (fun d=>?_) (fun d=>zc (by simp) ?_))))
  ·have d:BL c=false:=by simpa using d
   rw[wc (by rw[d];decide),List.reverse_cons,List.reverse_reverse]at hq;exact Ck s t v0 v4 o0 _ o1 o0' o1 o0' hT (p++[c]) hq
  ·have d:BL c=true:=by simpa using d
   rw[wd d]at hq;exact BS s t v0 v4 o0 o1 o0' hT n p hp (by omega) hq
theorem xP{o:List Bool}(h1:o.length=256)(h2:∀c:Fin 256,o.getD c.1 false=(Nat.ble 48 c.1&&Nat.ble c.1 57)):Tb o:=by
 refine⟨h1,fun c=>?_⟩;have:=h2 ⟨c.toNat,c.toNat_lt⟩;rw[show o.getD c.toNat false=_ from this];unfold BL;rw[qx];simp[Nat.ble_eq]
set_option maxRecDepth 10000 in
theorem ok:Ag Bh 211 Vk:=by
 refine Cn mE (fun(i:List UInt8×List UInt8) hi=>?_);obtain⟨s,t⟩:=i;have hi:(decide (t=Dm)&&decide (s.length<=1000000))=true:=hi;rw[zh,w5,w5]at hi;obtain⟨rfl,hl⟩:=hi;have hq:∀ob,Ad Vk (s,Dm) (.dat .str (((s.reverse.dropWhile BL).reverse).dropWhile BL)) ob:=fun ob=>yg rfl rfl rfl
 refine ye (Am s Dm) (zl (fun c=>?_) (fun c=>zt (by decide) (zt (by decide) ?_)))
 ·have c:s=[]:=by simpa using c
  subst c;exact zg (hq _)
 ·refine EA s 0 _ (by decide) rfl (EA s 1 _ (by decide) rfl (EA s 2 _ (by decide) rfl (EA s 3 _ (by decide) rfl (EA s 4 _ (by decide) rfl (EA s 5 _ (by decide) rfl (EA s 6 _ (by decide) rfl (EA s 7 _ (by decide) rfl (EA s 8 _ (by decide) rfl (EA s 9 _ (by decide) rfl ?_)))))))));refine zj (AY ..) (zt (by decide) (zc (by decide+kernel) (zc (by decide+kernel) (zc (by decide+kernel) (zc rfl (BS s _ _ _ _ _ _ (xP rfl ?_) s.length s rfl hl hq))))));decide+kernel
end T211
theorem mB:D3 XH1:=Aa T211.ok AO
theorem dropWhile_nil{p:UInt8->Bool}:∀ {l:List UInt8},l.dropWhile p=[]↔l.all p=true
 |[]=>by simp
 |a::l=>by
  rw[yr,yx];cases h:p a with
  |true=>simp only[wk,yq];exact dropWhile_nil
  |false=>simp
theorem Il{p:UInt8->Bool}:∀ {l:List UInt8} {a:UInt8} {r:List UInt8},l.dropWhile p=a::r->p a=false
 |[],a,r,h=>by simp at h
 |b::l,a,r,h=>by
  rw[yr]at h;cases hb:p b with
  |true=>rw[hb,wd rfl]at h;exact Il h
  |false=>
   rw[hb]at h;simp at h;rw[<-h.1];exact hb
theorem LI(s:List UInt8):OP s=[]↔Aj s=true:=by
 unfold OP Aj;rw[dropWhile_nil,qo];constructor
 ·intro h;cases hd:s.reverse.dropWhile BL with
  |nil=>have:=dropWhile_nil.1 hd;rwa [qo]at this
  |cons a r=>
   rw[hd,yx,Il hd]at h;cases h
 ·intro h;have:s.reverse.dropWhile BL=[]:=dropWhile_nil.2 (by rwa [qo]);rw[this];rfl
theorem T151.ok:Ag Bh 151 LY:=by
 refine Cn mB (fun(s:List UInt8) hl=>?_);have hl:s.length<=1000000:=w6 hl;have hq:∀v b ob,v=.bl b\/v=.dat .bool b->b=AT s->Ad LY s v ob:=by
  rintro v b ob (rfl|rfl) hb
  ·exact yg rfl rfl hb
  ·exact yg rfl rfl hb
 refine ye (T151.Am s) (zl (fun c=>zc ?_ (zl (fun d=>zc ?_ (zl (fun e=>zg (hq _ _ _ (.inl rfl) ?_)) (fun e=>zg (hq _ _ _ (.inr rfl) ?_)))) (fun d=>zg (hq _ _ _ (.inl rfl) ?_)))) (fun c=>zg (hq _ _ _ (.inl rfl) ?_)))
 ·exact Ac (w4 rfl) (w4 hl)
 ·have c:s≠[]:=by simpa using c
  have:s.length≠0:=fun h=>c (yc.1 h)
  exact w4 (by omega)
 ·have c:s≠[]:=by simpa using c
  have d:OP s=[]:=by simpa using d
  have d:=(LI s).1 d;have e:s.getD 0 0≠48:=by
   intro h;rw[h]at e;exact wh e (by decide)
  unfold AT;rw[d,w4 c,w4 e];rfl
 ·have c:s≠[]:=by simpa using c
  have d:OP s=[]:=by simpa using d
  have d:=(LI s).1 d;have e:s.getD 0 0=48:=by
   have:((s.getD 0 0).toNat:Int)=48:=by simpa using e
   exact yw.1 (by show _=48;omega)
  unfold AT;rw[d,w4 c,w8 (by rw[e];exact fun h=>h rfl)];show(s==[48])=decide (s=[48]);rw[qx];simp
 ·have d:¬OP s=[]:=by simpa using d
  have d:Aj s=false:=by
   cases h:Aj s with
   |true=>exact wh ((LI s).2 h) d
   |false=>rfl
  unfold AT;rw[d];simp
 ·have c:s=[]:=by simpa using c
  subst c;rfl
theorem T149.ok:Ag Bh 149 sA:=by
 refine Cn E9 (fun(i:List UInt8×List UInt8) hi=>?_);obtain⟨s,t⟩:=i;have hi:(decide (t=[45])&&decide (s.length<=1000000))=true:=hi;rw[zh,w5,w5]at hi;obtain⟨rfl,hl⟩:=hi;have hno:s.getD 0 0≠45->(s,false)=(AZ s,ql s):=fun h=>by
  unfold AZ ql;rw[wc h,w8 h]
 refine ye (T149.Am s [45]) ?_;conv=>zeta
 cases s with
 |nil=>exact zt (by decide) (zg (yg rfl rfl (hno (by decide))))
 |cons c r=>
  have ht:(c::r).take 1=[c]:=rfl;refine zc (by simp;omega) (zc (by simp) ?_);show Ends Ng (.ite (!List.take 1 (c::r)==[45]) _ _) _;rw[ht];refine zl (fun d=>zg (yg rfl rfl (hno ?_))) (fun d=>zc (by simp) (zg (yg rfl rfl ?_)))
  ·show c≠45;rintro rfl;exact wh d (by decide)
  ·have d:c=45:=by simpa using d
   subst d;show(((qn 1 ((45:UInt8)::r)).take (yv ((45:UInt8)::r).length 1)),true)=(AZ (45::r),ql (45::r));have e:(qn 1 ((45:UInt8)::r)).take (yv ((45:UInt8)::r).length 1)=r:=by show r.take ((r.length+1)-1)=r;rw[ym];exact yd
   rw[e];rfl
theorem uQ{F:Fz}{s:List UInt8}{c:Int}{args:List V}(h:LU F (Af [Sh.str,Sh.int .u8] (s,c)) args):args=[.str s,.int .u8 c]:=by
 have:=h (fun _=>none) 0;simp only[Af,B8,Ba]at this;obtain⟨a,as1,rfl,h1,b,as2,rfl,h2,rfl⟩:=this;simp only[PR,DC,List.cons.injEq,wn]at h1 h2;rw[h1,h2]
theorem T316.ok:Ag Bh 316 rL:=by
 refine .inr ⟨PK.indexByte.run,by kernel_rfl,fun F h args i ha hp=>?_⟩;obtain⟨s,c⟩:=i;have:=uQ ha;subst this;refine⟨Ui (s.findIdx? fun x=>x==c.toNat.toUInt8),rfl,fun ρ N=>?_⟩;show PR F ρ N (.dat i64 (Pn s c)) _;unfold Pn;cases s.findIdx? fun x=>x==c.toNat.toUInt8 with
 |none=>simp[PR,DC,Ui]
 |some i=>simp[PR,DC,Ui,Det.i64]
theorem lV:D3 XH2:=Aa T316.ok AO
theorem VI{p:UInt8->Bool}{s:List UInt8}{i:Nat}(h:s.findIdx? p=some i):i<s.length:=(List.findIdx?_eq_some_iff_getElem.1 h).1
theorem T150.ok:Ag Bh 150 fX:=by
 refine Cn lV (fun(i:List UInt8×List UInt8) hi=>?_);obtain⟨s,t⟩:=i;have hi:(decide (t=[47])&&decide (s.length<=1000000))=true:=hi;rw[zh,w5,w5]at hi;obtain⟨rfl,hl⟩:=hi;have hany:s.any (fun x=>x==47)=(s.findIdx? fun x=>x==47).isSome:=by
  rw[List.findIdx?_isSome]
 refine ye (T150.Am s [47]) (zt (by decide) (zl (fun c=>?_) (fun c=>zc (by decide) (zc (by decide) (zc (by decide) ?_)))))
 ·have c:s=[47]:=by
   have:[47]=s:=by simpa using c
   exact this.symm
  subst c;exact zc rfl (zc rfl (zc rfl (zg (yg rfl rfl rfl))))
 ·have ei:Pn s (((([47]:List UInt8).getD 0 0).toNat:Nat):Int)=match s.findIdx? (fun x=>x==47)with
   |some i=>(i:Int)
   |none=> -1:=rfl
  cases hf:s.findIdx? (fun x=>x==47)with
  |none=>
   rw[hf]at ei;have ei:Pn s (((([47]:List UInt8).getD 0 0).toNat:Nat):Int)= -1:=ei;rw[ei];refine zt (by decide) (zg (yg rfl rfl ?_));show(s,[],false)=(Aw s,z7 s,Bj s);unfold Aw z7 Bj;rw[hany,hf];rfl
  |some k=>
   rw[hf]at ei;have ei:Pn s (((([47]:List UInt8).getD 0 0).toNat:Nat):Int)=(k:Int):=ei;have hk:=VI hf;have e1:zi .i64 ((k:Int)+(([47]:List UInt8).length:Int))=((k+1:Nat):Int):=by
    show zi .i64 ((k:Int)+1)=_;rw[wr _ (by omega) (by omega)];omega
   rw[ei,e1,zf,zf];refine zc (by simp) (zc (by simp;omega) (zc (by simp;omega) (zg (yg rfl rfl ?_))));show(s.take k,(s.drop (k+1)).take (yv s.length (k+1)),true)=(Aw s,z7 s,Bj s);unfold Aw z7 Bj;have e2:(s.drop (k+1)).take (yv s.length (k+1))=s.drop (k+1):=zo (by rw[zk];exact yo _);rw[hany,hf,e2];rfl
namespace T165
theorem Al{Q:PV->Ob->Prop}(s:List UInt8)(hs:Aj s=true)(hl:s.length<=18)(hq:∀ob,Q (.dat i64 (Ay 0 s)) ob):∀(r:List UInt8) (i:Nat),s.drop i=r->i<=s.length->Ends kQ (L1 s (Ay 0 (s.take i)) i) Q
 |[],i,h,hi=>by
  have he:i=s.length:=drop_nil h hi;subst he;rw[yd];exact zj (Ap ..) (zt (by simp) (zg (hq _)))
 |c::r,i,h,hi=>by
  obtain⟨h1,h2,h3⟩:=drop_cons (d:=0) h;have hb:=Be (Bb hs i);have hlen:(s.take i).length=i:=by rw[zu];omega
  rw[hlen]at hb;have hp:(10:Int)^i<=10^17:=AH (by decide) (by omega);have hc:BL c=true:=by
   unfold Aj at hs;rw[qp]at hs;exact hs c (PT h)
  have hd:=CY hc;have hc0:48<=c.toNat/\c.toNat<=57:=by unfold HA at hd;omega
  have e1:zi .i64 (c.toNat:Int)=(c.toNat:Int):=wr _ (by omega) (by omega);have hp17:(10:Int)^17=100000000000000000:=by decide
  have e2:zi .i64 (zi .i64 (zi .i64 (10*Ay 0 (s.take i))+(c.toNat:Int))-48)=Ay 0 (s.take (i+1)):=by
   rw[LL h,CL];show _=10*Ay 0 (s.take i)+((c.toNat:Int)-48);generalize Ay 0 (s.take i)=D at*;rw[wr (10*D) (by omega) (by omega),wr (10*D+(c.toNat:Int)) (by omega) (by omega),wr _ (by omega) (by omega)];omega
  have e3:zi .i64 ((i:Int)+1)=((i+1:Nat):Int):=by rw[wr _ (by omega) (by omega)];omega
  refine zj (Ap ..) (zc (by simp;omega) ?_);rw[zf,h2,e1,e2,e3];exact zc (by simp;omega) (Al s hs hl hq r (i+1) h3 h1)
theorem ok:Ag Bh 165 SY:=by
 refine Cn SX (fun(s:List UInt8) hs=>?_);have hs:(decide (s.length<=18)&&Aj s)=true:=hs;rw[zh,w5]at hs;exact ye (Am s) (Al s hs.2 hs.1 (fun ob=>yg rfl rfl rfl) s 0 rfl (yu _))
end T165
theorem pQ:D3 aR:=Aa T165.ok (Aa T168.ok AO)
theorem LJ{neg:Bool}{w:List Int}{D:Int}(hd:Au zd w)(hv:ze zd w=D):(B7 neg w,As w)=(Sp.rN (if neg=true then -D else D),Sp.rW (if neg=true then -D else D)):=by
 have h0:=Ax (b:=zd) (by decide) hd;rw[hv]at h0;have hw:As w=BN D:=by rw[Fp hd];show BN (ze zd w)=_;rw[hv]
 have hnil:BN D=[]↔D=0:=uR (by decide) h0;have ea:Ae (if neg=true then -D else D)=D:=by rw[Ah];split<;>omega
 unfold B7 Sp.rW Sp.rN;rw[ea,hw];congr 1;cases neg with
 |false=>simp;omega
 |true=>
  simp only[wk,yq,wm,hnil,decide_eq_decide];omega
namespace T163
variable {Q:PV->Ob->Prop}
theorem yC:(10:Int)^9=1000000000:=by decide
theorem I2{s:List UInt8}{m:Nat}(hm:m+9=s.length):Ay 0 s=Ay 0 (s.take m)*1000000000+Ay 0 (s.drop m):=by
 conv=>lhs;rw[<-qe m s]
 rw[CL,Et (s.drop m),zk,show s.length-m=9 by omega,yC]
theorem Cu{s:List UInt8}(hs:Aj s=true)(h:s.length<=9):0<=Ay 0 s/\Ay 0 s<1000000000:=by
 have:=Be hs;have h2:(10:Int)^s.length<=10^9:=AH (by decide) h;rw[yC]at h2;omega
theorem BY{s:List UInt8}(hs:Aj s=true)(h:s.length<=18):DU s=true:=by
 unfold DU;rw[hs,Bool.and_true];exact w4 h
theorem Ci(neg:Bool)(D:Int)(hq:∀(w:List Int) ob,Au zd w->ze zd w=D->Q (.agg [.dat .bool (B7 neg w),.dat li (As w)]) ob):∀(f:Nat) (s:List UInt8) (o1:List Int),s.length<=f->Aj s=true->o1.length+s.length<=6000->Au zd o1->ze zd o1+(zd:Int)^o1.length*Ay 0 s=D->Ends aR (L3 s neg o1.length o1) Q:=by
 intro f;induction f with
 |zero=>
  intro s o1 hf hs hl hd he;have h9:s.length<=9:=by omega
  have hv:=Cu hs h9;have ht:(o1++[Bu s]).take (jh o1.length 1)=o1++[Bu s]:=zo (by simp);refine zj (CH ..) (zt (by simp;omega) (zc (BY hs (by omega)) (zc (by simp;omega) ?_)));rw[ht];refine zc (by simp;omega) (zg (hq _ _ (E4 hd hv) ?_));rw[B6];exact he
 |succ f ih=>
  intro s o1 hf hs hl hd he;by_cases h9:s.length<=9
  ·have hv:=Cu hs h9;have ht:(o1++[Bu s]).take (jh o1.length 1)=o1++[Bu s]:=zo (by simp);refine zj (CH ..) (zt (by simp;omega) (zc (BY hs (by omega)) (zc (by simp;omega) ?_)));rw[ht];refine zc (by simp;omega) (zg (hq _ _ (E4 hd hv) ?_));rw[B6];exact he
  ·obtain⟨m,hm⟩:∃m,m+9=s.length:=⟨s.length-9,by omega⟩;have e1:zi .i64 ((s.length:Int)-9)=(m:Int):=by rw[wr _ (by omega) (by omega)];omega
   have e2:(s.drop m).take (yv s.length m)=s.drop m:=zo (by rw[zk];exact yo _);have hv:=Cu (BP hs m) (by rw[zk];omega);refine zj (CH ..) (zc (by simp;omega) ?_);rw[e1,zf,e2];refine zc (by simp;omega) (zc (BY (BP hs m) (by rw[zk];omega)) (zc (by simp;omega) (zc (by simp;omega) ?_)));have:=ih (s.take m) (o1++[Bu (s.drop m)]) (by rw[zu];omega) (Bb hs m) (by simp;omega) (E4 hd hv) (by
    rw[B6,z8];show ze zd o1+(zd:Int)^o1.length*Ay 0 (s.drop m)+(zd:Int)^(o1.length+1)*Ay 0 (s.take m)=D;rw[JH,jd, <-qc, <-he,I2 hm];congr 2;omega)
   rw[z8]at this;exact this
theorem BS(D:Int)(hq:∀(w:List Int) ob,Au zd w->ze zd w=D->Q (.agg [.dat .bool (B7 false w),.dat li (As w)]) ob):∀(f:Nat) (s:List UInt8) (o1:List Int),s.length<=f->Aj s=true->o1.length+s.length<=6000->Au zd o1->ze zd o1+(zd:Int)^o1.length*Ay 0 s=D->Ends aR (L4 s o1.length o1) Q:=by
 intro f;induction f with
 |zero=>
  intro s o1 hf hs hl hd he;have h9:s.length<=9:=by omega
  have hv:=Cu hs h9;have ht:(o1++[Bu s]).take (jh o1.length 1)=o1++[Bu s]:=zo (by simp);refine zj (CJ ..) (zt (by simp;omega) (zc (BY hs (by omega)) (zc (by simp;omega) ?_)));rw[ht];refine zc (by simp;omega) (zg (hq _ _ (E4 hd hv) ?_));rw[B6];exact he
 |succ f ih=>
  intro s o1 hf hs hl hd he;by_cases h9:s.length<=9
  ·have hv:=Cu hs h9;have ht:(o1++[Bu s]).take (jh o1.length 1)=o1++[Bu s]:=zo (by simp);refine zj (CJ ..) (zt (by simp;omega) (zc (BY hs (by omega)) (zc (by simp;omega) ?_)));rw[ht];refine zc (by simp;omega) (zg (hq _ _ (E4 hd hv) ?_));rw[B6];exact he
  ·obtain⟨m,hm⟩:∃m,m+9=s.length:=⟨s.length-9,by omega⟩;have e1:zi .i64 ((s.length:Int)-9)=(m:Int):=by rw[wr _ (by omega) (by omega)];omega
   have e2:(s.drop m).take (yv s.length m)=s.drop m:=zo (by rw[zk];exact yo _);have hv:=Cu (BP hs m) (by rw[zk];omega);refine zj (CJ ..) (zc (by simp;omega) ?_);rw[e1,zf,e2];refine zc (by simp;omega) (zc (BY (BP hs m) (by rw[zk];omega)) (zc (by simp;omega) (zc (by simp;omega) ?_)));have:=ih (s.take m) (o1++[Bu (s.drop m)]) (by rw[zu];omega) (Bb hs m) (by simp;omega) (E4 hd hv) (by
    rw[B6,z8];show ze zd o1+(zd:Int)^o1.length*Ay 0 (s.drop m)+(zd:Int)^(o1.length+1)*Ay 0 (s.take m)=D;rw[JH,jd, <-qc, <-he,I2 hm];congr 2;omega)
   rw[z8]at this;exact this
theorem Al(neg:Bool)(s:List UInt8)(hs:Aj s=true)(hl:s.length<=5999)(hq:∀(w:List Int) ob,Au zd w->ze zd w=Ay 0 s->Q (.agg [.dat .bool (B7 neg w),.dat li (As w)]) ob):Ends aR (L1 s neg) Q:=by
 by_cases h9:s.length<=9
 ·have hv:=Cu hs h9;refine zj (Ap ..) (zt (by simp;omega) (zc (BY hs (by omega)) (zc rfl (zc rfl (zg (hq _ _ (E4 (l:=[]) (fun x hx=>by cases hx) hv) ?_))))));show ze zd [Ay 0 s]=_;exact Eh _
 ·obtain⟨m,hm⟩:∃m,m+9=s.length:=⟨s.length-9,by omega⟩;have e1:zi .i64 ((s.length:Int)-9)=(m:Int):=by rw[wr _ (by omega) (by omega)];omega
  have e2:(s.drop m).take (yv s.length m)=s.drop m:=zo (by rw[zk];exact yo _);have hv:=Cu (BP hs m) (by rw[zk];omega);refine zj (Ap ..) (zc (by simp;omega) ?_);rw[e1,zf,e2];refine zc (by simp;omega) (zc (BY (BP hs m) (by rw[zk];omega)) (zc rfl (zc (by simp;omega) ?_)));refine Ci neg (Ay 0 s) hq m (s.take m) [Bu (s.drop m)] (by rw[zu];omega) (Bb hs m) (by simp;omega) (E4 (l:=[]) (fun x hx=>by cases hx) hv) ?_;rw[Eh,I2 hm];show Ay 0 (s.drop m)+(zd:Int)^1*_=_;rw[yj,jg,qy,yb];exact Int.add_comm _ _
theorem A2(s:List UInt8)(hs:Aj s=true)(hl:s.length<=5999)(hq:∀(w:List Int) ob,Au zd w->ze zd w=Ay 0 s->Q (.agg [.dat .bool (B7 false w),.dat li (As w)]) ob):Ends aR (L2 s) Q:=by
 by_cases h9:s.length<=9
 ·have hv:=Cu hs h9;refine zj (AY ..) (zt (by simp;omega) (zc (BY hs (by omega)) (zc rfl (zc rfl (zg (hq _ _ (E4 (l:=[]) (fun x hx=>by cases hx) hv) ?_))))));show ze zd [Ay 0 s]=_;exact Eh _
 ·obtain⟨m,hm⟩:∃m,m+9=s.length:=⟨s.length-9,by omega⟩;have e1:zi .i64 ((s.length:Int)-9)=(m:Int):=by rw[wr _ (by omega) (by omega)];omega
  have e2:(s.drop m).take (yv s.length m)=s.drop m:=zo (by rw[zk];exact yo _);have hv:=Cu (BP hs m) (by rw[zk];omega);refine zj (AY ..) (zc (by simp;omega) ?_);rw[e1,zf,e2];refine zc (by simp;omega) (zc (BY (BP hs m) (by rw[zk];omega)) (zc rfl (zc (by simp;omega) ?_)));refine BS (Ay 0 s) hq m (s.take m) [Bu (s.drop m)] (by rw[zu];omega) (Bb hs m) (by simp;omega) (E4 (l:=[]) (fun x hx=>by cases hx) hv) ?_;rw[Eh,I2 hm];show Ay 0 (s.drop m)+(zd:Int)^1*_=_;rw[yj,jg,qy,yb];exact Int.add_comm _ _
theorem ok:Ag Bh 163 Sv:=by
 refine Cn pQ (fun(s:List UInt8) hs=>?_);have hs:(decide (s.length<=5999)&&(if s.getD 0 0=45 then Aj (s.drop 1)else Aj s))=true:=hs;rw[zh,w5]at hs;obtain⟨hl,hs⟩:=hs;have fin:∀(neg:Bool) (D:Int),Cc s=(if neg=true then -D else D)->∀(w:List Int) ob,Au zd w->ze zd w=D->Ad Sv s (.agg [.dat .bool (B7 neg w),.dat li (As w)]) ob:=by
  intro neg D hr w ob hd hv;refine yg rfl rfl ?_;show(B7 neg w,As w)=(Sp.rN (Cc s),Sp.rW (Cc s));rw[hr];exact LJ hd hv
 refine ye (Am s) ?_;conv=>zeta
 cases s with
 |nil=>exact zt (by decide) (A2 [] rfl (by decide) (fin false 0 rfl))
 |cons c r=>
  have g0:(c::r).getD 0 0=c:=rfl;rw[g0]at hs;rw[g0];refine zc (by simp) (zc (by simp) (zl (fun d=>?_) (fun d=>?_)))
  ·have hc:c=45:=by
    have:(c.toNat:Int)=45:=by simpa using d
    exact yw.1 (by show _=45;omega)
   rw[wd hc]at hs;have e:(qn 1 (c::r)).take (yv (c::r).length 1)=r:=by show r.take ((r.length+1)-1)=r;rw[ym];exact yd
   rw[d,e];refine zc (by simp) (Al true r hs (by simp at hl;omega) (fin true _ ?_));unfold Cc;rw[g0,wd hc,wd rfl];rfl
  ·have hc:c≠45:=by
    rintro rfl;exact wh d (by decide)
   rw[wc hc]at hs;rw[d];refine Al false (c::r) hs hl (fin false _ ?_);unfold Cc;rw[g0,wc hc,wc (by decide)]
end T163
theorem pT:D3 P6:=
 Aa T105n.ok (Aa T216.ok (Aa T159.ok (Aa T158.ok (Aa T174.ok (Aa (G3 (by kernel_rfl) (Bl (by kernel_rfl))) (Aa (G3 (by kernel_rfl) (Bl (by kernel_rfl))) AO))))))
theorem RC(k:Nat):Ew 18 (k:Int)=((min 18 k:Nat):Int):=by unfold Ew;split<;>omega
theorem sD(n:Int):zi .u8 n=n % 256:=by simp[zi,IntKind.bits,IntKind.signed]
theorem gD(k:Nat):(10:Int)^k<=(Ai:Int)^k:=by
 induction k with
 |zero=>exact qz _
 |succ k ih=>
  rw[yj,yj];have h1:=ya ih (show(0:Int)<=10 by decide);have h2:=zr (show(10:Int)<=(Ai:Int)by decide) (z6 (AN (b:=Ai) (by decide) k));exact qg h1 h2
theorem Gm{n:Int}(h0:0<=n)(h:n<(10:Int)^(6000:Nat)):A4 (CP n)=true:=by
 refine Di ?_;have h1:=gD 6000;have h2:(Ai:Int)^6000<=(Ai:Int)^9000:=AH (by decide) (by decide);have h3:Ae n=n:=by rw[Ah];omega
 rw[h3];exact zw h (qg h1 h2)
theorem Nw(m n:Int):EG (Cz m,Cx m) (Cz n,Cx n)=Cz (m*n)/\EW (Cz m,Cx m) (Cz n,Cx n)=Cx (m*n):=by
 constructor
 ·show Cz (zq (CP _)*zq (CP _))=_;rw[Cr,Cr]
 ·show Cx (zq (CP _)*zq (CP _))=_;rw[Cr,Cr]
theorem qP{a b:AR}(h:0<=zq a+zq b):Eo a b=CP (zq a+zq b):=by
 unfold Eo;split
 ·next c=>
  have:=Ed c.2.2;rw[Bi c.1,Bi c.2.1]at h ⊢;exact(B0 (by omega)).symm
 ·rfl
theorem Nx{m v:Int}(hm:0<=m)(hv:0<=v):Iq (Cz m,Cx m) (v,BA v)=Cz (m+v)/\H6 (Cz m,Cx m) (v,BA v)=Cx (m+v):=by
 have e1:zq (Cz m,Cx m)=m:=Cr m;have e2:zq (v,BA v)=v:=by rw[Ei,Ep]
 have:=qP (a:=(Cz m,Cx m)) (b:=(v,BA v)) (by rw[e1,e2];omega);rw[e1,e2]at this;exact⟨wi Prod.fst this,wi Prod.snd this⟩
theorem Ny(n:Nat):UD ((10:Int),BA (10:Int)) (n:Int)=Cz (10^n)/\UM ((10:Int),BA (10:Int)) (n:Int)=Cx (10^n):=by
 have e:Sp.pI (zq ((10:Int),BA (10:Int))) (n:Int)=10^n:=by rw[RN,Ei,Ep,zf]
 unfold UD UM;rw[e];exact⟨rfl,rfl⟩
theorem hO:A4 ((10:Int),BA (10:Int))=true:=by rw[Ei];decide
theorem fE{n:Nat}(h:n<=18):kF (zq ((10:Int),BA (10:Int))) (n:Int)=true:=by
 unfold kF;have e:Sp.pI (zq ((10:Int),BA (10:Int))) (n:Int)=10^n:=by rw[RN,Ei,Ep,zf]
 rw[e];have h1:(10:Int)^n<=10^18:=AH (by decide) h;have h0:(0:Int)<10^n:=AN (by decide) n;have h2:(10:Int)^18<18446744073709551616^1:=by decide
 have h3:(18446744073709551616:Int)^(1:Nat)<=18446744073709551616^(4000:Nat):=AH (by decide) (by decide);have h4:Ae ((10:Int)^n)=10^n:=by rw[Ah];omega
 rw[h4];exact Ac (Ac (w4 (by omega)) (w4 (by omega))) (w4 (yh h1 (zw h2 h3)))
theorem US{v:Int}(h0:0<=v)(h:v<1000000000000000000):A4 (v,BA v)=true:=by
 rw[Ei];unfold A4;exact Ac (Kx (C4 (by omega) (by omega))) (w4 (yu _))
theorem XV{w:List UInt8}(hs:Aj w=true)(h:w.length<=18):0<=Ay 0 w/\Ay 0 w<1000000000000000000:=by
 have:=Be hs;have h2:(10:Int)^w.length<=10^18:=AH (by decide) h;have h3:(10:Int)^18=1000000000000000000:=by decide
 omega
namespace T153
variable {Q:PV->Ob->Prop}
theorem Ck(W:List UInt8)(neg:Bool)(b1:Int)(b1w:List Int)(b0:Int)(w:List UInt8)(n:Nat)(hw:w=W.take n)(hW:Aj W=true)(hn:n=min 18 W.length)(h1:1<=W.length)(a o0':Int)(a0:0<=a)(hj:A4 (CP a)=true)(hj2:A4 (CP (a*10^n))=true)
  (hgo:Ends P6 (L5 (W.drop n) neg (Cz (a*10^n+Ay 0 w)) (Cx (a*10^n+Ay 0 w)) o0') Q):
  ∀(r:List UInt8) (j:Nat),w.drop j=r->j<=w.length->Ends P6 (L7 W neg b1 b1w b0 w (Ay 0 (w.take j)) w.length w.length j (w.map fun b=>(b.toNat:Int)) (Cz a) (Cx a) o0') Q
 |[],j,hr,hjw=>by
  have hdw:Aj w=true:=by rw[hw];exact Bb hW n
  have hwl:w.length=n:=by rw[hw,zu];omega
  have he:j=w.length:=drop_nil hr hjw;subst he;have hv:=XV hdw (by omega);obtain⟨c,t,hc⟩:∃c t,w=c::t:=by
   cases w with
   |nil=>simp at hwl;omega
   |cons c t=>exact⟨c,t,rfl⟩
  have hc0:((((w.getD 0 0).toNat:Int)==(45:Int))=false):=by
   rw[hc]at hdw ⊢;unfold Aj at hdw;rw[yx,zh]at hdw;have:=CY hdw.1;unfold HA at this;show(((c.toNat:Int)==(45:Int))=false);simp;omega
  have ht:(W.drop n).take (yv W.length n)=W.drop n:=zo (by rw[zk];exact yo _);have p0:0<=a*10^n:=y7 a0 (z6 (AN (by decide) n));have jp:A4 (Cz (10^n),Cx (10^n))=true:=by
   refine FG (Gm (n:=(10:Int)^n) (z6 (AN (by decide) n)) ?_);have x1:(10:Int)^n<=10^18:=AH (by decide) (by omega);have x2:(10:Int)^18<10^19:=by decide
   have x3:(10:Int)^19<=10^(6000:Nat):=AH (by decide) (by decide);exact yh x1 (zw x2 x3)
  refine zj (ET ..) (zt (by simp) (zc (w4 (by omega)) ?_));rw[hc0,RC, <-hn,(Ny n).1,(Ny n).2,yd];refine zt rfl (zc rfl (zc (Ac hO (fE (by omega))) (zc (Ac hj jp) (zc rfl ?_))));rw[(Nw _ _).1,(Nw _ _).2,(Nx p0 hv.1).1,(Nx p0 hv.1).2,zf,ht];exact zc (Ac hj2 (US hv.1 hv.2)) (zc (by simp;omega) hgo)
 |c::r,j,hr,hjw=>by
  have hdw:Aj w=true:=by rw[hw];exact Bb hW n
  have hwl:w.length=n:=by rw[hw,zu];omega
  obtain⟨g1,g2,g3⟩:=drop_cons (d:=0) hr;have hcd:BL c=true:=by
   unfold Aj at hdw;rw[qp]at hdw;exact hdw c (PT hr)
  have hd:=CY hcd;have hlt:(w.take j).length=j:=by rw[zu];omega
  have hb:=Be (Bb hdw j);rw[hlt]at hb;have hp:(10:Int)^j<=10^17:=AH (by decide) (by omega);have hp17:(10:Int)^17=100000000000000000:=by decide
  have gm:(w.map fun b=>(b.toNat:Int)).getD j 0=(c.toNat:Int):=by
   rw[yf,List.getElem?_map,yi g1];have:w[j]=c:=by rw[<-g2,yf,yi g1];rfl
   rw[this];rfl
  have e8:zi .u8 ((c.toNat:Int)-48)=HA c:=by
   rw[sD];unfold HA at hd ⊢;omega
  have e2:zi .i64 (zi .i64 (Ay 0 (w.take j)*10)+zi .i64 (HA c))=Ay 0 (w.take (j+1)):=by
   rw[LL hr,CL];show _=10*Ay 0 (w.take j)+HA c;generalize Ay 0 (w.take j)=D at*;rw[wr (D*10) (by omega) (by omega),wr (HA c) (by omega) (by omega),wr _ (by omega) (by omega)];omega
  have e3:zi .i64 ((j:Int)+1)=((j+1:Nat):Int):=by rw[wr _ (by omega) (by omega)];omega
  refine zj (ET ..) (zc (by simp;omega) ?_);rw[zf,gm,e8,e2,e3];refine zc (by simp;omega) (zc (by simp;omega) (zt (w8 (by omega)) ?_));exact Ck W neg b1 b1w b0 w n hw hW hn h1 a o0' a0 hj hj2 hgo r (j+1) g3 g1
theorem Ci(W:List UInt8)(neg:Bool)(b1:Int)(b0:Int)(w:List UInt8)(n:Nat)(hw:w=W.take n)(hW:Aj W=true)(hn:n=min 18 W.length)(h1:1<=W.length)(a o0':Int)(ha:a=0)(a0:0<=a)(hj:A4 (CP a)=true)(hj2:A4 (CP (a*10^n))=true)
  (hgo:Ends P6 (L5 (W.drop n) neg (Cz (a*10^n+Ay 0 w)) (Cx (a*10^n+Ay 0 w)) o0') Q):
  ∀(r:List UInt8) (j:Nat),w.drop j=r->j<=w.length->Ends P6 (L3 W neg b1 b0 w (Ay 0 (w.take j)) w.length w.length j (w.map fun b=>(b.toNat:Int)) 0 o0') Q
 |[],j,hr,hjw=>by
  have hdw:Aj w=true:=by rw[hw];exact Bb hW n
  have hwl:w.length=n:=by rw[hw,zu];omega
  have he:j=w.length:=drop_nil hr hjw;subst he;have hv:=XV hdw (by omega);obtain⟨c,t,hc⟩:∃c t,w=c::t:=by
   cases w with
   |nil=>simp at hwl;omega
   |cons c t=>exact⟨c,t,rfl⟩
  have hc0:((((w.getD 0 0).toNat:Int)==(45:Int))=false):=by
   rw[hc]at hdw ⊢;unfold Aj at hdw;rw[yx,zh]at hdw;have:=CY hdw.1;unfold HA at this;show(((c.toNat:Int)==(45:Int))=false);simp;omega
  have ht:(W.drop n).take (yv W.length n)=W.drop n:=zo (by rw[zk];exact yo _);have p0:0<=a*10^n:=y7 a0 (z6 (AN (by decide) n));have jp:A4 (Cz (10^n),Cx (10^n))=true:=by
   refine FG (Gm (n:=(10:Int)^n) (z6 (AN (by decide) n)) ?_);have x1:(10:Int)^n<=10^18:=AH (by decide) (by omega);have x2:(10:Int)^18<10^19:=by decide
   have x3:(10:Int)^19<=10^(6000:Nat):=AH (by decide) (by decide);exact yh x1 (zw x2 x3)
  refine zj (CH ..) (zt (by simp) (zc (w4 (by omega)) ?_));rw[hc0,RC, <-hn,(Ny n).1,(Ny n).2,yd];refine zt rfl (zc rfl (zc (Ac hO (fE (by omega))) (zc (Ac (show A4 ((0:Int),[])=true by decide) jp) (zc rfl ?_))));rw[show EG ((0:Int),[]) (Cz (10^n),Cx (10^n))=Cz (a*10^n)by rw[ha];exact(Nw 0 _).1,show EW ((0:Int),[]) (Cz (10^n),Cx (10^n))=Cx (a*10^n)by rw[ha];exact(Nw 0 _).2,(Nx p0 hv.1).1,(Nx p0 hv.1).2,zf,ht];exact zc (Ac hj2 (US hv.1 hv.2)) (zc (by simp;omega) hgo)
 |c::r,j,hr,hjw=>by
  have hdw:Aj w=true:=by rw[hw];exact Bb hW n
  have hwl:w.length=n:=by rw[hw,zu];omega
  obtain⟨g1,g2,g3⟩:=drop_cons (d:=0) hr;have hcd:BL c=true:=by
   unfold Aj at hdw;rw[qp]at hdw;exact hdw c (PT hr)
  have hd:=CY hcd;have hlt:(w.take j).length=j:=by rw[zu];omega
  have hb:=Be (Bb hdw j);rw[hlt]at hb;have hp:(10:Int)^j<=10^17:=AH (by decide) (by omega);have hp17:(10:Int)^17=100000000000000000:=by decide
  have gm:(w.map fun b=>(b.toNat:Int)).getD j 0=(c.toNat:Int):=by
   rw[yf,List.getElem?_map,yi g1];have:w[j]=c:=by rw[<-g2,yf,yi g1];rfl
   rw[this];rfl
  have e8:zi .u8 ((c.toNat:Int)-48)=HA c:=by
   rw[sD];unfold HA at hd ⊢;omega
  have e2:zi .i64 (zi .i64 (Ay 0 (w.take j)*10)+zi .i64 (HA c))=Ay 0 (w.take (j+1)):=by
   rw[LL hr,CL];show _=10*Ay 0 (w.take j)+HA c;generalize Ay 0 (w.take j)=D at*;rw[wr (D*10) (by omega) (by omega),wr (HA c) (by omega) (by omega),wr _ (by omega) (by omega)];omega
  have e3:zi .i64 ((j:Int)+1)=((j+1:Nat):Int):=by rw[wr _ (by omega) (by omega)];omega
  refine zj (CH ..) (zc (by simp;omega) ?_);rw[zf,gm,e8,e2,e3];refine zc (by simp;omega) (zc (by simp;omega) (zt (w8 (by omega)) ?_));exact Ci W neg b1 b0 w n hw hW hn h1 a o0' ha a0 hj hj2 hgo r (j+1) g3 g1
theorem nK(W:List UInt8)(neg:Bool)(o1:Int)(o1w:List Int)(o0:Int)(hW:Aj W=true)(h1:1<=W.length)(n:Nat)(hn:n=min 18 W.length)
  (h:Ends P6 (L7 W neg o1 o1w o0 (W.take n) 0 (W.take n).length (W.take n).length 0 ((W.take n).map fun b=>(b.toNat:Int)) o1 o1w o0) Q):Ends P6 (L5 W neg o1 o1w o0) Q:=by
 have hwl:(W.take n).length=n:=by rw[zu];omega
 have hdw:=Bb hW n;have hc:((((W.take n).getD 0 0).toNat:Int)==(45:Int))=false/\((((W.take n).getD 0 0).toNat:Int)==(43:Int))=false:=by
  cases hq:W.take n with
  |nil=>rw[hq]at hwl;simp at hwl;omega
  |cons c t=>
   rw[hq]at hdw;unfold Aj at hdw;rw[yx,zh]at hdw;have:=CY hdw.1;unfold HA at this;show(((c.toNat:Int)==(45:Int))=false)/\(((c.toNat:Int)==(43:Int))=false);constructor<;>(simp;omega)
 refine zj (E5 ..) (zc (by simp;omega) ?_);rw[RC, <-hn,zf,hc.1,hc.2];exact zc (by simp;omega) (zc (w4 (by omega)) (zc (w4 (by omega)) (zc (w4 (by omega)) (zt rfl (zc (w4 (by omega)) (zt rfl h))))))
theorem pY(W:List UInt8)(neg:Bool)(o1:Int)(o0:Int)(hW:Aj W=true)(h1:1<=W.length)(n:Nat)(hn:n=min 18 W.length)
  (h:Ends P6 (L3 W neg o1 o0 (W.take n) 0 (W.take n).length (W.take n).length 0 ((W.take n).map fun b=>(b.toNat:Int)) o1 o0) Q):Ends P6 (L1 W neg o1 o0) Q:=by
 have hwl:(W.take n).length=n:=by rw[zu];omega
 have hdw:=Bb hW n;have hc:((((W.take n).getD 0 0).toNat:Int)==(45:Int))=false/\((((W.take n).getD 0 0).toNat:Int)==(43:Int))=false:=by
  cases hq:W.take n with
  |nil=>rw[hq]at hwl;simp at hwl;omega
  |cons c t=>
   rw[hq]at hdw;unfold Aj at hdw;rw[yx,zh]at hdw;have:=CY hdw.1;unfold HA at this;show(((c.toNat:Int)==(45:Int))=false)/\(((c.toNat:Int)==(43:Int))=false);constructor<;>(simp;omega)
 refine zj (Ap ..) (zc (by simp;omega) ?_);rw[RC, <-hn,zf,hc.1,hc.2];exact zc (by simp;omega) (zc (w4 (by omega)) (zc (w4 (by omega)) (zc (w4 (by omega)) (zt rfl (zc (w4 (by omega)) (zt rfl h))))))
theorem tU(n:Int)(h:0<=n):(FR (Cz n,Cx n),Fv (Cz n,Cx n))=CP (-n):=by
 show Ds (CP n)=_;unfold Ds;split
 ·next c=>
  have:=Cr n;rw[Bi c.1]at this;rw[this,B0 (n:= -n)];by_cases hb: -9223372036854775808<n/\n<9223372036854775808
  ·omega
  ·exfalso;have e:CP n=(1,Bq (Ae n)):=by unfold CP;rw[wc hb,wc (by omega)]
   rw[e]at this;have:(1:Int)=n:=this;omega
 ·rw[Cr]
theorem Yl{a D:Int}{W:List UInt8}{n:Nat}(ha:0<=a)(hW:Aj W=true)(hn:n<=W.length)(hD:a*10^W.length+Ay 0 W=D):(a*10^n+Ay 0 (W.take n))*10^(W.drop n).length+Ay 0 (W.drop n)=D/\a<=D/\a*10^n<=D:=by
 have hs:Ay 0 W=Ay 0 (W.take n)*10^(W.drop n).length+Ay 0 (W.drop n):=by
  conv=>lhs;rw[<-qe n W]
  rw[CL,Et]
 have hl:W.length=n+(W.drop n).length:=by rw[zk];omega
 have hp:(10:Int)^W.length=10^n*10^(W.drop n).length:=by rw[<-Int.pow_add, <-hl]
 have hb:=(Be hW).1;have e1:a*10^W.length=a*10^n*10^(W.drop n).length:=by rw[hp,qf]
 have one:∀k:Nat,(1:Int)<=10^k:=fun k=>by have:=AN (show(0:Int)<10 by decide) k;omega
 have l1:a<=a*10^W.length:=by have:=zr (one W.length) ha;omega
 have l2:a*10^n<=a*10^n*10^(W.drop n).length:=by
  have:=zr (one (W.drop n).length) (y7 ha (show(0:Int)<=10^n by have:=one n;omega));omega
 refine⟨?_,by omega,by omega⟩;rw[Int.add_mul, <-e1];omega
theorem Cv(neg:Bool)(o0 D:Int)(hD1:D<(10:Int)^(6000:Nat))(hq:∀ob,Q (.agg [.dat i64 (Cz (if neg=true then -D else D)),.dat (.nlist u64) (Cx (if neg=true then -D else D))]) ob):∀(f:Nat) (W:List UInt8) (a:Int),W.length<f->W.length<=6000->0<=a->Aj W=true->a*10^W.length+Ay 0 W=D->Ends P6 (L5 W neg (Cz a) (Cx a) o0) Q
 |0,W,a,hf,_,_,_,_=>by omega
 |f+1,W,a,hf,h15,ha,hW,he=>by
  cases hW0:W with
  |nil=>
   subst hW0;have he:a=D:=by rw[<-he];simp[Ay]
   subst he;have hok:=Gm ha hD1;refine zj (E5 ..) (zt (by simp) (zl (fun c=>zc (Ce hok).1 (zg ?_)) (fun c=>zg ?_)))
   ·have:=tU a ha;rw[c,wd rfl]at hq;have x1:FR (Cz a,Cx a)=Cz (-a):=wi Prod.fst this;have x2:Fv (Cz a,Cx a)=Cx (-a):=wi Prod.snd this;rw[x1,x2];exact hq _
   ·rw[c,wc (by decide)]at hq;exact hq _
  |cons c t=>
   rw[<-hW0];have h1:1<=W.length:=by rw[hW0];simp
   obtain⟨r1,r2,r3⟩:=Yl (n:=min 18 W.length) ha hW (by omega) he;have hv:=(Be (Bb hW (min 18 W.length))).1;have hp:0<=a*10^(min 18 W.length):=y7 ha (z6 (AN (by decide) _));refine nK W neg _ _ o0 hW h1 _ rfl (Ck W neg _ _ o0 _ _ rfl hW rfl h1 a o0 ha (Gm ha (yh r2 hD1)) (Gm hp (yh r3 hD1)) ?_ _ 0 rfl (yu _));exact Cv neg o0 D hD1 hq f (W.drop (min 18 W.length)) _ (by rw[zk];omega) (by rw[zk];omega) (by omega) (BP hW _) r1
theorem Al(neg:Bool)(W:List UInt8)(h15:W.length<=5999)(hW:Aj W=true)(hq:∀ob,Q (.agg [.dat i64 (Cz (if neg=true then -Ay 0 W else Ay 0 W)),.dat (.nlist u64) (Cx (if neg=true then -Ay 0 W else Ay 0 W))]) ob)(hq0:W=[]->∀ob v,(v=.agg [.dat i64 0,.nil]\/v=.agg [.dat i64 (FR ((0:Int),[])),.dat (.nlist u64) (Fv ((0:Int),[]))])->Q v ob):Ends P6 (L1 W neg 0 0) Q:=by
 cases hW0:W with
 |nil=>
  refine zj (Ap ..) (zt (by simp) (zl (fun c=>zc (by decide) (zg (hq0 hW0 _ _ (.inr rfl)))) (fun c=>zg (hq0 hW0 _ _ (.inl rfl)))))
 |cons c t=>
  rw[<-hW0];have h1:1<=W.length:=by rw[hW0];simp
  have hD1:Ay 0 W<(10:Int)^(6000:Nat):=zw (Be hW).2 (AH (by decide) (by omega));obtain⟨r1,r2,r3⟩:=Yl (a:=0) (n:=min 18 W.length) (D:=Ay 0 W) (qz _) hW (by omega) (by rw[Int.zero_mul,Int.zero_add]);have hv:=(Be (Bb hW (min 18 W.length))).1;refine pY W neg 0 0 hW h1 _ rfl (Ci W neg 0 0 _ _ rfl hW rfl h1 0 0 rfl (qz _) (by decide) (by rw[Int.zero_mul];decide) ?_ _ 0 rfl (yu _));exact Cv neg 0 _ hD1 hq (W.length+1) (W.drop (min 18 W.length)) _ (by rw[zk];omega) (by rw[zk];omega) (by omega) (BP hW _) r1
theorem ok:Ag Bh 153 NQ:=by
 refine Cn pT (fun(s:List UInt8) hs=>?_);have hs:(decide (s.length<=5999)&&(if s.getD 0 0=45 then Aj (s.drop 1)else Aj s))=true:=hs;rw[zh,w5]at hs;obtain⟨hl,hs⟩:=hs;have fin:∀D,Cc s=D->∀ob,Ad NQ s (.agg [.dat i64 (Cz D),.dat (.nlist u64) (Cx D)]) ob:=by
  rintro D rfl ob;exact yg rfl rfl rfl
 have fin0:Cc s=0->∀ob v,(v=.agg [.dat i64 0,.nil]\/v=.agg [.dat i64 (FR ((0:Int),[])),.dat (.nlist u64) (Fv ((0:Int),[]))])->Ad NQ s v ob:=by
  rintro h ob v (rfl|rfl)
  ·refine yg rfl rfl ?_;show((0:Int),([]:List Int))=(Cz (Cc s),Cx (Cc s));rw[h];rfl
  ·refine yg rfl rfl ?_;show Ds ((0:Int),([]:List Int))=(Cz (Cc s),Cx (Cc s));rw[h];rfl
 refine ye (Am s) ?_;conv=>zeta
 cases s with
 |nil=>
  refine zt (by decide) (zt (by decide) (zj (AY ..) (zt (by decide) (zg (fin0 rfl _ _ (.inl rfl))))))
 |cons c r=>
  have ht:(c::r).take 1=[c]:=rfl;have g0:(c::r).getD 0 0=c:=rfl;rw[g0]at hs;have e:(qn 1 (c::r)).take (yv (c::r).length 1)=r:=by show r.take ((r.length+1)-1)=r;rw[ym];exact yd
  have b1:decide (((c::r).length:Int)>=1)=true:=w4 (by simp;omega);have b2:decide (1<=(c::r).length)=true:=w4 (by simp);rw[ht,e];refine zc b1 (zc b2 (zc b1 (zc b2 (zl (fun d=>?_) (fun d=>?_)))))
  ·have hc:c=45:=by simpa using d
   rw[wd hc]at hs;rw[d];have hr:Cc (c::r)= -Ay 0 r:=by unfold Cc;rw[g0,wd hc];rfl
   refine zc (by simp) (Al true r (by simp at hl;omega) hs (fin _ (by rw[hr,wd rfl])) (fun h0=>fin0 (by rw[hr,h0];rfl)))
  ·have hc:c≠45:=by rintro rfl;exact wh d (by decide)
   rw[wc hc]at hs;rw[d];have hr:Cc (c::r)=Ay 0 (c::r):=by unfold Cc;rw[g0,wc hc]
   exact Al false (c::r) hl hs (fin _ (by rw[hr,wc (by decide)])) (fun h0=>by cases h0)
end T153
namespace T83
theorem loop{Q:PV->Ob->Prop}(l:List Int)(hl:l.length<=1000000):∀(r:List Int) (i:Nat),l.drop i=r->i<=l.length->Q (.dat i64 (ji r)) []->Ends Ng (L1 l ((l.length:Int)) i) Q
 |[],i,h,hi,hq=>by
  refine zj (Ap ..) ?_;conv=>zeta
  have:¬i<l.length:=by
   intro h1;have:=List.drop_eq_getElem_cons h1;rw[h]at this;cases this
  have he:i=l.length:=by omega
  subst he;simpa [ji]using hq
 |x::r,i,h,hi,hq=>by
  obtain⟨h1,h2,h3⟩:=drop_cons (d:=0) h;refine zj (Ap ..) ?_;conv=>zeta
  rw[Kw,wd (by simp;omega),Kw,wd (by simp;omega),Kw];simp only[zf,h2];by_cases hx:x=0
  ·subst hx;rw[wc (by simp),wr _ (by omega) (by omega)];exact loop l hl r (i+1) h3 h1 (by simpa [ji]using hq)
  ·rw[wd (by simpa using hx)];simpa [ji,hx]using hq
theorem ok:Ag Bh 83 NW:=by
 refine Cn E9 (fun l hl=>?_);refine ye (Am l) ?_;conv=>zeta
 exact loop l (by simpa [NW]using hl) l 0 rfl (yu _) (yg rfl rfl rfl)
end T83
theorem T85.ok:Ag Bh 85 W4:=by
 refine Cn E9 (fun⟨c,e⟩ _=>?_);refine ye (T85.Am c e) ?_;conv=>zeta
 have key:∀x:Int,x=Dp c e->Ad W4 (c,e) (.dat i64 x) []:=fun x hx=>yg rfl rfl hx
 simp only[Kw,Ze];cases c
 ·exact key _ rfl
 ·exact key _ rfl
theorem pB:D3 LW:=
 Aa T83.ok (Aa T85.ok (Aa T149.ok (Aa T150.ok (Aa T151.ok (Aa T152.ok (Aa T153.ok (Aa T154.ok (Aa T105n.ok AO))))))))
theorem HG{s:List UInt8}(h:AT s=true):s≠[]/\Aj s=true:=by
 unfold AT at h;rw[zh,zh,w5]at h;exact h.1
theorem Kz{s:List UInt8}(h:Aj s=true)(hl:s.length<=5999):Ee s=true/\Cc s=Ay 0 s:=by
 have h0:s.getD 0 0≠45:=by
  cases s with
  |nil=>decide
  |cons c r=>
   unfold Aj at h;rw[yx,zh]at h;have:=CY h.1;rintro he;have he:c=45:=he;subst he;exact wh this (by decide)
 unfold Ee Cc;rw[wc h0,wc h0,h,Bool.and_true];exact⟨w4 hl,rfl⟩
theorem sM{a b L:Int}(ha:0<=a)(hb:0<=b)(h1:a<L)(h2:b<L):0<=qm a b/\qm a b<L:=by
 rw[Fk];obtain⟨x,rfl⟩:=yt ha;obtain⟨y,rfl⟩:=yt hb;have e:jc (x:Int) (y:Int)=Nat.gcd x y:=rfl;rw[e];refine⟨Int.natCast_nonneg _,?_⟩;rcases Nat.eq_zero_or_pos x with h|h
 ·subst h;rw[Nat.gcd_zero_left];exact h2
 ·have:=Nat.gcd_le_left y h;omega
namespace T77
variable {Q:PV->Ob->Prop}
def E(A B:List UInt8)(br form:Bool):Int:=if form=false then 1 else if 600<A.length\/600<B.length then 4 else if br=true/\qm (Ay 0 A) (Ay 0 B)≠1 then 1 else 0
theorem Ff(A B:List UInt8)(br:Bool)(hA:Aj A=true)(hB:br=true->Aj B=true)(lA:A.length<=600)(lB:B.length<=600)(hq:∀ob,Q (.dat i64 (if br=true/\qm (Ay 0 A) (Ay 0 B)≠1 then 1 else 0)) ob):Ends LW (L8 A B br) Q:=by
 refine zj (HO ..) (zl (fun c=>?_) (fun c=>?_))
 ·have hB:=hB c;obtain⟨r1,r2⟩:=Kz hA (by omega);obtain⟨r3,r4⟩:=Kz hB (by omega);have bA:=Be hA;have bB:=Be hB;have uA:Ay 0 A<(10:Int)^(6000:Nat):=zw bA.2 (AH (by decide) (by omega));have uB:Ay 0 B<(10:Int)^(6000:Nat):=zw bB.2 (AH (by decide) (by omega));have e1:Db A=Cz (Ay 0 A):=by unfold Db;rw[r2]
  have e2:C5 A=Cx (Ay 0 A):=by unfold C5;rw[r2]
  have e3:Db B=Cz (Ay 0 B):=by unfold Db;rw[r4]
  have e4:C5 B=Cx (Ay 0 B):=by unfold C5;rw[r4]
  have g1:Mw (Cz (Ay 0 A),Cx (Ay 0 A)) (Cz (Ay 0 B),Cx (Ay 0 B))=Cz (qm (Ay 0 A) (Ay 0 B)):=by
   unfold Mw;rw[JB,JB]
  have g2:Ms (Cz (Ay 0 A),Cx (Ay 0 A)) (Cz (Ay 0 B),Cx (Ay 0 B))=Cx (qm (Ay 0 A) (Ay 0 B)):=by
   unfold Ms;rw[JB,JB]
  obtain⟨l1,l2⟩:=sM bA.1 bB.1 uA uB;have ec:NZ (Cz (qm (Ay 0 A) (Ay 0 B)),Cx (qm (Ay 0 A) (Ay 0 B))) ((1:Int),BA (1:Int))=BO (qm (Ay 0 A) (Ay 0 B)) 1:=by
   unfold NZ;rw[JB,Ei,Ep]
  rw[e1,e2,e3,e4,g1,g2,ec];have j1:A4 ((1:Int),BA (1:Int))=true:=by rw[Ei];decide
  refine zc r1 (zc r3 (zc (Ac (FG (Gm bA.1 uA)) (FG (Gm bB.1 uB))) (zc rfl (zc (Ac (FG (Gm l1 l2)) j1) ?_))));refine zj (Yw ..) (zc rfl (zg ?_));generalize qm (Ay 0 A) (Ay 0 B)=g at*;have:Dp (BO g 1 !=0) 1=if br=true/\g≠1 then 1 else 0:=by
   unfold BO Dp;by_cases h:g=1
   ·subst h;rw[c];rfl
   ·have x3:(if br=true/\g≠1 then(1:Int)else 0)=1:=wd ⟨c,h⟩;rw[x3];rcases Int.lt_or_gt_of_ne h with q|q
    ·rw[wd q];rfl
    ·rw[wc (by omega),wd q];rfl
  rw[this];exact hq _
 ·refine zj tZ (zc rfl (zg ?_));rw[wc (by rw[c];simp)]at hq;exact hq _
theorem Ck(A B:List UInt8)(br form c d:Bool)(hc:c= !form)(hd:d=true↔600<A.length\/600<B.length)(hf:form=true->Aj A=true/\(br=true->Aj B=true))(hq:∀ob,Q (.dat i64 (E A B br form)) ob):Ends LW (L7 A B br (ji [Dp c 1,Dp d 4])) Q:=by
 subst hc;unfold E at hq;cases form with
 |false=>
  refine zj (ET ..) (zc ?_ (zg (hq _)));cases d<;>rfl
 |true=>
  rw[wc (by decide)]at hq;cases d with
  |true=>
   rw[wd (hd.1 rfl)]at hq;exact zj (ET ..) (zc rfl (zg (hq _)))
  |false=>
   have hn:¬(600<A.length\/600<B.length):=fun h=>by have:=hd.2 h;cases this
   rw[wc hn]at hq;obtain⟨f1,f2⟩:=hf rfl;exact zj (ET ..) (zt rfl (Ff A B br f1 f2 (by omega) (by omega) hq))
theorem BS(A B:List UInt8)(br form:Bool)(hf:form=true->Aj A=true/\(br=true->Aj B=true))(hq:∀ob,Q (.dat i64 (E A B br form)) ob):Ends LW (L4 A B br form) Q:=by
 refine zj (CJ ..) (zc rfl (zl (fun c=>zc rfl (zc rfl ?_)) (fun c=>zc rfl (zc rfl ?_))))
 ·have c:=w6 c;exact Ck A B br form _ _ rfl ⟨fun _=>.inl (by omega),fun _=>rfl⟩ hf hq
 ·have c:=w7 c;exact Ck A B br form _ _ rfl ⟨fun h=>.inr (by have:=w6 h;omega),fun h=>w4 (by omega)⟩ hf hq
theorem Cv(A B:List UInt8)(br:Bool)(hq:∀ob,Q (.dat i64 (E A B br false)) ob):Ends LW (L5 A B br) Q:=by
 refine zj (E5 ..) (zc rfl (zl (fun c=>zc rfl (zc rfl ?_)) (fun c=>zc rfl (zc rfl ?_))))
 ·have c:=w6 c;exact Ck A B br false _ _ rfl ⟨fun _=>.inl (by omega),fun _=>rfl⟩ (fun h=>by cases h) hq
 ·have c:=w7 c;exact Ck A B br false _ _ rfl ⟨fun h=>.inr (by have:=w6 h;omega),fun h=>w4 (by omega)⟩ (fun h=>by cases h) hq
theorem EC(A B:List UInt8)(br:Bool)(hf:Aj A=true/\(br=true->Aj B=true))(hq:∀ob,Q (.dat i64 (E A B br true)) ob):Ends LW (L6 A B br) Q:=by
 refine zj (FQ ..) (zc rfl (zl (fun c=>zc rfl (zc rfl ?_)) (fun c=>zc rfl (zc rfl ?_))))
 ·have c:=w6 c;exact Ck A B br true _ _ rfl ⟨fun _=>.inl (by omega),fun _=>rfl⟩ (fun _=>hf) hq
 ·have c:=w7 c;exact Ck A B br true _ _ rfl ⟨fun h=>.inr (by have:=w6 h;omega),fun h=>w4 (by omega)⟩ (fun _=>hf) hq
theorem Uu{F:Tr}(A B:List UInt8)(br:Bool)(lB:B.length<=1000000)(hA:Aj A=true)(form:Bool)(hform:form=(!br||(AT B&&decide (B≠[48])&&decide (B≠[49]))))(hq:∀ob,Q (.dat i64 (E A B br form)) ob)
  (h:(br=true->Ends LW (.ite (decide (B.length<=1000000)) (.ite (AT B) (.ite (!B==[(48:UInt8)]) (L4 A B br (!B==[(49:UInt8)])) (L5 A B br)) (L5 A B br)) .fail) Q)->(br=false->form=true)->Ends LW F Q):Ends LW F Q:=by
 refine h (fun hb=>zc (w4 lB) ?_) (fun hb=>by rw[hform,hb];rfl);rw[hb]at hform;refine zl (fun c=>zl (fun d=>?_) (fun d=>?_)) (fun c=>?_)
 ·have d:B≠[48]:=by simpa using d
  have e:form=(!B==[(49:UInt8)]):=by
   rw[hform,c,w4 d];by_cases h:B=[49]
   ·rw[h];rfl
   ·rw[w4 h];simp[h]
  rw[<-e];exact BS A B br form (fun _=>⟨hA,fun _=>(HG c).2⟩) hq
 ·have d:B=[48]:=by simpa using d
  have e:form=false:=by rw[hform,w8 (fun h=>h d)];simp
  rw[e]at hq;exact Cv A B br hq
 ·have e:form=false:=by rw[hform,c];simp
  rw[e]at hq;exact Cv A B br hq
theorem Dl(s:List UInt8):(Aw s).length<=s.length/\(z7 s).length<=s.length:=by
 unfold Aw z7;cases s.findIdx? (fun x=>x==47)with
 |none=>simp
 |some i=>simp;omega
theorem YK(s:List UInt8):(AZ s).length<=s.length:=by
 unfold AZ;split
 ·simp
 ·exact yo _
theorem ok:Ag Bh 77 EE:=by
 refine Cn pB (fun(a:List UInt8) hl=>?_);have hl:a.length<=1000000:=w6 hl;have l1:=YK a;obtain⟨l2,l3⟩:=Dl (AZ a);have hq:∀form,form=F9 a->∀ob,Ad EE a (.dat i64 (E (Aw (AZ a)) (z7 (AZ a)) (Bj (AZ a)) form)) ob:=by
  rintro form rfl ob;exact yg rfl rfl rfl
 have hfm:F9 a=(AT (Aw (AZ a))&&(!ql a||decide (Aw (AZ a)≠[48]))&&(!Bj (AZ a)||(AT (z7 (AZ a))&&decide (z7 (AZ a)≠[48])&&decide (z7 (AZ a)≠[49])))):=rfl;refine ye (Am a) (zc (Ac (w4 rfl) (w4 hl)) (zc (Ac (w4 rfl) (w4 (by omega))) (zc (w4 (by omega)) ?_)));generalize Aw (AZ a)=A at*;generalize z7 (AZ a)=B at*;generalize Bj (AZ a)=br at*;refine zl (fun c=>?_) (fun c=>?_)
 ·have hA:=(HG c).2;refine zl (fun d=>?_) (fun d=>?_)
  ·have ef:F9 a=(!br||(AT B&&decide (B≠[48])&&decide (B≠[49]))):=by rw[hfm,c,d];rfl
   refine Uu A B br (by omega) hA (F9 a) ef (hq _ rfl) (fun h1 h2=>zj (Ap ..) (zl h1 (fun e=>?_)));have h3:=h2 e;exact EC A B br ⟨hA,fun h=>by rw[e]at h;cases h⟩ (hq true h3.symm)
  ·by_cases hz:A=[48]
   ·have ef:F9 a=false:=by rw[hfm,d,w8 (fun h=>h hz)];simp
    have e8:(!A==[(48:UInt8)])=false:=by rw[hz];rfl
    rw[e8];refine zj (AY ..) (zl (fun e=>zt rfl (Cv A B br (hq false ef.symm))) (fun e=>BS A B br false (fun h=>by cases h) (hq false ef.symm)))
   ·have e8:(!A==[(48:UInt8)])=true:=by simp[hz]
    have ef:F9 a=(!br||(AT B&&decide (B≠[48])&&decide (B≠[49]))):=by rw[hfm,c,d,w4 hz];rfl
    rw[e8];refine Uu A B br (by omega) hA (F9 a) ef (hq _ rfl) (fun h1 h2=>zj (AY ..) (zl (fun e=>zc rfl (h1 e)) (fun e=>?_)));have h3:=h2 e;exact BS A B br true (fun _=>⟨hA,fun h=>by rw[e]at h;cases h⟩) (hq true h3.symm)
 ·have ef:F9 a=false:=by rw[hfm,c];simp
  exact zj (CH ..) (zl (fun e=>Cv A B br (hq false ef.symm)) (fun e=>Cv A B br (hq false ef.symm)))
end T77
theorem D1(c:UInt8)(r:List UInt8):Aw (c::r)=if c=47 then[]else c::Aw r:=by
 unfold Aw;rw[List.findIdx?_cons];by_cases h:c=47
 ·subst h;rfl
 ·rw[wc (by simpa using h),wc h];cases r.findIdx? (fun x=>x==47)<;>rfl
namespace T89
theorem Al{Q:PV->Ob->Prop}(s:List UInt8)(hl:s.length<=1000000):∀(r:List UInt8) (i:Nat),s.drop i=r->i<=s.length->(∀ob,Q (.dat i64 (((i+(Aw r).length:Nat)):Int)) ob)->Ends Ng (L1 s i) Q
 |[],i,h,hi,hq=>by
  have he:i=s.length:=drop_nil h hi;subst he;exact zj (Ap ..) (zt (by simp) (zg (hq _)))
 |c::r,i,h,hi,hq=>by
  obtain⟨h1,h2,h3⟩:=drop_cons (d:=0) h;have e3:zi .i64 ((i:Int)+1)=((i+1:Nat):Int):=by rw[wr _ (by omega) (by omega)];omega
  rw[D1]at hq;refine zj (Ap ..) (zc (by simp;omega) ?_);rw[zf,h2,e3];refine zc (by simp;omega) (zl (fun d=>?_) (fun d=>?_))
  ·have hc:c=47:=by
    have:(c.toNat:Int)=47:=by simpa using d
    exact yw.1 (by show _=47;omega)
   rw[wd hc]at hq;exact zg (hq _)
  ·have hc:c≠47:=by rintro rfl;exact wh d (by decide)
   rw[wc hc]at hq;refine Al s hl r (i+1) h3 h1 (fun ob=>?_);have:=hq ob;rw[qq]at this;rw[show i+1+(Aw r).length=i+((Aw r).length+1)by omega];exact this
theorem ok:Ag Bh 89 Mh:=by
 refine Cn E9 (fun(s:List UInt8) hl=>?_);have hl:s.length<=1000000:=w6 hl;refine ye (Am s) (Al s hl s 0 rfl (yu _) (fun ob=>yg rfl rfl ?_));rw[Nat.zero_add];rfl
end T89
namespace T90
variable {Q:PV->Ob->Prop}
theorem UZ{s:List UInt8}{r:List UInt8}{c:UInt8}{i:Nat}(h:s.drop i=c::r):Aj (s.drop i)=(BL c&&Aj (s.drop (i+1))):=by
 obtain⟨_,_,h3⟩:=drop_cons (d:=0) h;rw[h3,h];rfl
theorem Al(s:List UInt8)(hl:s.length<=1000000):∀(r:List UInt8) (i:Nat),s.drop i=r->i<=s.length->(∀ob,Q (.bl (Aj (s.drop i))) ob)->Ends Ng (L1 s s i) Q
 |[],i,h,hi,hq=>by
  have he:i=s.length:=drop_nil h hi;rw[h]at hq;subst he;exact zj (Ap ..) (zt (by simp) (zg (hq _)))
 |c::r,i,h,hi,hq=>by
  obtain⟨h1,h2,h3⟩:=drop_cons (d:=0) h;have e3:zi .i64 ((i:Int)+1)=((i+1:Nat):Int):=by rw[wr _ (by omega) (by omega)];omega
  rw[UZ h]at hq;refine zj (Ap ..) (zc (by simp;omega) ?_);rw[zf,h2,e3];refine zc (by simp;omega) (zl (fun d=>?_) (fun d=>zc (by simp;omega) (zl (fun e=>?_) (fun e=>?_))))
  ·have d:=w6 d;have hn:BL c=false:=by unfold BL;rw[w8 (by omega)];rfl
   rw[hn]at hq;exact zg (hq _)
  ·have e:=w6 e;have hn:BL c=false:=by unfold BL;rw[w8 (p:=c.toNat<=57) (by omega),Bool.and_false]
   rw[hn]at hq;exact zg (hq _)
  ·have d:=w7 d;have e:=w7 e;have hn:BL c=true:=by unfold BL;exact Ac (w4 (by omega)) (w4 (by omega))
   rw[hn,yq]at hq;exact Al s hl r (i+1) h3 h1 hq
theorem A2(s:List UInt8)(hl:s.length<=1000000):∀(r:List UInt8) (i:Nat),s.drop i=r->i<=s.length->(∀ob,Q (.bl (Aj (s.drop i))) ob)->Ends Ng (L2 s s i) Q
 |[],i,h,hi,hq=>by
  have he:i=s.length:=drop_nil h hi;rw[h]at hq;subst he;exact zj (AY ..) (zt (by simp) (zg (hq _)))
 |c::r,i,h,hi,hq=>by
  obtain⟨h1,h2,h3⟩:=drop_cons (d:=0) h;have e3:zi .i64 ((i:Int)+1)=((i+1:Nat):Int):=by rw[wr _ (by omega) (by omega)];omega
  rw[UZ h]at hq;refine zj (AY ..) (zc (by simp;omega) ?_);rw[zf,h2,e3];refine zc (by simp;omega) (zl (fun d=>?_) (fun d=>zc (by simp;omega) (zl (fun e=>?_) (fun e=>?_))))
  ·have d:=w6 d;have hn:BL c=false:=by unfold BL;rw[w8 (by omega)];rfl
   rw[hn]at hq;exact zg (hq _)
  ·have e:=w6 e;have hn:BL c=false:=by unfold BL;rw[w8 (p:=c.toNat<=57) (by omega),Bool.and_false]
   rw[hn]at hq;exact zg (hq _)
  ·have d:=w7 d;have e:=w7 e;have hn:BL c=true:=by unfold BL;exact Ac (w4 (by omega)) (w4 (by omega))
   rw[hn,yq]at hq;exact A2 s hl r (i+1) h3 h1 hq
theorem ok:Ag Bh 90 LY:=by
 refine Cn E9 (fun(s:List UInt8) hl=>?_);have hl:s.length<=1000000:=w6 hl;have hq:∀b ob,b=AT s->Ad LY s (.bl b) ob:=fun b ob hb=>yg rfl rfl hb
 refine ye (Am s) ?_;conv=>zeta
 cases s with
 |nil=>exact zc rfl (zg (hq _ _ rfl))
 |cons c r=>
  have g0:(c::r).getD 0 0=c:=rfl;rw[g0];refine zt (by simp;omega) (zl (fun d=>zc (by simp) (zl (fun e=>zg (hq _ _ ?_)) (fun e=>?_))) (fun d=>?_))
  ·have d:=w6 d;have hc:c=48:=by
    have:(c.toNat:Int)=48:=by simpa using e
    exact yw.1 (by show _=48;omega)
   have hr:r≠[]:=by rintro rfl;simp at d
   unfold AT;rw[g0,w8 (p:=c≠48) (fun h=>h hc),w8 (p:=c::r=[48]) (by intro h;simp at h;exact hr h.2)];simp
  ·have hc:c≠48:=by rintro rfl;exact wh e (by decide)
   refine Al (c::r) hl (c::r) 0 rfl (yu _) (fun ob=>hq _ _ ?_);unfold AT;rw[g0,w4 hc];simp
  ·have d:=w7 d;have hr:r=[]:=by
    have:r.length=0:=by simp at d;omega
    exact yc.1 this
   subst hr;refine A2 [c] hl [c] 0 rfl (yu _) (fun ob=>hq _ _ ?_);unfold AT;rw[g0];by_cases hc:c=48
   ·subst hc;rfl
   ·rw[w4 hc];simp
end T90
theorem oQ:D3 rV:=Aa T168.ok AO
namespace T107
variable {Q:PV->Ob->Prop}
theorem Oh{v:Int}(hv: -9223372036854775808<=v/\v<9223372036854775808):∃q d:Nat,Ae v=d+1000000000*q/\d<1000000000/\zi .i64 (Int.tdiv v 1000000000)=(if v<0 then -(q:Int)else q)/\Int.tmod v 1000000000=(if v<0 then -(d:Int)else d):=by
 refine⟨v.natAbs/1000000000,v.natAbs % 1000000000,by rw[Ah];omega,by omega,?_,?_⟩
 ·by_cases h:v<0
  ·have:=Int.neg_tdiv (-v) 1000000000;rw[Int.neg_neg]at this;rw[this,yn (by omega),wd h,wr _ (by omega) (by omega)];omega
  ·rw[yn (by omega),wc h,wr _ (by omega) (by omega)];omega
 ·by_cases h:v<0
  ·have:=Int.neg_tmod (-v) 1000000000;rw[Int.neg_neg]at this;rw[this,yz (by omega),wd h];omega
  ·rw[yz (by omega),wc h];omega
theorem A2(neg:Bool)(D:Int)(hq:∀(w:List Int) ob,Au zd w->ze zd w=D->Q (.agg [.dat .bool (B7 neg w),.dat li (As w)]) ob):∀(f:Nat) (v:Int) (o1:List Int),Ae v<f->(-9223372036854775808<=v/\v<9223372036854775808)->o1.length<=100->(Ae v≠0->Ae v*1000000000^o1.length<=9223372036854775808)->Au zd o1->ze zd o1+(zd:Int)^o1.length*Ae v=D->Ends rV (L2 v o1.length neg o1) Q
 |0,v,o1,hf,hv,ho,hb,hd,he=>by
  have:=AE v;omega
 |f+1,v,o1,hf,hv,ho,hb,hd,he=>by
  obtain⟨q,d,s1,s2,s3,s4⟩:=Oh hv;by_cases h0:v=0
  ·subst h0;have e0:Ae 0=0:=rfl;rw[e0,je,jf]at he;refine zj (AY ..) (zt rfl ?_);rw[yd];exact zc (by simp;omega) (zg (hq _ _ hd he))
  ·have hne:Ae v≠0:=by rw[Ah];omega
   have hbb:=hb hne;have ho10:o1.length<=10:=by
    rcases Nat.lt_or_ge 10 o1.length with g|g
    ·exfalso;have x1:(1000000000:Int)^11<=1000000000^o1.length:=AH (by decide) g;have x2:(9223372036854775808:Int)<1000000000^11:=by decide
     have x3:=ya (show 1<=Ae v by have:=AE v;omega) (show(0:Int)<=1000000000^o1.length by omega);omega
    ·exact g
   have eq:Ae (if v<0 then -(q:Int)else q)=q:=by rw[Ah];split<;>omega
   have go:Ends rV (L2 (if v<0 then -(q:Int)else q) (jh o1.length 1) neg (o1++[(d:Int)])) Q:=by
    have:=A2 neg D hq f (if v<0 then -(q:Int)else q) (o1++[(d:Int)]) (by rw[eq];omega) (by have:=Ah v;split<;>omega) (by simp;omega) (fun _=>by
     rw[eq,z8];show(q:Int)*1000000000^(o1.length+1)<=_;rw[yj, <-qf,Int.mul_right_comm];have x1:=ya (show(q:Int)*1000000000<=Ae v by omega) (show(0:Int)<=1000000000^o1.length from z6 (AN (by decide) _));omega) (E4 hd (by omega)) (by
     rw[eq,B6,z8];show ze zd o1+(zd:Int)^o1.length*(d:Int)+(zd:Int)^(o1.length+1)*(q:Int)=D;rw[JH,jd, <-qc, <-he,s1])
    rw[z8]at this;exact this
   refine zj (AY ..) (zc (by simpa using h0) (zc rfl ?_));rw[s3,s4];refine zl (fun c=>zc (by simp;omega) (zc rfl ?_)) (fun c=>zc (by simp;omega) (zc rfl ?_))
   ·have c:=w6 c;have hn:v<0:=by split at c<;>omega
    rw[wd hn]at c;rw[wd hn,wd hn];rw[wd hn]at go;have e5:zi .i64 (0 - -(d:Int))=(d:Int):=by rw[wr _ (by omega) (by omega)];omega
    rw[e5];exact go
   ·have c:=w7 c;have e5:(if v<0 then -(d:Int)else(d:Int))=(d:Int):=by split at c<;>split<;>omega
    rw[e5];exact go
theorem ok:Ag Bh 107 K8:=by
 refine Cn oQ (fun(v:Int) hv=>?_);have hv:=Ed (n:=v) hv;have fin:∀(w:List Int) ob,Au zd w->ze zd w=Ae v->Ad K8 v (.agg [.dat .bool (B7 (decide (v<0)) w),.dat li (As w)]) ob:=by
  intro w ob hd hw;refine yg rfl rfl ?_;have:=LJ (neg:=decide (v<0)) hd hw;have e:(if decide (v<0)=true then -Ae v else Ae v)=v:=by
   rw[Ah];by_cases h:v<0
   ·rw[wd (w4 h)];omega
   ·rw[wc (by simpa using h)];omega
  rw[e]at this;exact this
 obtain⟨q,d,s1,s2,s3,s4⟩:=Oh hv;have hn:=AE v;refine ye (Am v) ?_;conv=>zeta
 by_cases h0:v=0
 ·subst h0;exact zj (Ap ..) (zt rfl (zc rfl (zg (fin [] _ (fun x hx=>by cases hx) rfl))))
 ·have eq:Ae (if v<0 then -(q:Int)else q)=q:=by rw[Ah];split<;>omega
  have go:Ends rV (L2 (if v<0 then -(q:Int)else q) 1 (decide (v<0)) [(d:Int)]) (Ad K8 v):=by
   refine A2 (decide (v<0)) (Ae v) fin (q+1) _ [(d:Int)] (by rw[eq];omega) (by have:=Ah v;split<;>omega) (by simp) (fun _=>?_) (fun x hx=>by rw[qi]at hx;subst hx;show 0<=_/\_<(1000000000:Int);omega) ?_
   ·rw[eq];show(q:Int)*1000000000^1<=_;have:=Ah v;omega
   ·rw[eq,Eh,s1];show(d:Int)+(1000000000:Int)^1*(q:Int)=_;omega
  refine zj (Ap ..) (zc (by simpa using h0) (zc rfl ?_));rw[s3,s4];refine zl (fun c=>zc rfl (zc rfl ?_)) (fun c=>zc rfl (zc rfl ?_))
  ·have c:=w6 c;have hn:v<0:=by split at c<;>omega
   rw[wd hn]at c;rw[wd hn,wd hn];rw[wd hn]at go;have e5:zi .i64 (0 - -(d:Int))=(d:Int):=by rw[wr _ (by omega) (by omega)];omega
   rw[e5];exact go
  ·have c:=w7 c;have e5:(if v<0 then -(d:Int)else(d:Int))=(d:Int):=by split at c<;>split<;>omega
   rw[e5];exact go
end T107
theorem qE:D3 XK3:=Aa T89.ok (Aa T163.ok (Aa T107.ok AO))
theorem BE:∀(s:List UInt8),Aw s=s.take (Aw s).length/\(Bj s=true->(Aw s).length<s.length/\z7 s=s.drop ((Aw s).length+1))/\(Bj s=false->Aw s=s/\z7 s=[])
 |[]=>⟨rfl,(fun h=>(by cases h)),fun _=>⟨rfl,rfl⟩⟩
 |c::r=>by
  obtain⟨h1,h2,h3⟩:=BE r;have hB:z7 (c::r)=if c=47 then r else z7 r:=by
   unfold z7;rw[List.findIdx?_cons];by_cases h:c=47
   ·subst h;rfl
   ·rw[wc (by simpa using h),wc h];cases r.findIdx? (fun x=>x==47)<;>rfl
  have hC:Bj (c::r)=(decide (c=47)||Bj r):=by
   unfold Bj;rw[List.any_cons];congr 1
  rw[D1,hB,hC];by_cases h:c=47
  ·rw[wd h,wd h,w4 h];exact⟨rfl,(fun _=>⟨by simp,rfl⟩),fun h=>by cases h⟩
  ·rw[wc h,wc h,w8 h];refine⟨?_,fun g=>?_,fun g=>?_⟩
   ·rw[qq,List.take_succ_cons, <-h1]
   ·obtain⟨k1,k2⟩:=h2 g;refine⟨by simp;omega,?_⟩;rw[qq,List.drop_succ_cons];exact k2
   ·obtain⟨k1,k2⟩:=h3 g;exact⟨by rw[k1],k2⟩
theorem T91.ok:Ag Bh 91 Rv:=by
 refine Cn qE (fun(a:List UInt8) ha=>?_);have ha:(Ee (Aw a)&&Ee (z7 a)&&decide (a.length<=5999))=true:=ha;rw[zh,zh,w5]at ha;obtain⟨⟨ra,rb⟩,hl⟩:=ha;obtain⟨c1,c2,c3⟩:=BE a;have es:AV a=((Aw a).length:Int):=rfl;have hle:(Aw a).length<=a.length:=(T77.Dl a).1;refine ye (T91.Am a) (zc (w4 (by omega)) (zl (fun c=>?_) (fun c=>?_)))
 ·have c:(Aw a).length=a.length:=by
   have:((Aw a).length:Int)=(a.length:Int):=by simpa [es]using c
   omega
  have hc:Bj a=false:=by
   cases h:Bj a with
   |false=>rfl
   |true=>have:=(c2 h).1;omega
  obtain⟨k1,k2⟩:=c3 hc;rw[k1]at ra;refine zc ra (zc rfl (zg (yg rfl rfl ?_)));show((EX a,EY a),(false,Sp.rW 1))=((Bx a,Br a),(Bg a,Bc a));unfold Bx Br Bg Bc A6 AG EX EY;rw[k1,hc];rfl
 ·have hlt:(Aw a).length<a.length:=by
   have:((Aw a).length:Int)≠(a.length:Int):=by simpa [es]using c
   omega
  have hc:Bj a=true:=by
   cases h:Bj a with
   |true=>rfl
   |false=>have:=(c3 h).1;rw[this]at hlt;omega
  obtain⟨k1,k2⟩:=c2 hc;have e1:zi .i64 (((Aw a).length:Int)+1)=(((Aw a).length+1:Nat):Int):=by rw[wr _ (by omega) (by omega)];omega
  have e2:(a.drop ((Aw a).length+1)).take (yv a.length ((Aw a).length+1))=a.drop ((Aw a).length+1):=zo (by rw[zk];exact yo _);rw[es,e1,zf,zf,e2, <-c1, <-k2];refine zc (by simp;omega) (zc (by simp;omega) (zc ra (zc rb (zg (yg rfl rfl ?_)))));show((EX (Aw a),EY (Aw a)),(EX (z7 a),EY (z7 a)))=((Bx a,Br a),(Bg a,Bc a));unfold Bx Br Bg Bc A6 AG EX EY;rw[hc];rfl
theorem nT:D3 UH:=Aa T89.ok (Aa T90.ok (Aa T91.ok (Aa T92.ok AO)))
namespace T24
variable {Q:PV->Ob->Prop}
theorem mC{g:Int}(h0:0<=g):BN g=[1]↔g=1:=by
 constructor
 ·intro h;have:=CS (b:=zd) (by decide) h0;have h:Sp.dg zd g=[1]:=h;rw[h]at this;rw[<-this];rfl
 ·rintro rfl;rfl
theorem BS(s:List UInt8)(hA:Aj (Aw s)=true)(hB:Bj s=true->Aj (z7 s)=true)(lA:(Aw s).length<=600)(lB:(z7 s).length<=600)(hl:s.length<=5999)
  (hq:∀ob,Q (.dat i64 (if Bj s=true/\qm (Ay 0 (Aw s)) (Ay 0 (z7 s))≠1 then 1 else 0)) ob):Ends UH (L4 s (AV s)) Q:=by
 obtain⟨c1,c2,c3⟩:=BE s;have es:AV s=((Aw s).length:Int):=rfl;refine zj (CJ ..) ?_;conv=>zeta
 rw[es];refine zl (fun c=>?_) (fun c=>?_)
 ·have c:=w6 c;have hc:Bj s=true:=by
   cases h:Bj s with
   |true=>rfl
   |false=>have:=(c3 h).1;rw[this]at c;omega
  have hB:=hB hc;obtain⟨r1,r2⟩:=Kz hA (by omega);obtain⟨r3,r4⟩:=Kz hB (by omega);have bA:=Be hA;have bB:=Be hB;have tR:∀k:Nat,(10:Int)^k<=(zd:Int)^k:=by
   intro k;induction k with
   |zero=>exact qz _
   |succ k ih=>
    rw[yj,yj];have h1:=ya ih (show(0:Int)<=10 by decide);have h2:=zr (show(10:Int)<=(zd:Int)by decide) (z6 (AN (b:=zd) (by decide) k));exact qg h1 h2
  have uA:Ay 0 (Aw s)<(zd:Int)^600:=zw bA.2 (qg (tR _) (AH (by decide) lA));have uB:Ay 0 (z7 s)<(zd:Int)^600:=zw bB.2 (qg (tR _) (AH (by decide) lB));have e1:Br s=BN (Ay 0 (Aw s)):=by
   unfold Br A6 Sp.rW;rw[r2,show Ae (Ay 0 (Aw s))=Ay 0 (Aw s)by rw[Ah];omega]
  have e2:Bc s=BN (Ay 0 (z7 s)):=by
   unfold Bc AG Sp.rW;rw[wd hc,r4,show Ae (Ay 0 (z7 s))=Ay 0 (z7 s)by rw[Ah];omega]
  obtain⟨n1,_,v1,l1⟩:=GN (k:=600) bA.1 uA (by decide);obtain⟨n2,_,v2,l2⟩:=GN (k:=600) bB.1 uB (by decide);have rat:Hn s=true:=by
   unfold Hn;rw[r1,r3];exact w4 hl
  rw[e1,e2];refine zc rat (zj (E5 ..) (zc (Ac (Ac (Ac n1 n2) (w4 (by omega))) (w4 (by omega))) ?_));have ec:Cm (BN (Ay 0 (Aw s))) (BN (Ay 0 (z7 s)))=BN (qm (Ay 0 (Aw s)) (Ay 0 (z7 s))):=by
   unfold Cm;rw[v1,v2]
  rw[ec];obtain⟨g0,_⟩:=sM bA.1 bB.1 uA uB;generalize qm (Ay 0 (Aw s)) (Ay 0 (z7 s))=g at*;have h1:=mC g0;by_cases h:g=1
  ·rw[wc (fun x=>x.2 h)]at hq;rw[h1.2 h];exact zj (FQ ..) (zt rfl (zc rfl (zt rfl (zg (hq _)))))
  ·rw[wd ⟨hc,h⟩]at hq;have hne:BN g≠[1]:=fun x=>h (h1.1 x)
   refine zj (FQ ..) (zl (fun d=>zg (hq _)) (fun d=>?_));have d:(BN g).length=1:=by
    have:((BN g).length:Int)=1:=by simpa using d
    omega
   obtain⟨x,hx⟩:=qt.1 d;rw[hx]at hne ⊢;have hx1:x≠1:=fun e=>hne (by rw[e])
   exact zc rfl (zc (by simpa using hx1) (zg (hq _)))
 ·have c:=w7 c;have hc:Bj s=false:=by
   cases h:Bj s with
   |false=>rfl
   |true=>have:=(c2 h).1;omega
  rw[wc (fun x=>by rw[hc]at x;cases x.1)]at hq;exact zg (hq _)
theorem A2(s:List UInt8)(hA:Aj (Aw s)=true)(hl:s.length<=1000000)(hq:∀ob,Q (.dat i64 (T77.E (Aw s) (z7 s) (Bj s) (!Bj s||(AT (z7 s)&&decide (z7 s≠[48])&&decide (z7 s≠[49]))))) ob):Ends UH (L2 s (AV s)) Q:=by
 obtain⟨c1,c2,c3⟩:=BE s;have es:AV s=((Aw s).length:Int):=rfl;have hle:=T77.Dl s;have xM:(Bj s=true->Aj (z7 s)=true)->(∀ob,Q (.dat i64 (T77.E (Aw s) (z7 s) (Bj s) true)) ob)->Ends UH (L3 s (AV s)) Q:=by
  intro hB hq;unfold T77.E at hq;rw[wc (by decide)]at hq;have hlen:s.length=(Aw s).length+(if Bj s=true then 1+(z7 s).length else 0):=by
   cases h:Bj s with
   |true=>obtain⟨k1,k2⟩:=c2 h;rw[wd rfl,k2,zk];omega
   |false=>obtain⟨k1,k2⟩:=c3 h;rw[wc (by decide),k1];rfl
  have hB0:Bj s=false->(z7 s).length=0:=fun h=>by rw[(c3 h).2];rfl
  refine zj (CH ..) ?_;conv=>zeta
  rw[es,wr ((s.length:Int)-((Aw s).length:Int)) (by omega) (by omega),wr _ (by omega) (by omega)];refine zl (fun c=>?_) (fun c=>zl (fun d=>?_) (fun d=>?_))
  ·have c:=w6 c;rw[wd (.inl (by omega))]at hq;exact zg (hq _)
  ·have c:=w7 c;have d:=w6 d;have:600<(z7 s).length:=by split at hlen<;>omega
   rw[wd (.inr this)]at hq;exact zg (hq _)
  ·have c:=w7 c;have d:=w7 d;have hb:(z7 s).length<=600:=by
    cases h:Bj s with
    |true=>rw[h,wd rfl]at hlen;omega
    |false=>have:=hB0 h;omega
   rw[wc (by omega)]at hq;exact BS s hA hB (by omega) hb (by split at hlen<;>omega) hq
 refine zj (AY ..) ?_;conv=>zeta
 cases hc:Bj s with
 |false=>
  rw[hc]at hq;have hn:¬(AV s<(s.length:Int)):=by rw[es,(c3 hc).1];omega
  exact zt (w8 hn) (xM (fun h=>by rw[hc]at h;cases h) (by rw[hc];exact hq))
 |true=>
  rw[hc]at hq;obtain⟨k1,k2⟩:=c2 hc;have e1:zi .i64 (((Aw s).length:Int)+1)=(((Aw s).length+1:Nat):Int):=by rw[wr _ (by omega) (by omega)];omega
  have e2:(s.drop ((Aw s).length+1)).take (yv s.length ((Aw s).length+1))=s.drop ((Aw s).length+1):=zo (by rw[zk];exact yo _);rw[es,e1,zf,e2, <-k2];rw[es]at xM;have bad:(!true||(AT (z7 s)&&decide (z7 s≠[48])&&decide (z7 s≠[49])))=false->∀ob,Q (.dat i64 1) ob:=by
   intro h ob;have:=hq ob;rw[h]at this;exact this
  refine zc (by simp;omega) (zc (by simp;omega) (zc (w4 (by omega)) (zl (fun d=>zg (bad ?_ _)) (fun d=>zc (by simp;omega) (zl (fun e=>zg (bad ?_ _)) (fun e=>zc (by simp;omega) (zl (fun f=>zg (bad ?_ _)) (fun f=>?_))))))))
  ·have d:AT (z7 s)=false:=by simpa using d
   rw[d];rfl
  ·have e:z7 s=[48]:=by simpa using e
   rw[w8 (p:=z7 s≠[48]) (fun h=>h e)];simp
  ·have f:z7 s=[49]:=by simpa using f
   rw[w8 (p:=z7 s≠[49]) (fun h=>h f)];simp
  ·have d:AT (z7 s)=true:=by simpa using d
   have e:z7 s≠[48]:=by simpa using e
   have f:z7 s≠[49]:=by simpa using f
   rw[d,w4 e,w4 f]at hq;exact xM (fun _=>(HG d).2) (by rw[hc];exact hq)
theorem Al(a s:List UInt8)(hs:s=AZ a)(hl:a.length<=1000000)(hq:∀ob,Q (.dat i64 (AF a)) ob):Ends UH (L1 a s) Q:=by
 obtain⟨c1,c2,c3⟩:=BE s;have es:AV s=((Aw s).length:Int):=rfl;have hsl:s.length<=a.length:=by rw[hs];exact T77.YK a
 have hle:=T77.Dl s;have hE:AF a=T77.E (Aw s) (z7 s) (Bj s) (AT (Aw s)&&(!ql a||decide (Aw s≠[48]))&&(!Bj s||(AT (z7 s)&&decide (z7 s≠[48])&&decide (z7 s≠[49])))):=by rw[hs];rfl
 rw[hE]at hq;have tk:s.take (Aw s).length=Aw s:=c1.symm;refine zj (Ap ..) ?_;conv=>zeta
 rw[show AV s=((Aw s).length:Int)from rfl,zf,tk];refine zc (w4 (by omega)) (zc (by simp;omega) (zc (w4 (by omega)) (zl (fun d=>?_) (fun d=>?_))))
 ·have d:AT (Aw s)=false:=by simpa using d
  rw[d]at hq;exact zg (hq _)
 ·have d:AT (Aw s)=true:=by simpa using d
  have hA:=(HG d).2;have hne:a.length≠0:=by
   intro h;have h:=yc.1 h;have:s=[]:=by rw[hs,h];rfl
   rw[this]at d;exact wh d (by decide)
  rw[d,yq]at hq;refine zc (w4 (by omega)) (zl (fun e=>zc (by simp;omega) (zl (fun f=>?_) (fun f=>?_))) (fun e=>?_))
  ·have hp:ql a=true:=by
    unfold ql;refine w4 (yw.1 ?_);have:((a.getD 0 0).toNat:Int)=45:=by simpa using e
    show _=45;omega
   have f:Aw s=[48]:=by simpa using f
   rw[hp,w8 (p:=Aw s≠[48]) (fun h=>h f)]at hq;exact zg (hq _)
  ·have f:Aw s≠[48]:=by simpa using f
   rw[w4 f,Bool.or_true,yq]at hq;exact A2 s hA (by omega) hq
  ·have hp:ql a=false:=by
    unfold ql;refine w8 (fun h=>?_);rw[h]at e;exact wh e (by decide)
   rw[hp,Bool.not_false,Bool.true_or,yq]at hq;exact A2 s hA (by omega) hq
theorem ok:Ag Bh 24 EE:=by
 refine Cn nT (fun(a:List UInt8) hl=>?_);have hl:a.length<=1000000:=w6 hl;have hq:∀ob,Ad EE a (.dat i64 (AF a)) ob:=fun ob=>yg rfl rfl rfl
 refine ye (Am a) ?_;conv=>zeta
 cases a with
 |nil=>exact zt rfl (Al [] [] rfl hl hq)
 |cons c r=>
  have g0:(c::r).getD 0 0=c:=rfl;rw[g0];refine zc (by simp) (zc (by simp) (zl (fun d=>zc (by simp) ?_) (fun d=>?_)))
  ·have hc:c=45:=by
    have:(c.toNat:Int)=45:=by simpa using d
    exact yw.1 (by show _=45;omega)
   have e:(qn 1 (c::r)).take (yv (c::r).length 1)=r:=by show r.take ((r.length+1)-1)=r;rw[ym];exact yd
   rw[e];exact Al (c::r) r (by unfold AZ;rw[g0,wd hc];rfl) hl hq
  ·have hc:c≠45:=by rintro rfl;exact wh d (by decide)
   exact Al (c::r) (c::r) (by unfold AZ;rw[g0,wc hc]) hl hq
end T24
theorem I5:D3 sS:=
 Aa T173.ok (Aa T174.ok (Aa T176.ok (Aa T152.ok (Aa T105n.ok (Aa T158.ok (Aa T159.ok (Aa T154.ok (Aa T150.ok (Aa T153.ok AO)))))))))
theorem Gn{a:AR}(h:M5 a=true):A4 a=true/\Ae (zq a)<(Ai:Int)^4000:=by
 unfold M5 at h;rw[zh,w5]at h;refine⟨?_,Is h.1 h.2 (by decide)⟩;unfold A4;exact Ac h.1 (w4 (by omega))
theorem KO{x y:Int}(hx:Ae x<(Ai:Int)^4000)(hy:Ae y<(Ai:Int)^4000):Ae (x*y)<(Ai:Int)^8000:=by
 rw[KI];have h0:=AE x;have hp:=AN (b:=Ai) (by decide) 4000;have a1:=zr (z6 hy) h0;have a2:=yk hx hp;have a3:(Ai:Int)^4000*(Ai:Int)^4000=(Ai:Int)^8000:=(Int.pow_add _ 4000 4000).symm;rw[a3]at a2;exact yh a1 a2
theorem AaB{x:Int}(h:x<(Ai:Int)^8000):x<(Ai:Int)^9000:=zw h (AH (by decide) (by decide))
theorem Rq{x y:Int}(hx:Ae x<(Ai:Int)^4000)(hy:Ae y<(Ai:Int)^4000):A4 (CP (x*y))=true:=Di (AaB (KO hx hy))
theorem yH{a b:AR}(ha:A4 a=true)(hb:A4 b=true)(h:Ae (zq a+zq b)<(Ai:Int)^9000):A4 (Eo a b)=true:=by
 have h1:=RZ ha hb;unfold Eo at h1 ⊢;split
 ·rename_i c;rw[wd c]at h1;unfold A4;exact Ac h1 rfl
 ·exact Di h
theorem kX(n:Nat):(2:Int)*(Ai:Int)^n<=(Ai:Int)^(n+1):=by
 rw[yj,yb];exact zr (by decide) (z6 (AN (b:=Ai) (by decide) n))
theorem gU{x y:Int}(hx:Ae x<(Ai:Int)^8000)(hy:Ae y<(Ai:Int)^8000):Ae (x+y)<(Ai:Int)^9000:=by
 have h2:=kX 8000;have h3:(Ai:Int)^8001<=(Ai:Int)^9000:=AH (by decide) (by decide);have h2:(2:Int)*(Ai:Int)^8000<=(Ai:Int)^8001:=h2;generalize (Ai:Int)^8000=p at*;generalize (Ai:Int)^8001=q at*;generalize (Ai:Int)^9000=r at*;rw[Ah]at*;omega
theorem T0(a:AR):decide (EN a<0)=decide (zq a<0):=by
 unfold EN Qc;rw[qx,w5,w5];split
 ·omega
 ·split<;>omega
theorem W1{n d:AR}(h:M0 n d=true):A4 n=true/\A4 d=true/\zq d≠0:=by
 unfold M0 at h;rw[zh,zh,w5]at h;exact⟨h.1.1,h.1.2,h.2⟩
theorem T87.ok:Ag Bh 87 Xy:=by
 refine Cn I5 (fun(a:List UInt8) ha=>?_);have ha:(Ee (Aw a)&&Ee (z7 a)&&decide (a.length<=5999))=true:=ha;rw[zh,zh,w5]at ha;obtain⟨⟨ra,rb⟩,hl⟩:=ha;refine ye (T87.Am a) (zc (Ac (w4 rfl) (w4 (by omega))) (zl (fun c=>zc ra (zc rfl (zg (yg rfl rfl ?_)))) (fun c=>zc ra (zc rb (zg (yg rfl rfl ?_))))))
 ·have c:Bj a=false:=by simpa using c
  show((Db (Aw a),C5 (Aw a)),((1:Int),BA 1))=((WO a,V3 a),(Si a,Rk a));unfold Si Rk AG;rw[c,NH];rfl
 ·have c:Bj a=true:=by simpa using c
  show((Db (Aw a),C5 (Aw a)),(Db (z7 a),C5 (z7 a)))=((WO a,V3 a),(Si a,Rk a));unfold Si Rk AG;rw[c];rfl
theorem T175.ok:Ag Bh 175 cIQ:=by
 refine Cn I5 (fun(i:(Int×List Int)×(Int×List Int)) hi=>?_);obtain⟨a,b⟩:=i;obtain⟨ha,hb,h0⟩:=W1 (n:=a) (d:=b) hi;refine ye (T175.Am a b) (zc (Ce hb).1 ?_);rw[T0];refine zl (fun c=>zc (Ce ha).1 (zc (Ce hb).1 (zj (T175.Ap ..) (zc ?_ (zg (yg rfl rfl ?_)))))) (fun c=>zj (T175.Ap ..) (zc ?_ (zg (yg rfl rfl ?_))))
 ·have c:zq b<0:=w6 c;have:=LN b;exact Ac (Ac (Uq ha) (Uq hb)) (w4 (by show 0<zq (Ds b);omega))
 ·have c:zq b<0:=w6 c;show Gs (Ds a) (Ds b)=Sp.iQ a b;unfold Sp.iQ;rw[wd c]
 ·have c:¬zq b<0:=w7 c;exact Ac (Ac ha hb) (w4 (by show 0<zq b;omega))
 ·have c:¬zq b<0:=w7 c;show Gs a b=Sp.iQ a b;unfold Sp.iQ;rw[wc c]
theorem nP:D3 tA:=Aa T173.ok (Aa T174.ok (Aa T152.ok (Aa T175.ok AO)))
theorem sP{n d:AR}(hd:A4 d=true)(h0:zq d≠0):A4 (Sp.gR n d)=true/\zq (Sp.gR n d)=(jc (zq n) (zq d):Int)/\0<zq (Sp.gR n d):=by
 have e:zq (Sp.gR n d)=(jc (zq n) (zq d):Int):=by
  show zq (Cz _,Cx _)=_;rw[JB,Fk]
 have hp:0<jc (zq n) (zq d):=Int.gcd_pos_of_ne_zero_right _ h0;refine⟨FG (Di ?_),e,by rw[e];omega⟩;rw[Fk,Ah,qj];have hb:=bounds hd;rw[Ah]at hb;have hle:jc (zq n) (zq d)<=(zq d).natAbs:=Nat.gcd_le_right _ (by omega);omega
namespace T104
variable {Q:PV->Ob->Prop}
theorem Al(z1 z2:Int)(n d:AR)(hn:A4 n=true)(hd:A4 d=true)(h0:zq d≠0)(hq:∀ob,Q (.agg [.dat i64 (MS n d).1.1,.dat (.nlist u64) (MS n d).1.2,.dat i64 (MS n d).2.1,.dat (.nlist u64) (MS n d).2.2]) ob):
  Ends tA (L1 z1 z2 d.1 d.2 n.1 n.2) Q:=by
 obtain⟨g1,_,g3⟩:=sP (n:=n) hd h0;have next:CN d=false->Ends tA (.ite (A4 (n.1,n.2)&&A4 (d.1,d.2)) (L2 (Mw (n.1,n.2) (d.1,d.2)) (Ms (n.1,n.2) (d.1,d.2)) z1 z2 d.1 d.2 n.1 n.2) .fail) Q:=by
  intro ho;unfold MS at hq;rw[wc (by rw[ho];decide)]at hq;have k:∀x:AR,A4 x=true->M0 x (Sp.gR n d)=true:=fun x hx=>by unfold M0;exact Ac (Ac hx g1) (w4 (by omega))
  exact zc (Ac hn hd) (zj (AY ..) (zc (k n hn) (zc (k d hd) (zg (hq _)))))
 refine zj (Ap ..) (zl (fun c=>zl (fun e=>zg ?_) (fun e=>next ?_)) (fun c=>next ?_))
 ·have c:d.2=[]:=by simpa using c
  have e:d.1=1:=by simpa using e
  unfold MS at hq;rw[wd (by unfold CN;simp[c,e])]at hq;exact hq _
 ·unfold CN;rw[Bool.and_eq_false_iff];right;simpa using e
 ·unfold CN;rw[Bool.and_eq_false_iff];left;have:d.2≠[]:=by rintro k;rw[k]at c;simp at c
  simpa using this
theorem ok:Ag Bh 104 rP:=by
 refine Cn nP (fun(i:(Int×List Int)×(Int×List Int)) hi=>?_);obtain⟨n,d⟩:=i;obtain⟨hn,hd,h0⟩:=W1 (n:=n) (d:=d) hi;have vn:=LN d;refine ye (Am n d) (zc (Ce hd).1 ?_);rw[T0];refine zl (fun c=>zc (Ce hn).1 (zc (Ce hd).1 (Al 0 0 (Ds n) (Ds d) (Uq hn) (Uq hd) (by omega) (fun ob=>yg rfl rfl ?_)))) (fun c=>Al 0 0 n d hn hd h0 (fun ob=>yg rfl rfl ?_))
 ·have c:zq d<0:=w6 c;show MS (Ds n) (Ds d)=aD n d;unfold aD;rw[wd c]
 ·have c:¬zq d<0:=w7 c;show MS n d=aD n d;unfold aD;rw[wc c]
end T104
theorem T156.ok:Ag Bh 156 OC:=by
 refine Cn I5 (fun(a:(Int×List Int)×(Int×List Int)) _=>?_);refine ye (T156.Am a) (zl (fun c=>zg (yg rfl rfl ?_)) (fun c=>zg (yg rfl rfl ?_)))
 ·have c:a.2.2=[]:=by simpa using c
  show(a.2.1==(1:Int))=CN a.2;unfold CN;rw[w4 c,yq];rfl
 ·have c:a.2.2≠[]:=by rintro k;rw[k]at c;simp at c
  show false=CN a.2;unfold CN;rw[w8 c,Bool.false_and]
theorem T157.ok:Ag Bh 157 bP:=by
 refine Cn I5 (fun(a:Int×List Int) _=>?_);exact ye (T157.Am a) (zc rfl (zg (yg rfl rfl rfl)))
theorem T88.ok:Ag Bh 88 sK:=by
 refine Cn I5 (fun(i:((Int×List Int)×(Int×List Int))×((Int×List Int)×(Int×List Int))) hi=>?_);obtain⟨a,b⟩:=i;have hi:((M5 a.1&&M5 a.2)&&(M5 b.1&&M5 b.2))=true:=hi;rw[zh,zh,zh]at hi;obtain⟨⟨a1,a2⟩,b1,b2⟩:=hi;obtain⟨a1,la1⟩:=Gn a1;obtain⟨a2,la2⟩:=Gn a2;obtain⟨b1,lb1⟩:=Gn b1;obtain⟨b2,lb2⟩:=Gn b2;refine ye (T88.Am a b) (zc (Ac a1 b2) (zc (Ac b1 a2) (zc (Ac (Rq la1 lb2) (Rq lb1 la2)) (zg (yg rfl rfl ?_)))));show BO (zq (E1 a.1 b.2)) (zq (E1 b.1 a.2))=BO _ _;rw[Du,Du]
theorem Lu{a:AS}(h:jj a=true):A4 a.1=true/\A4 a.2=true/\Ae (zq a.1)<(Ai:Int)^4000/\Ae (zq a.2)<(Ai:Int)^4000/\0<zq a.2:=by
 unfold jj Sp.DB at h;rw[zh,zh,w5]at h;obtain⟨a1,b1⟩:=Gn h.1.1;obtain⟨a2,b2⟩:=Gn h.1.2;exact⟨a1,a2,b1,b2,h.2⟩
theorem XH:D3 wX:=Aa T156.ok (Aa T157.ok (Aa T158.ok (Aa T159.ok (Aa T104.ok AO))))
theorem Yd{n d:AR}(hn:A4 n=true)(hd:A4 d=true)(h0:zq d≠0):M0 n d=true:=by
 unfold M0;exact Ac (Ac hn hd) (w4 h0)
theorem MQ{a b:AR}(ha:Ae (zq a)<(Ai:Int)^4000)(hb:Ae (zq b)<(Ai:Int)^4000):A4 (E1 a b)=true:=Rq ha hb
theorem T82.ok:Ag Bh 82 eF:=by
 refine Cn XH (fun(i:((Int×List Int)×(Int×List Int))×((Int×List Int)×(Int×List Int))) hi=>?_);obtain⟨a,b⟩:=i;have hi:(jj a&&jj b)=true:=hi;rw[zh]at hi;obtain⟨a1,a2,la1,la2,a0⟩:=Lu hi.1;obtain⟨b1,b2,lb1,lb2,b0⟩:=Lu hi.2;have hd:zq (E1 a.2 b.2)≠0:=by rw[Du];exact yp (q9 a0 b0)
 exact ye (T82.Am a b) (zc (Ac a1 b1) (zc (Ac a2 b2) (zc (Yd (MQ la1 lb1) (MQ la2 lb2) hd) (zg (yg rfl rfl rfl)))))
namespace T80
variable {Q:PV->Ob->Prop}
theorem Al(z1 z2:Int)(a b:AS)(ha:jj a=true)(hb:jj b=true)(hq:∀ob f,f=aD (Eo (E1 a.1 b.2) (E1 b.1 a.2)) (E1 a.2 b.2)->Q (.agg [.dat i64 f.1.1,.dat (.nlist u64) f.1.2,.dat i64 f.2.1,.dat (.nlist u64) f.2.2]) ob):
  Ends wX (L1 z1 z2 b.1.1 b.1.2 b.2.1 b.2.2 a.1.1 a.1.2 a.2.1 a.2.2) Q:=by
 obtain⟨a1,a2,la1,la2,a0⟩:=Lu ha;obtain⟨b1,b2,lb1,lb2,b0⟩:=Lu hb;have hd:zq (E1 a.2 b.2)≠0:=by rw[Du];exact yp (q9 a0 b0)
 have hs:A4 (Eo (E1 a.1 b.2) (E1 b.1 a.2))=true:=yH (MQ la1 lb2) (MQ lb1 la2) (by rw[Du,Du];exact gU (KO la1 lb2) (KO lb1 la2));exact zj (Ap ..) (zc (Ac a1 b2) (zc (Ac b1 a2) (zc (Ac (MQ la1 lb2) (MQ lb1 la2)) (zc (Ac a2 b2) (zc (Yd hs (MQ la2 lb2) hd) (zg (hq _ _ rfl)))))))
theorem ok:Ag Bh 80 T4:=by
 refine Cn XH (fun(i:((Int×List Int)×(Int×List Int))×((Int×List Int)×(Int×List Int))) hi=>?_);obtain⟨a,b⟩:=i;have hi:(jj a&&jj b)=true:=hi;rw[zh]at hi;obtain⟨a1,a2,la1,la2,a0⟩:=Lu hi.1;obtain⟨b1,b2,lb1,lb2,b0⟩:=Lu hi.2;have far:¬(CN a.2=true/\CN b.2=true)->Ends wX (L1 0 0 b.1.1 b.1.2 b.2.1 b.2.2 a.1.1 a.1.2 a.2.1 a.2.2) (Ad T4 (a,b)):=fun hn=>
  Al 0 0 a b hi.1 hi.2 (fun ob f hf=>yg rfl rfl (by
   show f=Hu a b;unfold Hu;rw[wc hn];exact hf))
 refine ye (Am a b) (zc rfl (zl (fun c=>zc rfl (zl (fun d=>zc (Ac a1 b1) (zc rfl (zg (yg rfl rfl ?_)))) (fun d=>far (fun k=>by have:=k.2;rw[show CN b.2=false from d]at this;cases this)))) (fun c=>far (fun k=>by have:=k.1;rw[show CN a.2=false from c]at this;cases this))));show Sp.fWh (Eo a.1 b.1)=Hu a b;unfold Hu;rw[wd ⟨c,d⟩]
end T80
theorem aV{a:AR}(h:Dk a=true){k:Nat}(hb:Ae (zq a)<(Ai:Int)^k):a.2.length<=k:=by
 rcases Ol h with⟨h1,_⟩|h1
 ·rw[h1];exact yu _
 ·rw[<-h1];exact JO (AE _) hb
theorem Nb{a:AR}(h:Dk a=true)(hb:Ae (zq a)<(Ai:Int)^4000):M5 a=true:=by
 unfold M5;exact Ac h (w4 (aV h hb))
theorem XM{a:AR}(h:Dk a=true)(hb:Ae (zq a)<(Ai:Int)^9000):A4 a=true:=by
 unfold A4;exact Ac h (w4 (aV h hb))
structure E3(f:AS)(q:Rat):Prop where
 n:Dk f.1=true
 d:Dk f.2=true
 vn:zq f.1=q.num
 vd:zq f.2=(q.den:Int)
def ZR(k:Nat)(q:Rat):Prop:=Ae q.num<(Ai:Int)^k/\(q.den:Int)<(Ai:Int)^k
theorem E3.den_pos{f:AS}{q:Rat}(h:E3 f q):0<zq f.2:=by
 rw[h.vd];have:=q.den_pos;omega
theorem E3.FO{f:AS}{q:Rat}(h:E3 f q)(hs:ZR 4000 q):jj f=true:=by
 unfold jj Sp.DB;have h2:Ae (zq f.2)=(q.den:Int):=by rw[h.vd,Ah,qj]
 exact Ac (Ac (Nb h.n (by rw[h.vn];exact hs.1)) (Nb h.d (by rw[h2];exact hs.2))) (w4 h.den_pos)
theorem fQ{a b:AR}(hb:0<zq b):zq (Gs a b)=zq a/zq b:=by
 unfold Gs;generalize hx:zq a=x;generalize zq b=y at hb;have h1:=Int.mul_ediv_add_emod (Ae x) y;have h2:=qw (Ae x) (yp hb);have h3:=qh (Ae x) hb;split
 ·next c=>
  rw[gO,Cr,Ep];obtain⟨c1,c2⟩:=c;symm;rw[qu hb];have e:Ae x= -x:=by rw[Ah];omega
  rw[e]at h1 h2 h3 c2 ⊢;generalize -x/y=q at*;generalize -x % y=r at*;rw[Int.sub_mul,Int.neg_mul,yb q y];generalize y*q=t at*;omega
 ·next c=>
  rw[Cr];unfold Sp.sg;split
  ·next n=>
   have n:x<0:=w6 n;have c2:Ae x % y=0:=Classical.byContradiction fun h=>c ⟨n,h⟩
   symm;rw[qu hb];have e:Ae x= -x:=by rw[Ah];omega
   rw[c2]at h1;rw[e]at h1 ⊢;generalize -x/y=q at*;rw[Int.neg_mul,yb q y];generalize y*q=t at*;omega
  ·next n=>
   have n:¬x<0:=fun h=>n (w4 h)
   have e:Ae x=x:=by rw[Ah];omega
   rw[e]
theorem XC{a b:AR}(ha:A4 a=true)(hb:0<zq b):Dk (Gs a b)=true:=by
 have hab:=bounds ha;have hd:Ae (zq a)/zq b<=Ae (zq a):=Int.ediv_le_self _ (AE _);have hd0:0<=Ae (zq a)/zq b:=Int.ediv_nonneg (AE _) (z6 hb);unfold Gs;generalize Ae (zq a)/zq b=q at*;have hq:Ae q<(Ai:Int)^9000:=by
  refine yh ?_ hab;rw[Ah];omega
 split
 ·exact RZ (Di (by rw[NX];exact hq)) (by decide)
 ·refine(Nt (k:=9000) ?_ (by omega)).1;unfold Sp.sg;split
  ·rw[NX];exact hq
  ·exact hq
theorem sL{a b:AR}(hb:0<zq b):zq (Sp.iQ a b)=zq a/zq b:=by
 unfold Sp.iQ;rw[wc (by omega)];exact fQ hb
theorem bH{a b:AR}(ha:A4 a=true)(hb:0<zq b):Dk (Sp.iQ a b)=true:=by
 unfold Sp.iQ;rw[wc (by omega)];exact XC ha hb
theorem TR{n d:AR}(hn:A4 n=true)(hd:A4 d=true)(h0:0<zq d):E3 (MS n d) (y9 (zq n) (zq d)):=by
 have hs:(zq d).sign=1:=Int.sign_eq_one_of_pos h0;have e1:(y9 (zq n) (zq d)).num=zq n/(jc (zq n) (zq d):Int):=by
  rw[Rat.num_divInt,hs,qy,Int.gcd_comm]
 have e2:((y9 (zq n) (zq d)).den:Int)=zq d/(jc (zq n) (zq d):Int):=by
  rw[Rat.den_divInt,wc (yp h0),Int.gcd_comm,Int.natCast_ediv];rw[Int.natAbs_of_nonneg (z6 h0)]
 obtain⟨g1,g2,g3⟩:=sP (n:=n) hd (yp h0);unfold MS;split
 ·next c=>
  unfold CN at c;rw[zh,w5,w5]at c;have e:zq d=1:=by rw[Bi c.1];exact c.2
  refine⟨(Ce hn).1,(Ce hd).1,?_,?_⟩
  ·rw[e1,e,Int.gcd_one];exact(Int.ediv_one _).symm
  ·rw[e2,e,Int.gcd_one];exact(Int.ediv_one _).symm
 ·refine⟨bH hn g3,bH hd g3,?_,?_⟩
  ·rw[sL g3,e1,g2]
  ·rw[sL g3,e2,g2]
theorem Xv{n d:AR}(hn:A4 n=true)(hd:A4 d=true)(h0:zq d≠0):E3 (aD n d) (y9 (zq n) (zq d)):=by
 unfold aD;split
 ·next c=>
  have h:=TR (Uq hn) (Uq hd) (by rw[LN];omega);rw[LN,LN]at h;have e:=Rat.divInt_mul_right (n:=zq n) (d:=zq d) (a:= -1) (by decide);rw[Int.mul_neg,qd,Int.mul_neg,qd]at e;rw[e]at h;exact h
 ·exact TR hn hd (by omega)
theorem ZR.nI{k:Nat}{f:AS}{q:Rat}(h:E3 f q)(hs:ZR k q):Ae (zq f.1)<(Ai:Int)^k/\Ae (zq f.2)<(Ai:Int)^k:=by
 rw[h.vn,h.vd];refine⟨hs.1,?_⟩;rw[Ah,qj];exact hs.2
theorem E3.eqd{f:AS}{q:Rat}(h:E3 f q):y9 (zq f.1) (zq f.2)=q:=by
 rw[h.vn,h.vd];exact qk q
theorem E3.mul{f g:AS}{p q:Rat}(hf:E3 f p)(hg:E3 g q)(sp:ZR 4000 p)(sq:ZR 4000 q):E3 (OX f g) (p*q):=by
 have a:=ZR.nI hf sp;have b:=ZR.nI hg sq;have h:=Xv (n:=E1 f.1 g.1) (d:=E1 f.2 g.2) (MQ a.1 b.1) (MQ a.2 b.2) (by rw[Du];exact yp (q9 hf.den_pos hg.den_pos));rw[Du,Du, <-Rat.divInt_mul_divInt,hf.eqd,hg.eqd]at h;exact h
theorem E3.add{f g:AS}{p q:Rat}(hf:E3 f p)(hg:E3 g q)(sp:ZR 4000 p)(sq:ZR 4000 q):E3 (Hu f g) (p+q):=by
 have a:=ZR.nI hf sp;have b:=ZR.nI hg sq;have ja:=Gn (Nb hf.n a.1);have jb:=Gn (Nb hg.n b.1);unfold Hu;split
 ·next c=>
  obtain⟨c1,c2⟩:=c;unfold CN at c1 c2;rw[zh,w5,w5]at c1 c2;have e1:(p.den:Int)=1:=by rw[<-hf.vd,Bi c1.1];exact c1.2
  have e2:(q.den:Int)=1:=by rw[<-hg.vd,Bi c2.1];exact c2.2
  have ep:y9 p.num 1=p:=by have:=qk p;rw[e1]at this;exact this
  have eq:y9 q.num 1=q:=by have:=qk q;rw[e2]at this;exact this
  have es:p+q=y9 (p.num+q.num) 1:=by
   have h:=Rat.divInt_add_divInt p.num q.num (d₁:=1) (d₂:=1) (by decide) (by decide);rw[ep,eq,qd,qd,qd]at h;exact h
  refine⟨RZ ja.1 jb.1,by show Dk (1,BA 1)=true;rw[NH];rfl,?_,?_⟩
  ·show zq (Eo f.1 g.1)=_;rw[VR,hf.vn,hg.vn,es,Rat.num_divInt];simp
  ·show zq (1,BA 1)=_;rw[NH,Cr,es,Rat.den_divInt];simp
 ·have h:=Xv (n:=Eo (E1 f.1 g.2) (E1 g.1 f.2)) (d:=E1 f.2 g.2) (yH (MQ a.1 b.2) (MQ b.1 a.2) (by rw[Du,Du];exact gU (KO a.1 b.2) (KO b.1 a.2))) (MQ a.2 b.2) (by rw[Du];exact yp (q9 hf.den_pos hg.den_pos));rw[VR,Du,Du,Du, <-Rat.divInt_add_divInt _ _ (yp hf.den_pos) (yp hg.den_pos),hf.eqd,hg.eqd]at h;exact h
end Go.Pe
