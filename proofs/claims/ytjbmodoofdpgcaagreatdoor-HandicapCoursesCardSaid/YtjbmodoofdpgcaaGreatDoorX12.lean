import Derived.Test.YtjbmodoofdpgcaaGreatDoorX11
import Derived.Lib.Repeat
/- A part of a proof; no law is stated here. -/
noncomputable section
open Go.Pe.Ends renaming tt -> zc, leaf -> zg, Av -> zj, ite -> zk, ff -> zn, eq -> zx
open Go.Sp renaming B9 -> zd, val -> zf, vI -> zl, AN -> zw, gI -> qz, preB -> jm, C6 -> jo, first -> j6
open Bool renaming and_eq_true -> ze, true_and -> qe, eq_iff_iff -> jj
open Int renaming toNat_natCast -> zh, mul_le_mul_of_nonneg_left -> zo, natAbs_natCast -> zr, lt_of_lt_of_le -> zt, mul_comm -> zy, le_of_lt -> z8, mul_lt_mul_of_pos_right -> ye, ne_of_gt -> yf, tdiv_eq_ediv_of_nonneg -> yh, mul_le_mul_of_nonneg_right -> yn, eq_ofNat_of_zero_le -> yo, natAbs_mul -> yu, pow_succ -> yv, lt_of_mul_lt_mul_left -> yw, mul_one -> yz, mul_nonneg -> qc, mul_add -> qf, gcd -> qj, emod_lt_of_pos -> ql, lt_of_le_of_lt -> qm, natAbs_ediv_le_natAbs -> qq, one_mul -> qu, mul_pos -> qw, mul_assoc -> qx, ediv_eq_iff_of_pos -> jf, sign_eq_one_of_pos -> jg, emod_nonneg -> ji, pow_zero -> jt, gcd_comm -> j7, ediv_one -> j8
open Go.IntKind renaming wrap -> zi
open List renaming take_of_length_le -> zm, length_drop -> zp, length_append -> zq, length_take -> zz, length_eq_zero_iff -> z7, length_cons -> yg, all_cons -> yk, dropWhile_cons -> ym, take_length -> yp, take_append_drop -> yq, replicate -> yt, dropLast_concat_getLast -> qh, append_assoc -> qv, drop -> q9, all_reverse -> jc, length_eq_one_iff -> je
open Rat renaming num_divInt_den -> zu, divInt -> yb, divInt_add_divInt -> qd, num_eq_zero -> qi, num_divInt -> qn, den_divInt -> qo, neg_num -> jk, neg_den -> jl
open Go.Pe.Ac renaming of -> z6
open Go.Lib renaming itoa -> yc, decDigits -> qy
open UInt8 renaming toNat_inj -> yd, ofNat -> yj
open Nat renaming le_refl -> yi, sub -> yr, add_sub_cancel -> yx, lt_of_le_of_lt -> yy, pow_le_pow_right -> qg, pow_succ -> qk, lt_of_lt_of_le -> qp, min_eq_left -> jh, add_comm -> jz, add -> j0, zero_add -> j5
open Classical renaming byContradiction -> qt
variable {Q:Go.Pe.PV->Go.Pe.Ob->Prop}
namespace Go.Pe
open Sp
open Go.Det
theorem FC{w:List Int}(b:Au zd w)(a:Sp.nz w){k:Nat}(c:w.length=k+1):0<w.getD k 0/\w.getD k 0<1000000000:=by
 have g:=FZ b k;refine⟨?_,g.2⟩;have e:w.getLast?=some (w.getD k 0):=by
  rw[List.getLast?_eq_getElem?,c,yx,List.getD_eq_getElem?_getD,List.getElem?_eq_getElem ae];rfl
 unfold Sp.nz at a;rw[e]at a;have:w.getD k 0≠0:=fun h=>a (by rw[h])
 omega
theorem DR(d:Int):zf zd [d]=d:=by simp[zf]
namespace T127
theorem A2[Srt](v:List Int)(k m:Nat)(f:Int)(O:0<f/\f<1000000000)(D:v.length=k+2)(W:m<=9000)(R:k+2<=m)(w:Au zd v)(I:1<=v.getD (k+1) 0)(Y:Int)
  (hq:∀(u c:List Int) ob,Au zd u->Au zd c->zf zd u<zf zd v->Y=zf zd u+zf zd v*zf zd c->Q (.tup [.dat li<|Aw c,.dat li<|BA<|zf zd u/f]) ob):
  ∀(t:Nat) (u c:List Int),t+c.length=m-(k+2)+1->u.length=m+1->Au zd u->Au zd c->zf zd (u.drop t)<zf zd v->Y=zf zd u+zf zd v*((zd:Int)^t*zf zd c)->
   Ends KX (L2 1 v ((k+2:Nat):Int) (m+1) (m-(k+2)+1) ((t:Int)-1) (yt t 0++c) u [f]) Q
 |0,u,c,hl,hu,y,B,p,T=>by
  have p:zf zd u<zf zd v:=p;have n:=Bn (b:=zd) af w;rw[D]at n;have G:zf zd (u.drop<|k+2)=0:=IB (b:=zd) af y ae ae;have K:zf zd (u.take<|k+2)=zf zd u:=by
   rw[Cg zd u (k+2) ae,G,Int.mul_zero,Int.add_zero]
  have ht:(yt 0 0++c).take (m-(k+2)+1)=c:=by
   rw[List.replicate_zero,List.nil_append];exact zm ae
  have N:=GV<|AH y<|k+2;have hlr:(Aw<|u.take<|k+2).length<=9000:=by
   rw[En<|AH y<|k+2];refine Nat.le_trans (Mn (k:=k+2) (Az af<|AH y<|k+2) ?_) ae;show zf zd (u.take<|k+2)<_;rw[K];omega
  have P:Aj (Aw<|u.take<|k+2)=zf zd u:=by
   show zf zd (Aw _)=_;rw[Is,K]
  refine zj (A5 ..) (zn (by simp) ?_);rw[zh,ht,P];refine zc (by simp;omega) (zc rfl (zc rfl (zc (by simp;omega)<|zc (Ad (Ad (JY ae N)<|w4 O.1)<|w4 O.2)<|zc (by simp;omega)<|zg<|hq u c _ y B p<|by rw[T,jt,qu])))
 |j+1,u,c,hl,hu,y,B,p,T=>by
  obtain⟨h,r,rfl,s⟩:∃h r:List Int,u=h++r/\h.length=j:=⟨u.take j,u.drop j,(yq j u).symm,by rw[zz];omega⟩;have F:Au zd h:=fun d g=>y d<|List.mem_append.2<|.inl g
  have e:Au zd r:=fun d g=>y d<|List.mem_append.2<|.inr g
  have hrl:r.length=m+1-j:=by rw[zq]at hu;omega
  have o:∀z:List Int,(h++z).drop j=z:=fun z=>by rw[<-s];exact List.drop_left
  have M:r=r.getD 0 0::r.drop 1:=by
   have:=Ch (l:=r) (i:=0) ae;rw[List.drop_zero]at this;exact this
  have hd1:(h++r).drop (j+1)=r.drop 1:=by rw[jz j 1,jz 1 j, <-List.drop_drop,o]
  rw[hd1]at p;have g0:=FZ e 0;have U:zf zd r=r.getD 0 0+1000000000*zf zd (r.drop 1):=by
   conv=>lhs;rw[M]
   rfl
  have n:=Bn (b:=zd) af w;rw[D]at n;have hrV:zf zd r<1000000000*zf zd v:=by rw[U];omega
  have G:zf zd (r.drop<|k+3)=0:=by
   refine IB (b:=zd) af e ae ?_;have ep:(zd:Int)^(k+3)=(zd:Int)^(k+2)*1000000000:=yv ..;rw[ep];omega
  have gu0:=FZ e<|k+2;have gu1:=FZ e<|k+1;have S:=FZ e k;have gv1:=FZ w<|k+1;have gv2:=FZ w k;have hP:=A6 (b:=zd) af k;have hW:=kK zd r k ae G;have hV:=gY zd v k D;have x:=Bn (b:=zd) af<|AH e k;have V:=Az (b:=zd) af<|AH w k;rw[zz,jh ae]at x;have hle:r.getD (k+2) 0<=v.getD (k+1) 0:=by
   have a1:=Cg zd (r.drop 1) (k+1) (by rw[zp];omega);have a2:(r.drop 1).drop (k+1)=r.getD (k+2) 0::r.drop (k+3):=by
    rw[List.drop_drop,show 1+(k+1)=k+2 by omega];exact Ch ae
   have a3:zf zd (r.getD (k+2) 0::r.drop (k+3))=r.getD (k+2) 0:=by
    show r.getD (k+2) 0+(zd:Int)*zf zd (r.drop<|k+3)=_;rw[G];omega
   rw[a2,a3]at a1;have b1:zf zd v=zf zd (v.take<|k+1)+(zd:Int)^(k+1)*v.getD (k+1) 0:=by
    rw[<-AB,zm ae]
   have L:=Bn (b:=zd) af<|AH w<|k+1;rw[zz,jh ae]at L;have c1:=Az (b:=zd) af<|AH (Eb e 1)<|k+1;have c2:(zd:Int)^(k+1)*r.getD (k+2) 0<(zd:Int)^(k+1)*(v.getD (k+1) 0+1):=by
    rw[qf,yz];omega
   have:=yw c2 (z8<|A6 af<|k+1);omega
  have J:∀(q:Int) (C:List Int),C.length=r.length->Au zd C->(0<=q/\q<1000000000)->zf zd C<zf zd v->zf zd C=zf zd r-q*zf zd v->Ends KX (L2 1 v ((k+2:Nat):Int) (m+1) (m-(k+2)+1) (zi .i64<|(j:Int)-1) ((yt (j+1) 0++c).set j q) (h++C) [f]) Q:=by
   intro q C h1 h2 h3 h4 h5;have es:(yt (j+1) (0:Int)++c).set j q=yt j 0++(q::c):=by
    rw[List.replicate_succ',qv];exact CZ _ _ _ _ (by simp)
   rw[es,wr ((j:Int)-1) ae ae];refine A2 v k m f O D W R w I Y hq j (h++C) (q::c) (by simp;omega) (by simp;omega) (FM F h2) (fun d g=>?_) (by rw[o];exact h4) ?_
   ·rcases List.mem_cons.1 g with rfl|g
    ·exact h3
    ·exact B d g
   ·rw[T,CD,CD,s,h5,Kf];show zf zd h+(zd:Int)^j*zf zd r+zf zd v*((zd:Int)^j*(1000000000*zf zd c))=zf zd h+(zd:Int)^j*(zf zd r-q*zf zd v)+zf zd v*((zd:Int)^j*(q+1000000000*zf zd c));have x1:zf zd v*((zd:Int)^j*q)=(zd:Int)^j*(q*zf zd v):=by
     rw[Int.mul_left_comm,zy (zf zd v) q]
    rw[Int.mul_sub,qf ((zd:Int)^j) q,qf<|zf zd v,x1];omega
  have e0:(((j+1:Nat):Int)-1)=(j:Int):=ae
  have P:zi .i64 ((j:Int)+((k+2:Nat):Int))=((k+2+j:Nat):Int):=by rw[wr _ ae ae];omega
  have e2:zi .i64 (((k+2+j:Nat):Int)-1)=((k+1+j:Nat):Int):=by rw[wr _ ae ae];omega
  have e3:zi .i64 (((k+2:Nat):Int)-1)=((k+1:Nat):Int):=by rw[wr _ ae ae];omega
  have g1:(h++r).getD (k+2+j) 0=r.getD (k+2) 0:=GD _ _ _ _ s;have g2:(h++r).getD (k+1+j) 0=r.getD (k+1) 0:=GD _ _ _ _ s;have hll:(h++r).length=m+1:=hu;have E:zi .i64 (zi .i64 (r.getD (k+2) 0*1000000000)+r.getD (k+1) 0)=r.getD (k+2) 0*1000000000+r.getD (k+1) 0:=by
   rw[wr (r.getD (k+2) 0*1000000000) ae ae];exact wr _ ae ae
  have a:0<=r.getD (k+2) 0*1000000000+r.getD (k+1) 0:=ae
  have H:0<=(r.getD (k+2) 0*1000000000+r.getD (k+1) 0)/v.getD (k+1) 0:=Int.ediv_nonneg a ae;have hqs:(r.getD (k+2) 0*1000000000+r.getD (k+1) 0)/v.getD (k+1) 0<=r.getD (k+2) 0*1000000000+r.getD (k+1) 0:=Int.ediv_le_self _ a;have A:=Int.mul_ediv_add_emod (r.getD (k+2) 0*1000000000+r.getD (k+1) 0)<|v.getD (k+1) 0;have X:=ji (r.getD (k+2) 0*1000000000+r.getD (k+1) 0) (show v.getD (k+1) 0≠0 by omega);have Z:=ql (r.getD (k+2) 0*1000000000+r.getD (k+1) 0) (show 0<v.getD (k+1) 0 by omega);rw[zy]at A;have et:zi .i64 (Int.tdiv (r.getD (k+2) 0*1000000000+r.getD (k+1) 0)<|v.getD (k+1) 0)=(r.getD (k+2) 0*1000000000+r.getD (k+1) 0)/v.getD (k+1) 0:=by
   rw[yh a];exact wr _ ae ae
  have em:Int.tmod (r.getD (k+2) 0*1000000000+r.getD (k+1) 0) (v.getD (k+1) 0)=(r.getD (k+2) 0*1000000000+r.getD (k+1) 0) % v.getD (k+1) 0:=Int.tmod_eq_emod_of_nonneg a;have L:(decide ((0:Int)<=((k+1:Nat):Int))&&decide (((k+1:Nat):Int)<((k+2:Nat):Int)))=true:=by simp;omega
  have bn:decide (v.getD (k+1) 0≠0)=true:=w4 ae;rw[e0];refine zj (A5 ..) (zc (by simp) ?_);rw[D,P,e2,e3,zh,zh,zh,g1,g2,E,et,em,hll];refine zc (by simp;omega) (zc (w4 ae)<|zc (by simp;omega)<|zc (w4 ae)<|zc L<|zc bn<|zc L<|zc bn ?_);refine CL 1 (m+1) (m-(k+2)+1) _ [f] v h r _ _ _ k j D ae s ae ae ae ae (by simp;omega) w e G I hle hrV J (((r.getD (k+2) 0*1000000000+r.getD (k+1) 0)/v.getD (k+1) 0).toNat+1) _ _ H ae ae ⟨X,by omega⟩ A ?_;rw[hW,hV];exact LV hP af H V gv2.1 x S.2 A Z
theorem Ap[Srt](a v:List Int)(n b:Nat)(f:Int)(j:a.length=b)(c:b<=9000)(g:n<=b)(k:∀u:List Int,u.length=b+1->Au zd u->zf zd u=zf zd a*f->Ends KX (L2 1 v n (b+1) (b-n+1) (((b-n+1:Nat):Int)-1) (yt (b-n+1) 0) u [f]) Q):
  ∀(m:Nat) (u:List Int),u.length+m=b+1->Au zd u->zf zd u=zf zd a*f->Ends KX (L1 a 1 v n u.length u [f]) Q
 |0,u,l,i,e=>by
  have h:zi .i64 ((a.length:Int)+1)=((b+1:Nat):Int):=by rw[wr _ ae ae];omega
  have o:zi .i64 ((u.length:Int)-(n:Int))=((b-n+1:Nat):Int):=by rw[wr _ ae ae];omega
  have p:zi .i64 (((b-n+1:Nat):Int)-1)=((b-n+1:Nat):Int)-1:=wr _ ae ae;refine zj (As ..) ?_;conv=>zeta
  rw[h,o,p,zh];refine zn (by simp;omega) (zc (by simp;omega) ?_);have d:u.length=b+1:=ae
  rw[d];exact k u d i e
 |m+1,u,l,i,e=>by
  have h:zi .i64 ((a.length:Int)+1)=((b+1:Nat):Int):=by rw[wr _ ae ae];omega
  refine zj (As ..) ?_;conv=>zeta
  rw[h];refine zc (by simp;omega) (zc (by simp;omega) ?_);have:=Ap a v n b f j c g k m (u++[0]) (by simp;omega) (EM i af) (by rw[B1,Int.mul_zero,Int.add_zero];exact e);rw[zq]at this;exact this
set_option maxHeartbeats 1000000 in
theorem ok[Srt]:Ag Bh 127 Pp:=by
 refine BX lP<|fun(i:List Int×List Int) C=>?_;obtain⟨a,b⟩:=i;have C:(AW a&&AW b&&decide (a.length<=9000)&&decide (b.length<=9000)&&decide (0<Aj b))=true:=C;rw[ze,ze,ze,ze,w5,w5,w5]at C;obtain⟨⟨⟨⟨na,nb⟩,la9⟩,lb9⟩,j⟩:=C;obtain⟨_,da,za⟩:=Bk na;obtain⟨_,db,zb⟩:=Bk nb;have j:0<zf zd b:=j;have o:=Az (b:=zd) af da;have X:∀q r ob,q=BA (Aj a/Aj b)->r=BA (Aj a % Aj b)->Ac Pp (a,b) (PV.tup [PV.dat li q,PV.dat li r]) ob:=fun q r ob G F=>z6 rfl rfl (Prod.ext G F)
 have m:b≠[]:=by rintro rfl;simp[zf]at j
 have J:b.length≠0:=fun h=>m<|z7.1 h
 refine zx (Al a b) (zc (by rw[na,nb];rfl)<|zk (fun c=>?_)<|fun c=>?_)
 ·have c:=w6 c;have B:zf zd a<zf zd b:=by
   unfold B3 at c;have c:(if zf zd a<zf zd b then(-1:Int)else if zf zd a>zf zd b then 1 else 0)<0:=c;split at c
   ·assumption
   ·split at c<;>omega
  refine zg<|z6 rfl rfl ?_;show([],a)=(BA<|zf zd a/zf zd b,BA<|zf zd a % zf zd b);rw[Int.ediv_eq_zero_of_lt o B,Int.emod_eq_of_lt o B];exact Prod.ext rfl (Ji af da za)
 ·have c:=w7 c;have hge:zf zd b<=zf zd a:=by
   rcases Int.lt_or_le (zf zd a) (zf zd b)with g|g
   ·have:B3 (Aj a) (Aj b)= -1:=wd g;omega
   ·exact g
  have hll:b.length<=a.length:=by
   rcases Nat.lt_or_ge a.length b.length with g|g
   ·have:=D6 (b:=zd) af da db zb g;omega
   ·exact g
  refine zk (fun s=>?_)<|fun s=>?_
  ·have s:b.length=1:=by
    have:(b.length:Int)=1:=by simpa using s
    omega
   obtain⟨d,rfl⟩:=je.1 s;have R:0<d/\d<1000000000:=FC (k:=0) db zb rfl;have m0:=ji (zf zd a) (show d≠0 by omega);have m1:=ql (zf zd a) R.1;refine zc rfl (zc (Ad (Ad (JY ae da)<|w4 R.1)<|w4 R.2)<|zc rfl (zg<|X _ _ _ ?_ ?_))
   ·show BA (zf zd a/d)=BA (zf zd a/zf zd [d]);rw[DR]
   ·show Aw [zf zd a % d]=BA (zf zd a % zf zd [d]);rw[DR,En<|fun x p=>by rw[List.mem_singleton]at p;subst p;show 0<=_/\_<(1000000000:Int);omega];show BA (zf zd [_])=_;rw[DR]
  ·have s:b.length≠1:=by
    have:(b.length:Int)≠1:=by simpa using s
    omega
   obtain⟨k,E⟩:∃k,b.length=k+2:=⟨b.length-2,by omega⟩;obtain⟨y0,y1⟩:=FC (k:=k+1) db zb E;have G:zi .i64 (((k+2:Nat):Int)-1)=((k+1:Nat):Int):=by rw[wr _ ae ae];omega
   have F:zi .i64 (b.getD (k+1) 0+1)=b.getD (k+1) 0+1:=wr _ ae ae;have f0:0<1000000000/(b.getD (k+1) 0+1):=by
    have:=Int.le_ediv_of_mul_le (a:=1) (b:=1000000000) (c:=b.getD (k+1) 0+1) ae ae;omega
   have f1:1000000000/(b.getD (k+1) 0+1)<1000000000:=Int.ediv_lt_of_lt_mul ae ae;have f2:1000000000/(b.getD (k+1) 0+1)*(b.getD (k+1) 0+1)<=1000000000:=Int.ediv_mul_le _ ae;have e3:zi .i64 (Int.tdiv 1000000000<|b.getD (k+1) 0+1)=1000000000/(b.getD (k+1) 0+1):=by
    rw[yh af];exact wr _ ae ae
   rw[E,G,zh,F,e3];generalize 1000000000/(b.getD (k+1) 0+1)=f at*;have P:Au zd [f]:=fun x p=>by rw[List.mem_singleton]at p;subst p;show 0<=_/\_<(1000000000:Int);omega
   have H:Aj [f]=f:=DR f;rw[H];have M:(zd:Int)^(k+1)<=zf zd b*f:=by
    have a1:=CV (b:=zd) af db zb m;rw[E,show k+2-1=k+1 by omega]at a1;have a2:=zo (show 1<=f by omega)<|z8 j;omega
   have N:zf zd b*f<(zd:Int)^(k+2):=by
    have b1:zf zd b=zf zd (b.take<|k+1)+(zd:Int)^(k+1)*b.getD (k+1) 0:=by
     rw[<-AB,zm ae]
    have b2:=Bn (b:=zd) af<|AH db<|k+1;rw[zz,jh ae]at b2;have hp:=A6 (b:=zd) af<|k+1;have b3:zf zd b<(zd:Int)^(k+1)*(b.getD (k+1) 0+1):=by
     rw[qf,yz];omega
    have b4:=ye b3 f0;have b5:=zo f2<|z8 hp;have b6:(zd:Int)^(k+2)=(zd:Int)^(k+1)*1000000000:=yv ..;rw[qx,zy (b.getD (k+1) 0+1) f]at b4;omega
   have L:0<=zf zd b*f:=qc (z8 j) ae;have A:0<=zf zd a*f:=qc o ae;have I:zf zd a*f<(zd:Int)^(a.length+1):=by
    have a1:=Bn (b:=zd) af da;have a2:=ye a1 f0;have a3:=zo (show f<=1000000000 by omega) (z8<|A6 (b:=zd) af a.length);have a4:(zd:Int)^(a.length+1)=(zd:Int)^a.length*1000000000:=yv ..;omega
   have vd:=GJ (b:=zd) af<|zf zd b*f;have V:=Vt (b:=zd) af<|zf zd b*f;have D:zf zd (Sp.dg zd<|zf zd b*f)=zf zd b*f:=CO af L;have W:=Zv (b:=zd) af vd V (k:=k+1) (by rw[D];exact M) (by rw[D];exact N);have v1:=(FC vd V W).1;have ud:=GJ (b:=zd) af<|zf zd a*f;have uv:zf zd (Sp.dg zd<|zf zd a*f)=zf zd a*f:=CO af A;have U:=Mn (k:=a.length+1) A I;have v:Sp.hR [f]=true:=VP (by simp) P;have bd:decide ((3*(0+(BA<|Aj a*f).length)+2000)*8<=562949953421312)=true:=w4 (by have:(BA<|Aj a*f).length<=a.length+1:=U;omega);refine zc (by simp;omega) (zc (w4 ae)<|zc (by rw[VP lb9 db,v];rfl)<|zc (by rw[VP la9 da,v];rfl)<|zc bd ?_);have ez:j0 0 (BA<|Aj a*f).length=(BA<|Aj a*f).length:=j5 _;have w:(BA<|Aj b*f).length=k+2:=W;rw[ez,List.nil_append,w];refine Ap a (BA<|Aj b*f) (k+2) a.length f rfl la9 ae (fun u T z K=>?_) (a.length+1-(BA<|Aj a*f).length) (BA<|Aj a*f) (by have:(BA<|Aj a*f).length<=a.length+1:=U;omega) ud uv;have y:=A6 (b:=zd) af<|a.length-(k+2)+1;have start:zf zd (u.drop<|a.length-(k+2)+1)<zf zd (BA<|Aj b*f):=by
    have a1:=Cg zd u (a.length-(k+2)+1) ae;have a2:=Az (b:=zd) af<|AH z<|a.length-(k+2)+1;have a3:=Bn (b:=zd) af da;have a4:=ye a3 f0;have a5:(zd:Int)^a.length=(zd:Int)^(a.length-(k+2)+1)*(zd:Int)^(k+1):=by rw[<-Int.pow_add,show a.length-(k+2)+1+(k+1)=a.length by omega]
    have Y:=CV (b:=zd) af db zb m;rw[E,show k+2-1=k+1 by omega]at Y;have a7:=yn Y (show 0<=f by omega);have a8:=zo a7<|z8 y;rw[a5,qx]at a4;show _<zf zd (Sp.dg zd<|zf zd b*f);rw[D];refine yw (a:=(zd:Int)^(a.length-(k+2)+1)) ?_<|z8 y;omega
   have go:=A2 (Q:=Ac Pp (a,b)) (BA<|Aj b*f) k a.length f ⟨f0,f1⟩ w la9 ae vd (by have:0<(BA<|Aj b*f).getD (k+1) 0:=v1;omega) (zf zd a*f) (fun Z n ob t O l he=>by
    have S:zf zd (BA<|Aj b*f)=zf zd b*f:=D;rw[S]at he l;have e:zf zd Z=f*(zf zd a-zf zd n*zf zd b):=by
     have x1:zf zd b*f*zf zd n=f*(zf zd n*zf zd b):=by
      rw[zy (zf zd b) f,qx,zy<|zf zd b]
     rw[x1,zy<|zf zd a]at he;rw[Int.mul_sub];omega
    have h0:=Az (b:=zd) af t;have r0:0<=zf zd a-zf zd n*zf zd b:=by
     rw[e]at h0;exact Int.nonneg_of_mul_nonneg_right h0 f0
    have r1:zf zd a-zf zd n*zf zd b<zf zd b:=by
     rw[e,zy (zf zd b) f]at l;exact yw l ae
    obtain⟨u1,u2⟩:=(Int.ediv_emod_unique (a:=zf zd a) (b:=zf zd b) (r:=zf zd a-zf zd n*zf zd b) (q:=zf zd n) j).2 ⟨by rw[zy<|zf zd b];omega,r0,r1⟩;refine X _ _ ob ?_ ?_
    ·rw[En O];show BA (zf zd n)=BA (zf zd a/zf zd b);rw[u1]
    ·show BA (zf zd Z/f)=BA (zf zd a % zf zd b);rw[u2,e,Int.mul_ediv_cancel_left _ ae]) (a.length-(k+2)+1) u [] (by simp) T z (fun x p=>by cases p) start (by rw[K];simp[zf])
   rw[List.append_nil]at go;exact go
end T127
theorem kV[Srt]:DU vE:=Aa T127.ok AT
namespace T106
theorem Ap[Srt](g:Nat)(L:Int)(b:∀n:Nat,(n:Int)<L->AW (BA (n:Int))=true/\Aj (BA (n:Int))=n/\(BA (n:Int)).length<=9000)(d:∀ob,Q (.dat li<|BA (g:Int)) ob):∀(f x y:Nat),y<f->Nat.gcd x y=g->(x:Int)<L->(y:Int)<L->
  Ends vE (L1 (BA (x:Int))<|BA (y:Int)) Q
 |0,x,y,h,_,_,_=>by omega
 |f+1,x,y,m,c,e,a=>by
  obtain⟨nx,i,j⟩:=b x e;obtain⟨ny,vy,ly⟩:=b y a
  refine zj (As ..) ?_;conv=>zeta
  by_cases h0:y=0
  ·subst h0;rw[Nat.gcd_zero_right]at c;subst c;exact zn rfl (zg<|d _)
  ·have k:x % y<y:=Nat.mod_lt _ ae;have l:(BA (y:Int)).length≠0:=by
    intro h;have:=z7.1 h;rw[this]at vy;simp[Aj,zf]at vy;omega
   rw[i,vy,SD];refine zc (by simp;omega) (zc (Ad (Ad (Ad (Ad nx ny)<|w4 j)<|w4 ly)<|w4 ae) ?_);exact Ap g L b d f y (x % y) ae (by rw[Nat.gcd_comm, <-Nat.gcd_rec,Nat.gcd_comm];exact c) a ae
theorem SZ{a:List Int}(h:AW a=true):a=BA (Aj a)/\0<=Aj a:=by
 obtain⟨_,d,z⟩:=Bk h;exact⟨Ji af d z,Az af d⟩
theorem TG(n:Nat)(h:(n:Int)<(zd:Int)^9000):AW (BA (n:Int))=true/\Aj (BA (n:Int))=n/\(BA (n:Int)).length<=9000:=by
 obtain⟨a,_,b,c⟩:=EZ (n:=(n:Int)) (k:=9000) (Int.natCast_nonneg n) h af;exact⟨a,b,c⟩
theorem ok[Srt]:Ag Bh 106 JW:=by
 refine BX kV<|fun(i:List Int×List Int) c=>?_;obtain⟨a,b⟩:=i;have c:(AW a&&AW b&&decide (a.length<=9000)&&decide (b.length<=9000))=true:=c;rw[ze,ze,ze,w5,w5]at c;obtain⟨⟨⟨na,nb⟩,la9⟩,lb9⟩:=c;obtain⟨ea,a0⟩:=SZ na;obtain⟨eb,b0⟩:=SZ nb;have h:Aj a<(zd:Int)^9000:=zt (Bn (b:=zd) af (Bk na).2.1) (AJ af la9);have g:Aj b<(zd:Int)^9000:=zt (Bn (b:=zd) af (Bk nb).2.1) (AJ af lb9);have key:∀(x y:Nat),Aj a=x->Aj b=y->Ends vE (L1 a b) (Ac JW (a,b)):=by
  intro x y d f;rw[ea,eb,d,f];rw[d]at h;rw[f]at g;refine Ap (Nat.gcd x y) _ TG (fun ob=>z6 rfl rfl ?_) (y+1) x y (Nat.lt_succ_self _) rfl h g;have e:qz (Aj<|BA (x:Int)) (Aj<|BA (y:Int))=((Nat.gcd x y:Nat):Int):=by
   rw[(TG x h).2.1,(TG y g).2.1,FT];rfl
  exact wi BA e.symm
 obtain⟨x,d⟩:=yo a0;obtain⟨y,f⟩:=yo b0;exact zx (Al a b)<|key x y d f
end T106
theorem mS[Srt]:DU Ys:=
 Aa (Gs ag<|BR ag) (Aa (Gs ag<|BR ag)<|Aa (Gs ag<|BR ag)<|Aa (Gs ag<|BR ag) AT)
theorem Ed[Srt]:DU Mr:=fun g sp h=>by cases h
namespace T171
theorem vS:∀i:Fin 10,(C0.getD i.1 0).toNat<128:=af
theorem Eh[Srt](s:Rd)(i:Nat)(o:List Bool)(c:i<10)(d:o.length=256)(h:Ends Ys (L2 s C0 C0 ((i+1:Nat):Int)<|o.set (C0.getD i 0).toNat true) Q):Ends Ys (L2 s C0 C0 (i:Int) o) Q:=by
 have b:C0.length=10:=rfl;have a:=vS ⟨i,c⟩;have a:(C0.getD i 0).toNat<128:=a;have e:=wn (i:=i) ae;refine zj (A5 ..) ?_;conv=>zeta
 rw[b,e,zh,zh];exact zc (w4 ae) (zc (ad ae ae) (zn (w8 ae)<|zc (Ad (w4<|show(0:Int)<=((C0.getD i 0).toNat:Int)by omega)<|w4 ae) (zc (w4 ae) h)))
def Tb(o:List Bool):Prop:=o.length=256/\∀c:UInt8,o.getD c.toNat false=BD c
theorem Ca[Srt](s t v0:Rd)(v4:Int)(i:List Bool)(f:Rd)(o1 b:List Bool)(g p0:List Bool)(h:Tb g):∀(w:Rd),(∀ob,Q (.dat .str<|w.dropWhile BD) ob)->Ends Ys (L7 s t v0 v4 i f o1 b w g p0) Q
 |[],a=>zj (FA ..) (zn (by simp)<|zg<|a _)
 |c::r,a=>by
  have k:c.toNat<256:=c.toNat_lt;have j:(c::r).getD 0 0=c:=rfl;have e:(q9 1 (c::r)).take (yr (c::r).length 1)=r:=by show r.take ((r.length+1)-1)=r;rw[yx];exact yp
  refine zj (FA ..) ?_;conv=>zeta
  rw[j,zh,h.2,h.1,e];refine zc (by simp) (zc (by simp) (zc (Ad (w4<|show(0:Int)<=(c.toNat:Int)by omega)<|w4 ae)<|zc (w4 k)<|zk (fun d=>?_)<|fun d=>zc (by simp) ?_))
  ·have d:BD c=false:=by simpa using d
   rw[ym,wc<|by rw[d];decide]at a;exact zg<|a _
  ·have d:BD c=true:=by simpa using d
   rw[ym,wd d]at a;exact Ca s t v0 v4 i f o1 b g p0 h r a
theorem BK[Srt](s t v0:Rd)(v4:Int)(i:List Bool)(o1 a:List Bool)(g:Tb o1):∀(n:Nat) (w:Rd),w.length=n->n<=1000000->(∀ob,Q (.dat .str<|((w.reverse.dropWhile BD).reverse).dropWhile BD) ob)->Ends Ys (L4 s t v0 v4 i w o1 a) Q
 |0,w,e,_,b=>by
  have:w=[]:=z7.1 e;subst this;exact zj (Dh ..) (zn (by simp)<|zj (LQ ..)<|zn (by simp)<|zg<|b _)
 |n+1,w,e,q,b=>by
  obtain⟨p,c,rfl⟩:∃p c,w=p++[c]:=by
   have f:w≠[]:=by rintro rfl;simp at e
   exact⟨w.dropLast,w.getLast f,(qh f).symm⟩
  have h:p.length=n:=by simpa using e
  have o:c.toNat<256:=c.toNat_lt;have k:zi .i64 (((p++[c]).length:Int)-1)=(n:Int):=by rw[e,wr _ ae ae];omega
  have l:(p++[c]).getD n 0=c:=Et _ _ _ _ h;have j:(p++[c]).take n=p:=by rw[<-h];exact List.take_left
  have m:(p++[c]).reverse=c::p.reverse:=by simp
  rw[m,ym]at b;refine zj (Dh ..) (zc (w4 ae) ?_);rw[k,zh,l,j,zh,g.2,g.1,e];refine zc (by simp;omega) (zc (Ad (w4<|show(0:Int)<=(c.toNat:Int)by omega)<|w4 ae)<|zc (w4 o)<|zk (fun d=>?_)<|fun d=>zc (by simp) ?_)
  ·have d:BD c=false:=by simpa using d
   rw[wc (by rw[d];decide),List.reverse_cons,List.reverse_reverse]at b;exact Ca s t v0 v4 i _ o1 a o1 a g (p++[c]) b
  ·have d:BD c=true:=by simpa using d
   rw[wd d]at b;exact BK s t v0 v4 i o1 a g n p h ae b
theorem xD{o:List Bool}(b:o.length=256)(a:∀c:Fin 256,o.getD c.1 false=(Nat.ble 48 c.1&&Nat.ble c.1 57)):Tb o:=by
 refine⟨b,fun c=>?_⟩;have:=a ⟨c.toNat,c.toNat_lt⟩;rw[show o.getD c.toNat false=_ from this];unfold BD;rw[jj];simp[Nat.ble_eq]
set_option maxRecDepth 10000 in
theorem ok[Srt]:Ag Bh 171 TM:=by
 refine BX mS<|fun(i:Rd×Rd) a=>?_;obtain⟨s,t⟩:=i;have a:(decide (t=C0)&&decide (s.length<=1000000))=true:=a;rw[ze,w5,w5]at a;obtain⟨rfl,hl⟩:=a;have b:∀ob,Ac TM (s,C0) (.dat .str<|((s.reverse.dropWhile BD).reverse).dropWhile BD) ob:=fun ob=>z6 rfl rfl rfl
 refine zx (Al s C0) (zk (fun c=>?_)<|fun c=>zn af (zn af ?_))
 ·have c:s=[]:=by simpa using c
  subst c;exact zg<|b _
 ·refine Eh s 0 _ af rfl (Eh s 1 _ af rfl (Eh s 2 _ af rfl (Eh s 3 _ af rfl (Eh s 4 _ af rfl (Eh s 5 _ af rfl (Eh s 6 _ af rfl (Eh s 7 _ af rfl (Eh s 8 _ af rfl (Eh s 9 _ af rfl ?_)))))))));refine zj (A5 ..) (zn af<|zc (by decide+kernel) (zc (by decide+kernel)<|zc (by decide+kernel)<|zc rfl (BK s _ _ _ _ _ _ (xD rfl ?_) s.length s rfl hl b)));decide+kernel
end T171
theorem lQ[Srt]:DU XH1:=Aa T171.ok AT
theorem dropWhile_nil{p:UInt8->Bool}:∀ {l:Rd},l.dropWhile p=[]↔l.all p=true
 |[]=>by simp
 |a::l=>by
  rw[ym,yk];cases h:p a with
  |true=>simp only[wm,qe];exact dropWhile_nil
  |false=>simp
theorem H5{p:UInt8->Bool}:∀ {l:Rd} {a:UInt8} {r:Rd},l.dropWhile p=a::r->p a=false
 |[],a,r,h=>by simp at h
 |b::l,a,r,h=>by
  rw[ym]at h;cases c:p b with
  |true=>rw[c,wd rfl]at h;exact H5 h
  |false=>
   rw[c]at h;simp at h;rw[<-h.1];exact c
theorem KY(s:Rd):OC s=[]↔Ak s=true:=by
 unfold OC Ak;rw[dropWhile_nil,jc];constructor
 ·intro h;cases b:s.reverse.dropWhile BD with
  |nil=>have:=dropWhile_nil.1 b;rwa [jc]at this
  |cons a r=>
   rw[b,yk,H5 b]at h;cases h
 ·intro h;have:s.reverse.dropWhile BD=[]:=dropWhile_nil.2 (by rwa [jc]);rw[this];rfl
theorem T114.ok[Srt]:Ag Bh 114 UF:=by
 refine BX lQ<|fun(s:Rd) f=>?_;have f:s.length<=1000000:=w6 f;have a:∀v b ob,v=.bl b\/v=.dat .bool b->b=AS s->Ac UF s v ob:=by
  rintro v b ob (rfl|rfl) g
  ·exact z6 rfl rfl g
  ·exact z6 rfl rfl g
 refine zx (T114.Al s)<|zk (fun c=>zc ?_<|zk (fun d=>zc ?_<|zk (fun e=>zg<|a _ _ _ (.inl rfl) ?_)<|fun e=>zg<|a _ _ _ (.inr rfl) ?_)<|fun d=>zg<|a _ _ _ (.inl rfl) ?_)<|fun c=>zg<|a _ _ _ (.inl rfl) ?_
 ·exact Ad (w4 rfl)<|w4 f
 ·have c:s≠[]:=by simpa using c
  have:s.length≠0:=fun h=>c<|z7.1 h
  exact w4 ae
 ·have c:s≠[]:=by simpa using c
  have d:OC s=[]:=by simpa using d
  have d:=(KY s).1 d;have e:s.getD 0 0≠48:=by
   intro h;rw[h]at e;exact wh e af
  unfold AS;rw[d,w4 c,w4 e];rfl
 ·have c:s≠[]:=by simpa using c
  have d:OC s=[]:=by simpa using d
  have d:=(KY s).1 d;have e:s.getD 0 0=48:=by
   have:((s.getD 0 0).toNat:Int)=48:=by simpa using e
   exact yd.1 (by show _=48;omega)
  unfold AS;rw[d,w4 c,w8<|by rw[e];exact fun h=>h rfl];show(s==[48])=decide (s=[48]);rw[jj];simp
 ·have d:¬OC s=[]:=by simpa using d
  have d:Ak s=false:=by
   cases h:Ak s with
   |true=>exact wh ((KY s).2 h) d
   |false=>rfl
  unfold AS;rw[d];simp
 ·have c:s=[]:=by simpa using c
  subst c;rfl
theorem T113.ok[Srt]:Ag Bh 113 oE:=by
 refine BX Ed<|fun(i:Rd×Rd) b=>?_;obtain⟨s,t⟩:=i;have b:(decide (t=[45])&&decide (s.length<=1000000))=true:=b;rw[ze,w5,w5]at b;obtain⟨rfl,hl⟩:=b;have a:s.getD 0 0≠45->(s,false)=(Ba s,jm s):=fun h=>by
  unfold Ba jm;rw[wc h,w8 h]
 refine zx (T113.Al s [45]) ?_;conv=>zeta
 cases s with
 |nil=>exact zn af (zg<|z6 rfl rfl (a af))
 |cons c r=>
  have f:(c::r).take 1=[c]:=rfl;refine zc (by simp;omega) (zc (by simp) ?_);show Ends Mr (.ite (!List.take 1 (c::r)==[45]) _ _) _;rw[f];refine zk (fun d=>zg<|z6 rfl rfl (a ?_)) (fun d=>zc (by simp)<|zg<|z6 rfl rfl ?_)
  ·show c≠45;rintro rfl;exact wh d af
  ·have d:c=45:=by simpa using d
   subst d;show(((q9 1 ((45:UInt8)::r)).take<|yr ((45:UInt8)::r).length 1),true)=(Ba (45::r),jm (45::r));have e:(q9 1 ((45:UInt8)::r)).take (yr ((45:UInt8)::r).length 1)=r:=by show r.take ((r.length+1)-1)=r;rw[yx];exact yp
   rw[e];rfl
theorem qZ{F:Fz}{s:Rd}{c:Int}{args:List V}(h:JF F (Af [Sh.str,Sh.int .u8] (s,c)) args):args=[.str s,.int .u8 c]:=by
 have:=h (fun _=>none) 0;simp only[Af,BN,BB]at this;obtain⟨a,g,rfl,e,b,f,rfl,d,rfl⟩:=this;simp only[PR,DC,List.cons.injEq,ve]at e d;rw[e,d]
theorem T300.ok[Srt]:Ag Bh 300 oD:=by
 refine .inr ⟨PK.indexByte.run,by kernel_rfl,fun F h args i a b=>?_⟩;obtain⟨s,c⟩:=i;have:=qZ a;subst this;refine⟨RV<|s.findIdx? fun x=>x==c.toNat.toUInt8,rfl,fun ρ N=>?_⟩;show PR F ρ N (.dat i64<|Oc s c) _;unfold Oc;cases s.findIdx? fun x=>x==c.toNat.toUInt8 with
 |none=>simp[PR,DC,RV]
 |some i=>simp[PR,DC,RV,Det.i64]
theorem kJ[Srt]:DU XH2:=Aa T300.ok AT
theorem TJ{p:UInt8->Bool}{s:Rd}{i:Nat}(h:s.findIdx? p=some i):i<s.length:=(List.findIdx?_eq_some_iff_getElem.1 h).1
theorem T92.ok[Srt]:Ag Bh 92 eV:=by
 refine BX kJ<|fun(i:Rd×Rd) e=>?_;obtain⟨s,t⟩:=i;have e:(decide (t=[47])&&decide (s.length<=1000000))=true:=e;rw[ze,w5,w5]at e;obtain⟨rfl,hl⟩:=e;have b:s.any (fun x=>x==47)=(s.findIdx? fun x=>x==47).isSome:=by
  rw[List.findIdx?_isSome]
 refine zx (T92.Al s [47]) (zn af<|zk (fun c=>?_)<|fun c=>zc af<|zc af<|zc af ?_)
 ·have c:s=[47]:=by
   have:[47]=s:=by simpa using c
   exact this.symm
  subst c;exact zc rfl (zc rfl (zc rfl (zg<|z6 rfl rfl rfl)))
 ·have a:Oc s (((([47]:Rd).getD 0 0).toNat:Nat):Int)=match s.findIdx? (fun x=>x==47)with
   |some i=>(i:Int)
   |none=> -1:=rfl
  cases d:s.findIdx? (fun x=>x==47)with
  |none=>
   rw[d]at a;have a:Oc s (((([47]:Rd).getD 0 0).toNat:Nat):Int)= -1:=a;rw[a];refine zn af<|zg<|z6 rfl rfl ?_;show(s,[],false)=(AD s,zw s,Bu s);unfold AD zw Bu;rw[b,d];rfl
  |some k=>
   rw[d]at a;have a:Oc s (((([47]:Rd).getD 0 0).toNat:Nat):Int)=(k:Int):=a;have h:=TJ d;have g:zi .i64 ((k:Int)+(([47]:Rd).length:Int))=((k+1:Nat):Int):=by
    show zi .i64 ((k:Int)+1)=_;rw[wr _ ae ae];omega
   rw[a,g,zh,zh];refine zc (by simp) (zc (by simp;omega)<|zc (by simp;omega)<|zg<|z6 rfl rfl ?_);show(s.take k,(s.drop<|k+1).take<|yr s.length<|k+1,true)=(AD s,zw s,Bu s);unfold AD zw Bu;have f:(s.drop<|k+1).take (yr s.length<|k+1)=s.drop (k+1):=zm (by rw[zp];exact yi _);rw[b,d,f];rfl
namespace T125
theorem Ap[Srt]{Q:PV->Ob->Prop}(s:Rd)(a:Ak s=true)(j:s.length<=18)(f:∀ob,Q (.dat i64<|AA 0 s) ob):∀(r:Rd) (i:Nat),s.drop i=r->i<=s.length->Ends fX (L1 s (AA 0<|s.take i) i) Q
 |[],i,h,g=>by
  have w:i=s.length:=drop_nil h g;subst w;rw[yp];exact zj (As ..) (zn (by simp)<|zg<|f _)
 |c::r,i,h,g=>by
  obtain⟨l,p,o⟩:=drop_cons (d:=0) h;have v:=A9<|A8 a i;have b:(s.take i).length=i:=by rw[zz];omega
  rw[b]at v;have x:(10:Int)^i<=10^17:=AJ af ae;have u:BD c=true:=by
   unfold Ak at a;rw[List.all_eq_true]at a;exact a c<|eE h
  have t:=Er u;have m:48<=c.toNat/\c.toNat<=57:=by unfold Jr at t;omega
  have n:zi .i64 (c.toNat:Int)=(c.toNat:Int):=wr _ ae ae;have e:(10:Int)^17=100000000000000000:=af
  have k:zi .i64 (zi .i64 (zi .i64 (10*AA 0 (s.take i))+(c.toNat:Int))-48)=AA 0 (s.take<|i+1):=by
   rw[Yl h,Cz];show _=10*AA 0 (s.take i)+((c.toNat:Int)-48);generalize AA 0 (s.take i)=D at*;rw[wr (10*D) ae ae,wr (10*D+(c.toNat:Int)) ae ae,wr _ ae ae];omega
  have q:=wn (i:=i) ae;refine zj (As ..) (zc (by simp;omega) ?_);rw[zh,p,n,k,q];exact zc (by simp;omega)<|Ap s a j f r (i+1) o l
theorem ok[Srt]:Ag Bh 125 Qh:=by
 refine BX Qb<|fun(s:Rd) a=>?_;have a:(decide (s.length<=18)&&Ak s)=true:=a;rw[ze,w5]at a;exact zx (Al s)<|Ap s a.2 a.1 (fun ob=>z6 rfl rfl rfl) s 0 rfl (Nat.zero_le _)
end T125
theorem jH[Srt]:DU Yz:=Aa T125.ok<|Aa T128.ok AT
theorem Lb{neg:Bool}{w:List Int}{D:Int}(d:Au zd w)(c:zf zd w=D):(Cj neg w,Aw w)=(Sp.rN<|if neg=true then -D else D,Sp.rW<|if neg=true then -D else D):=by
 have h0:=Az (b:=zd) af d;rw[c]at h0;have e:Aw w=BA D:=by rw[En d];show BA (zf zd w)=_;rw[c]
 have a:BA D=[]↔D=0:=ZA af h0;have f:Ae (if neg=true then -D else D)=D:=by rw[Ah];split<;>omega
 unfold Cj Sp.rW Sp.rN;rw[f,e];congr 1;cases neg with
 |false=>simp;omega
 |true=>
  simp only[wm,qe,vc,a,decide_eq_decide];omega
namespace T124
theorem xC:(10:Int)^9=1000000000:=af
theorem IV{s:Rd}{m:Nat}(a:m+9=s.length):AA 0 s=AA 0 (s.take m)*1000000000+AA 0 (s.drop m):=by
 conv=>lhs;rw[<-yq m s]
 rw[Cz,D8<|s.drop m,zp,show s.length-m=9 by omega,xC]
theorem Cf{s:Rd}(b:Ak s=true)(h:s.length<=9):0<=AA 0 s/\AA 0 s<1000000000:=by
 have:=A9 b;have a:(10:Int)^s.length<=10^9:=AJ af h;rw[xC]at a;omega
theorem BT{s:Rd}(a:Ak s=true)(h:s.length<=18):Dq s=true:=by
 unfold Dq;rw[a,Bool.and_true];exact w4 h
theorem CL[Srt](neg:Bool)(D:Int)(h:∀(w:List Int) ob,Au zd w->zf zd w=D->Q (.agg [.dat .bool<|Cj neg w,.dat li<|Aw w]) ob):∀(f:Nat) (s:Rd) (o1:List Int),s.length<=f->Ak s=true->o1.length+s.length<=6000->Au zd o1->zf zd o1+(zd:Int)^o1.length*AA 0 s=D->Ends Yz (L3 s neg o1.length o1) Q:=by
 intro f;induction f with
 |zero=>
  intro s o1 k a i c d;have e:s.length<=9:=ae
  have b:=Cf a e;have g:(o1++[BE s]).take (j0 o1.length 1)=o1++[BE s]:=zm (by simp);refine zj (C5 ..) (zn (by simp;omega) (zc (BT a ae)<|zc (by simp;omega) ?_));rw[g];refine zc (by simp;omega)<|zg<|h _ _ (EM c b) ?_;rw[B1];exact d
 |succ f o=>
  intro s o1 k a i c d;by_cases e:s.length<=9
  ·have b:=Cf a e;have g:(o1++[BE s]).take (j0 o1.length 1)=o1++[BE s]:=zm (by simp);refine zj (C5 ..) (zn (by simp;omega) (zc (BT a ae)<|zc (by simp;omega) ?_));rw[g];refine zc (by simp;omega)<|zg<|h _ _ (EM c b) ?_;rw[B1];exact d
  ·obtain⟨m,n⟩:∃m,m+9=s.length:=⟨s.length-9,by omega⟩;have l:zi .i64 ((s.length:Int)-9)=(m:Int):=by rw[wr _ ae ae];omega
   have j:(s.drop m).take (yr s.length m)=s.drop m:=zm (by rw[zp];exact yi _);have b:=Cf (BM a m) (by rw[zp];omega);refine zj (C5 ..) (zc (by simp;omega) ?_);rw[l,zh,j];refine zc (by simp;omega) (zc (BT (BM a m)<|by rw[zp];omega) (zc (by simp;omega)<|zc (by simp;omega) ?_));have:=o (s.take m) (o1++[BE<|s.drop m]) (by rw[zz];omega) (A8 a m) (by simp;omega) (EM c b) (by
    rw[B1,zq];show zf zd o1+(zd:Int)^o1.length*AA 0 (s.drop m)+(zd:Int)^(o1.length+1)*AA 0 (s.take m)=D;rw[Kf,Int.add_assoc, <-qf, <-d,IV n];congr 2;omega)
   rw[zq]at this;exact this
theorem BK[Srt](D:Int)(h:∀(w:List Int) ob,Au zd w->zf zd w=D->Q (.agg [.dat .bool<|Cj false w,.dat li<|Aw w]) ob):∀(f:Nat) (s:Rd) (o1:List Int),s.length<=f->Ak s=true->o1.length+s.length<=6000->Au zd o1->zf zd o1+(zd:Int)^o1.length*AA 0 s=D->Ends Yz (L4 s o1.length o1) Q:=by
 intro f;induction f with
 |zero=>
  intro s o1 k a i c d;have e:s.length<=9:=ae
  have b:=Cf a e;have g:(o1++[BE s]).take (j0 o1.length 1)=o1++[BE s]:=zm (by simp);refine zj (Dh ..) (zn (by simp;omega) (zc (BT a ae)<|zc (by simp;omega) ?_));rw[g];refine zc (by simp;omega)<|zg<|h _ _ (EM c b) ?_;rw[B1];exact d
 |succ f o=>
  intro s o1 k a i c d;by_cases e:s.length<=9
  ·have b:=Cf a e;have g:(o1++[BE s]).take (j0 o1.length 1)=o1++[BE s]:=zm (by simp);refine zj (Dh ..) (zn (by simp;omega)<|zc (BT a ae) (zc (by simp;omega) ?_));rw[g];refine zc (by simp;omega)<|zg<|h _ _ (EM c b) ?_;rw[B1];exact d
  ·obtain⟨m,n⟩:∃m,m+9=s.length:=⟨s.length-9,by omega⟩;have l:zi .i64 ((s.length:Int)-9)=(m:Int):=by rw[wr _ ae ae];omega
   have j:(s.drop m).take (yr s.length m)=s.drop m:=zm (by rw[zp];exact yi _);have b:=Cf (BM a m) (by rw[zp];omega);refine zj (Dh ..) (zc (by simp;omega) ?_);rw[l,zh,j];refine zc (by simp;omega) (zc (BT (BM a m)<|by rw[zp];omega) (zc (by simp;omega)<|zc (by simp;omega) ?_));have:=o (s.take m) (o1++[BE<|s.drop m]) (by rw[zz];omega) (A8 a m) (by simp;omega) (EM c b) (by
    rw[B1,zq];show zf zd o1+(zd:Int)^o1.length*AA 0 (s.drop m)+(zd:Int)^(o1.length+1)*AA 0 (s.take m)=D;rw[Kf,Int.add_assoc, <-qf, <-d,IV n];congr 2;omega)
   rw[zq]at this;exact this
theorem Ap[Srt](neg:Bool)(s:Rd)(a:Ak s=true)(i:s.length<=5999)(d:∀(w:List Int) ob,Au zd w->zf zd w=AA 0 s->Q (.agg [.dat .bool<|Cj neg w,.dat li<|Aw w]) ob):Ends Yz (L1 s neg) Q:=by
 by_cases g:s.length<=9
 ·have c:=Cf a g;refine zj (As ..) (zn (by simp;omega) (zc (BT a ae)<|zc rfl (zc rfl (zg<|d _ _ (EM (l:=[]) (fun x b=>by cases b) c) ?_))));show zf zd [AA 0 s]=_;exact DR _
 ·obtain⟨m,f⟩:∃m,m+9=s.length:=⟨s.length-9,by omega⟩;have e:zi .i64 ((s.length:Int)-9)=(m:Int):=by rw[wr _ ae ae];omega
  have h:(s.drop m).take (yr s.length m)=s.drop m:=zm (by rw[zp];exact yi _);have c:=Cf (BM a m) (by rw[zp];omega);refine zj (As ..) (zc (by simp;omega) ?_);rw[e,zh,h];refine zc (by simp;omega) (zc (BT (BM a m)<|by rw[zp];omega) (zc rfl (zc (by simp;omega) ?_)));refine CL neg (AA 0 s) d m (s.take m) [BE<|s.drop m] (by rw[zz];omega) (A8 a m) (by simp;omega) (EM (l:=[]) (fun x b=>by cases b) c) ?_;rw[DR,IV f];show AA 0 (s.drop m)+(zd:Int)^1*_=_;rw[yv,jt,qu,zy];exact Int.add_comm _ _
theorem A2[Srt](s:Rd)(a:Ak s=true)(i:s.length<=5999)(d:∀(w:List Int) ob,Au zd w->zf zd w=AA 0 s->Q (.agg [.dat .bool<|Cj false w,.dat li<|Aw w]) ob):Ends Yz (L2 s) Q:=by
 by_cases g:s.length<=9
 ·have c:=Cf a g;refine zj (A5 ..) (zn (by simp;omega)<|zc (BT a ae) (zc rfl (zc rfl (zg<|d _ _ (EM (l:=[]) (fun x b=>by cases b) c) ?_))));show zf zd [AA 0 s]=_;exact DR _
 ·obtain⟨m,f⟩:∃m,m+9=s.length:=⟨s.length-9,by omega⟩;have e:zi .i64 ((s.length:Int)-9)=(m:Int):=by rw[wr _ ae ae];omega
  have h:(s.drop m).take (yr s.length m)=s.drop m:=zm (by rw[zp];exact yi _);have c:=Cf (BM a m) (by rw[zp];omega);refine zj (A5 ..) (zc (by simp;omega) ?_);rw[e,zh,h];refine zc (by simp;omega) (zc (BT (BM a m)<|by rw[zp];omega) (zc rfl (zc (by simp;omega) ?_)));refine BK (AA 0 s) d m (s.take m) [BE<|s.drop m] (by rw[zz];omega) (A8 a m) (by simp;omega) (EM (l:=[]) (fun x b=>by cases b) c) ?_;rw[DR,IV f];show AA 0 (s.drop m)+(zd:Int)^1*_=_;rw[yv,jt,qu,zy];exact Int.add_comm _ _
theorem ok[Srt]:Ag Bh 124 MD:=by
 refine BX jH<|fun(s:Rd) a=>?_;have a:(decide (s.length<=5999)&&(if s.getD 0 0=45 then Ak (s.drop 1)else Ak s))=true:=a;rw[ze,w5]at a;obtain⟨g,a⟩:=a;have fin:∀(neg:Bool) (D:Int),Bg s=(if neg=true then -D else D)->∀(w:List Int) ob,Au zd w->zf zd w=D->Ac MD s (.agg [.dat .bool<|Cj neg w,.dat li<|Aw w]) ob:=by
  intro neg D i w ob j h;refine z6 rfl rfl ?_;show(Cj neg w,Aw w)=(Sp.rN<|Bg s,Sp.rW<|Bg s);rw[i];exact Lb j h
 refine zx (Al s) ?_;conv=>zeta
 cases s with
 |nil=>exact zn af (A2 [] rfl af (fin false 0 rfl))
 |cons c r=>
  have f:(c::r).getD 0 0=c:=rfl;rw[f]at a;rw[f];refine zc (by simp) (zc (by simp)<|zk (fun d=>?_)<|fun d=>?_)
  ·have b:c=45:=by
    have:(c.toNat:Int)=45:=by simpa using d
    exact yd.1 (by show _=45;omega)
   rw[wd b]at a;have e:(q9 1 (c::r)).take (yr (c::r).length 1)=r:=by show r.take ((r.length+1)-1)=r;rw[yx];exact yp
   rw[d,e];refine zc (by simp) (Ap true r a (by simp at g;omega)<|fin true _ ?_);unfold Bg;rw[f,wd b,wd rfl];rfl
  ·have b:c≠45:=by
    rintro rfl;exact wh d af
   rw[wc b]at a;rw[d];refine Ap false (c::r) a g<|fin false _ ?_;unfold Bg;rw[f,wc b,wc af]
end T124
theorem jC[Srt]:DU O5:=
 Aa T97n.ok (Aa T156.ok<|Aa T96.ok<|Aa T102.ok<|Aa T157.ok<|Aa (Gs (by rfl)<|BR ag)<|Aa (Gs (by rfl)<|BR ag) AT)
theorem Q5(k:Nat):CH 18 (k:Int)=((min 18 k:Nat):Int):=by grind [CH]
theorem oO(n:Int):zi .u8 n=n % 256:=by rfl
theorem tE(k:Nat):(10:Int)^k<=(Am:Int)^k:=by
 induction k with
 |zero=>simp
 |succ k a=>
  grind
theorem Fy{n:Int}(h0:0<=n)(h:n<(10:Int)^(6000:Nat)):Bd (CC n)=true:=by
 refine Dl ?_;grind [Ah]
theorem MH(m n:Int):Es (Cy m,Cv m) (Cy n,Cv n)=Cy (m*n)/\El (Cy m,Cv m) (Cy n,Cv n)=Cv (m*n):=by
 constructor
 ·show Cy (zl (CC _)*zl (CC _))=_;rw[Cc,Cc]
 ·show Cv (zl (CC _)*zl (CC _))=_;rw[Cc,Cc]
theorem iH{a b:AE}(h:0<=zl a+zl b):D1 a b=CC (zl a+zl b):=by
 unfold D1;grind [B5,CC,zl]
theorem Mv{m v:Int}(e:0<=m)(f:0<=v):Jl (Cy m,Cv m) (v,B7 v)=Cy (m+v)/\Jk (Cy m,Cv m) (v,B7 v)=Cv (m+v):=by
 have c:zl (Cy m,Cv m)=m:=Cc m;have d:zl (v,B7 v)=v:=by rw[ER,EB]
 have:=iH (a:=(Cy m,Cv m)) (b:=(v,B7 v)) ae;rw[c,d]at this;exact⟨wi Prod.fst this,wi Prod.snd this⟩
theorem Mk(n:Nat):SB ((10:Int),B7 (10:Int)) (n:Int)=Cy (10^n)/\RI ((10:Int),B7 (10:Int)) (n:Int)=Cv (10^n):=by
 simp_all [Un,ER,EB,SB,RI]
theorem ZV:Bd ((10:Int),B7 (10:Int))=true:=by rfl
theorem aW{n:Nat}(h:n<=18):mF (zl ((10:Int),B7 (10:Int))) (n:Int)=true:=by
 have c:(10:Int)^n<=10^18:=AJ af h;have a:(10:Int)^18<18446744073709551616^1:=af
 have b:(18446744073709551616:Int)^(1:Nat)<=18446744073709551616^(4000:Nat):=ae;exact Ad (ad ae ae)<|w4<|qm c<|zt a b
theorem Sx{v:Int}(h0:0<=v)(h:v<1000000000000000000):Bd (v,B7 v)=true:=by
 rw[ER];exact Ad (by grind [JL,EV]) (by rfl)
theorem WG{w:Rd}(a:Ak w=true)(h:w.length<=18):0<=AA 0 w/\AA 0 w<1000000000000000000:=by
 have:=A9 a;have b:(10:Int)^w.length<=10^18:=AJ af h;omega
namespace T94
theorem Ca[Srt](W:Rd)(neg:Bool)(s:Int)(g:List Int)(v:Int)(w:Rd)(n:Nat)(F:w=W.take n)(hW:Ak W=true)(u:n=min 18 W.length)(B:1<=W.length)(a f:Int)(a0:0<=a)(x:Bd (CC a)=true)(i:Bd (CC<|a*10^n)=true)
  (m:Ends O5 (L5 (W.drop n) neg (Cy<|a*10^n+AA 0 w) (Cv<|a*10^n+AA 0 w) f) Q):
  ∀(r:Rd) (j:Nat),w.drop j=r->j<=w.length->Ends O5 (L7 W neg s g v w (AA 0<|w.take j) w.length w.length j (w.map fun b=>(b.toNat:Int)) (Cy a) (Cv a) f) Q
 |[],j,q,h=>by
  have e:Ak w=true:=by grind [A8]
  have o:w.length=n:=ah
  have I:j=w.length:=drop_nil q h;subst I;have k:=WG e ae;obtain⟨c,t,N⟩:∃c t,w=c::t:=by
   cases w with
   |nil=>grind
   |cons c t=>simp
  have l:((((w.getD 0 0).toNat:Int)==(45:Int))=false):=by
   unfold Ak at e;grind [BD]
  have D:(W.drop n).take (yr W.length n)=W.drop n:=(by simp_all [zm]);have p0:0<=a*10^n:=qc a0 ah;have H:Bd (Cy<|10^n,Cv<|10^n)=true:=by
   refine E0 (Fy (n:=(10:Int)^n) ah ?_);have O:(10:Int)^n<=10^18:=AJ af ae;omega
  refine zj (FA ..) (zn (by simp)<|zc ah ?_);rw[l,Q5, <-u,(Mk n).1,(Mk n).2,yp];refine zn rfl (zc rfl (zc (by grind [ZV,aW])<|zc (Ad x H)<|zc rfl ?_));rw[(MH _ _).1,(MH _ _).2,(Mv p0 k.1).1,(Mv p0 k.1).2,zh,D];exact zc (Ad i<|Sx k.1 k.2) (by grind [zc])
 |c::r,j,q,h=>by
  have e:Ak w=true:=by grind [A8]
  have o:w.length=n:=ah
  obtain⟨A,J,G⟩:=drop_cons (d:=0) q;have p:BD c=true:=by
   grind [Ak]
  have M:=Er p;have K:=A9<|A8 e j;have L:(10:Int)^j<=10^17:=AJ af ae;have y:(w.map fun b=>(b.toNat:Int)).getD j 0=(c.toNat:Int):=by
   grind
  have C:zi .u8 ((c.toNat:Int)-48)=Jr c:=by
   grind [oO,Jr]
  have z:zi .i64 (zi .i64 (AA 0 (w.take j)*10)+zi .i64 (Jr c))=AA 0 (w.take<|j+1):=by
   grind [Cz,AA,wr]
  have E:zi .i64 ((j:Int)+1)=((j+1:Nat):Int):=by grind [wr]
  refine zj (FA ..) (zc ah ?_);rw[zh,y,C,z,E];refine zc ah (zc ah (zn ah ?_));exact Ca W neg s g v w n F hW u B a f a0 x i m r (j+1) G A
theorem CL[Srt](W:Rd)(neg:Bool)(s:Int)(v:Int)(w:Rd)(n:Nat)(E:w=W.take n)(hW:Ak W=true)(u:n=min 18 W.length)(A:1<=W.length)(a f:Int)(p:a=0)(a0:0<=a)(I:Bd (CC a)=true)(h:Bd (CC<|a*10^n)=true)
  (l:Ends O5 (L5 (W.drop n) neg (Cy<|a*10^n+AA 0 w) (Cv<|a*10^n+AA 0 w) f) Q):
  ∀(r:Rd) (j:Nat),w.drop j=r->j<=w.length->Ends O5 (L3 W neg s v w (AA 0<|w.take j) w.length w.length j (w.map fun b=>(b.toNat:Int)) 0 f) Q
 |[],j,q,g=>by
  have e:Ak w=true:=by grind [A8]
  have m:w.length=n:=ah
  have H:j=w.length:=drop_nil q g;subst H;have i:=WG e ae;obtain⟨c,t,N⟩:∃c t,w=c::t:=by
   cases w with
   |nil=>grind
   |cons c t=>simp
  have k:((((w.getD 0 0).toNat:Int)==(45:Int))=false):=by
   unfold Ak at e;grind [BD]
  have C:(W.drop n).take (yr W.length n)=W.drop n:=(by simp_all [zm]);have p0:0<=a*10^n:=ah;have G:Bd (Cy<|10^n,Cv<|10^n)=true:=by
   refine E0 (Fy (n:=(10:Int)^n) ah ?_);have O:(10:Int)^n<=10^18:=AJ af ae;omega
  refine zj (C5 ..) (zn (by simp)<|zc ah ?_);rw[k,Q5, <-u,(Mk n).1,(Mk n).2,yp];refine zn rfl (zc rfl (zc (by grind [ZV,aW])<|zc (Ad (by rfl) G)<|zc rfl ?_));rw[show Es ((0:Int),[]) (Cy<|10^n,Cv<|10^n)=Cy (a*10^n)by rw[p];exact(MH 0 _).1,show El ((0:Int),[]) (Cy<|10^n,Cv<|10^n)=Cv (a*10^n)by rw[p];exact(MH 0 _).2,(Mv p0 i.1).1,(Mv p0 i.1).2,zh,C];exact zc (Ad h<|Sx i.1 i.2) (by grind [zc])
 |c::r,j,q,g=>by
  have e:Ak w=true:=by grind [A8]
  have m:w.length=n:=ah
  obtain⟨z,J,F⟩:=drop_cons (d:=0) q;have o:BD c=true:=by
   grind [Ak]
  have M:=Er o;have K:=A9<|A8 e j;have L:(10:Int)^j<=10^17:=AJ af ae;have x:(w.map fun b=>(b.toNat:Int)).getD j 0=(c.toNat:Int):=by
   grind
  have B:zi .u8 ((c.toNat:Int)-48)=Jr c:=by
   grind [oO,Jr]
  have y:zi .i64 (zi .i64 (AA 0 (w.take j)*10)+zi .i64 (Jr c))=AA 0 (w.take<|j+1):=by
   grind [Cz,AA,wr]
  have D:zi .i64 ((j:Int)+1)=((j+1:Nat):Int):=by grind [wr]
  refine zj (C5 ..) (zc ah ?_);rw[zh,x,B,y,D];refine zc ah (zc ah<|zn ah ?_);exact CL W neg s v w n E hW u A a f p a0 I h l r (j+1) F z
theorem iM[Srt](W:Rd)(neg:Bool)(o1:Int)(a:List Int)(e:Int)(hW:Ak W=true)(j:1<=W.length)(n:Nat)(g:n=min 18 W.length)
  (h:Ends O5 (L7 W neg o1 a e (W.take n) 0 (W.take n).length (W.take n).length 0 ((W.take n).map fun b=>(b.toNat:Int)) o1 a e) Q):Ends O5 (L5 W neg o1 a e) Q:=by
 have d:=A8 hW n;have f:((((W.take n).getD 0 0).toNat:Int)==(45:Int))=false/\((((W.take n).getD 0 0).toNat:Int)==(43:Int))=false:=by
  cases i:W.take n with
  |nil=>simp
  |cons c t=>
   unfold Ak at d;grind [BD]
 refine zj (Gb ..) (zc ah ?_);rw[Q5, <-g,zh,f.1,f.2];exact zc ah (zc ah (zc ah<|zc ah<|zn rfl (zc ah<|zn rfl h)))
theorem lS[Srt](W:Rd)(neg:Bool)(o1:Int)(d:Int)(hW:Ak W=true)(i:1<=W.length)(n:Nat)(f:n=min 18 W.length)
  (h:Ends O5 (L3 W neg o1 d (W.take n) 0 (W.take n).length (W.take n).length 0 ((W.take n).map fun b=>(b.toNat:Int)) o1 d) Q):Ends O5 (L1 W neg o1 d) Q:=by
 have a:=A8 hW n;have e:((((W.take n).getD 0 0).toNat:Int)==(45:Int))=false/\((((W.take n).getD 0 0).toNat:Int)==(43:Int))=false:=by
  cases g:W.take n with
  |nil=>simp
  |cons c t=>
   unfold Ak at a;grind [BD]
 refine zj (As ..) (zc ah ?_);rw[Q5, <-f,zh,e.1,e.2];exact zc ah (zc ah<|zc ah (zc ah<|zn rfl (zc ah<|zn rfl h)))
theorem qS(n:Int)(h:0<=n):(D3 (Cy n,Cv n),D4 (Cy n,Cv n))=CC (-n):=by
 show CN (CC n)=_;unfold CN;split
 ·next c=>
  have:=Cc n;rw[BF c.1]at this;rw[this,B2 (n:= -n)];by_cases a: -9223372036854775808<n/\n<9223372036854775808
  ·omega
  ·have e:CC n=(1,BO<|Ae n):=by simp_all [CC,wc]
   grind
 ·rw[Cc]
theorem Wi{a D:Int}{W:Rd}{n:Nat}(b:0<=a)(hW:Ak W=true)(i:n<=W.length)(e:a*10^W.length+AA 0 W=D):(a*10^n+AA 0 (W.take n))*10^(W.drop n).length+AA 0 (W.drop n)=D/\a<=D/\a*10^n<=D:=by
 have c:AA 0 W=AA 0 (W.take n)*10^(W.drop n).length+AA 0 (W.drop n):=by
  grind [yq,Cz,D8]
 have f:W.length=n+(W.drop n).length:=ah
 have h:=(A9 hW).1;have one:∀k:Nat,(1:Int)<=10^k:=fun k=>by have:=A6 (show(0:Int)<10 by decide) k;omega
 have d:a<=a*10^W.length:=by have:=zo (one W.length) b;omega
 have g:a*10^n<=a*10^n*10^(W.drop n).length:=by
  have:=zo (one (W.drop n).length) (qc b (show(0:Int)<=10^n by grind));omega
 grind
theorem Ck[Srt](neg:Bool)(e D:Int)(d:D<(10:Int)^(6000:Nat))(m:∀ob,Q (.agg [.dat i64<|Cy<|if neg=true then -D else D,.dat (.nlist u64)<|Cv<|if neg=true then -D else D]) ob):∀(f:Nat) (W:Rd) (a:Int),W.length<f->W.length<=6000->0<=a->Ak W=true->a*10^W.length+AA 0 W=D->Ends O5 (L5 W neg (Cy a) (Cv a) e) Q
 |0,W,a,k,_,_,_,_=>by omega
 |f+1,W,a,k,l,b,hW,h=>by
  cases i:W with
  |nil=>
   have h:a=D:=by grind [AA]
   subst h;have g:=Fy b d;refine zj (Gb ..) (zn (by simp)<|zk (fun c=>zc (BY g).1<|zg ?_)<|fun c=>zg ?_)
   ·have:=qS a b;have s:D3 (Cy a,Cv a)=Cy (-a):=wi Prod.fst this;have p:D4 (Cy a,Cv a)=Cv (-a):=wi Prod.snd this;grind
   grind
  |cons c t=>
   rw[<-i];have j:1<=W.length:=ah
   obtain⟨r1,r2,r⟩:=Wi (n:=min 18 W.length) b hW ae h;have o:=(A9<|A8 hW<|min 18 W.length).1;have q:0<=a*10^(min 18 W.length):=qc b ah;refine iM W neg _ _ e hW j _ rfl (Ca W neg _ _ e _ _ rfl hW rfl j a e b (by grind [Fy]) (by grind [Fy]) ?_ _ 0 rfl ae);exact Ck neg e D d m f (W.drop<|min 18 W.length) _ ah ah ae (BM hW _) r1
theorem Ap[Srt](neg:Bool)(W:Rd)(g:W.length<=5999)(hW:Ak W=true)(h:∀ob,Q (.agg [.dat i64<|Cy<|if neg=true then -AA 0 W else AA 0 W,.dat (.nlist u64)<|Cv<|if neg=true then -AA 0 W else AA 0 W]) ob)(f:W=[]->∀ob v,(v=.agg [.dat i64 0,.nil]\/v=.agg [.dat i64<|D3 ((0:Int),[]),.dat (.nlist u64)<|D4 ((0:Int),[])])->Q v ob):Ends O5 (L1 W neg 0 0) Q:=by
 cases b:W with
 |nil=>
  refine zj (As ..) (zn (by simp)<|zk (fun c=>zc af<|by simp_all)<|by simp_all)
 |cons c t=>
  rw[<-b];have e:1<=W.length:=ah
  have d:AA 0 W<(10:Int)^(6000:Nat):=zt (A9 hW).2 (AJ af ae);obtain⟨r1,r2,j⟩:=Wi (a:=0) (n:=min 18 W.length) (D:=AA 0 W) ae hW ae ae;have i:=(A9<|A8 hW<|min 18 W.length).1;refine lS W neg 0 0 hW e _ rfl (CL W neg 0 0 _ _ rfl hW rfl e 0 0 rfl ae af (by rw[Int.zero_mul];decide) ?_ _ 0 rfl ae);exact Ck neg 0 _ d h (W.length+1) (W.drop<|min 18 W.length) _ ah ah ae (BM hW _) r1
theorem ok[Srt]:Ag Bh 94 NI:=by
 refine BX jC<|fun(s:Rd) b=>?_;have b:(decide (s.length<=5999)&&(if s.getD 0 0=45 then Ak (s.drop 1)else Ak s))=true:=b;rw[ze,w5]at b;obtain⟨m,b⟩:=b;have fin:∀D,Bg s=D->∀ob,Ac NI s (.agg [.dat i64<|Cy D,.dat (.nlist u64)<|Cv D]) ob:=by
  rintro D rfl ob;exact z6 rfl rfl rfl
 have a:Bg s=0->∀ob v,(v=.agg [.dat i64 0,.nil]\/v=.agg [.dat i64<|D3 ((0:Int),[]),.dat (.nlist u64)<|D4 ((0:Int),[])])->Ac NI s v ob:=by
  rintro h ob v (rfl|rfl)
  ·refine z6 rfl rfl ?_;show((0:Int),([]:List Int))=(Cy<|Bg s,Cv<|Bg s);rw[h];rfl
  ·refine z6 rfl rfl ?_;show CN ((0:Int),([]:List Int))=(Cy<|Bg s,Cv<|Bg s);rw[h];rfl
 refine zx (Al s) ?_;conv=>zeta
 cases s with
 |nil=>
  refine zn af (zn af (zj (A5 ..)<|zn af<|zg<|a rfl _ _ (.inl rfl)))
 |cons c r=>
  have j:(c::r).take 1=[c]:=rfl;have i:(c::r).getD 0 0=c:=rfl;rw[i]at b;have e:(q9 1 (c::r)).take (yr (c::r).length 1)=r:=by simp
  have f:decide (((c::r).length:Int)>=1)=true:=ah;have g:decide (1<=(c::r).length)=true:=(by rfl);rw[j,e];refine zc f<|zc g<|zc f<|zc g<|zk (fun d=>?_)<|fun d=>?_
  ·have l:c=45:=ah
   rw[wd l]at b;rw[d];have k:Bg (c::r)= -AA 0 r:=by simp_all [Bg]
   refine zc (by simp) (Ap true r ah b ah<|fun h0=>a<|by rw[k,h0];rfl)
  simp_all [Bg,Ap]
end T94
namespace T115
theorem loop[Srt]{Q:PV->Ob->Prop}(l:List Int)(f:l.length<=1000000):∀(r:List Int) (i:Nat),l.drop i=r->i<=l.length->Q (.dat i64<|j6 r) []->Ends Mr (L1 l ((l.length:Int)) i) Q
 |[],i,h,j,a=>by
  refine zj (As ..) ?_;conv=>zeta
  have:¬i<l.length:=by
   intro c;have:=List.drop_eq_getElem_cons c;rw[h]at this;cases this
  have g:i=l.length:=ae
  subst g;simpa [j6]using a
 |x::r,i,h,j,a=>by
  obtain⟨c,e,k⟩:=drop_cons (d:=0) h;refine zj (As ..) ?_;conv=>zeta
  rw[JV,wd (by simp;omega),JV,wd (by simp;omega),JV];simp only[zh,e];by_cases b:x=0
  ·subst b;rw[wc (by simp),wr _ ae ae];exact loop l f r (i+1) k c (by simpa [j6]using a)
  ·rw[wd<|by simpa using b];simpa [j6,b]using a
theorem ok[Srt]:Ag Bh 115 HM:=by
 refine BX Ed<|fun l a=>?_;refine zx (Al l) ?_;conv=>zeta
 exact loop l (by simpa [HM]using a) l 0 rfl (Nat.zero_le _) (z6 rfl rfl rfl)
end T115
theorem T116.ok[Srt]:Ag Bh 116 LW:=by
 refine BX Ed<|fun⟨c,e⟩ _=>?_;refine zx (T116.Al c e) ?_;conv=>zeta
 have key:∀x:Int,x=IA c e->Ac LW (c,e) (.dat i64 x) []:=fun x a=>z6 rfl rfl a
 simp only[JV,X1];cases c
 ·exact key _ rfl
 ·exact key _ rfl
theorem gN[Srt]:DU KM:=
 Aa T115.ok (Aa T116.ok<|Aa T113.ok<|Aa T92.ok<|Aa T114.ok<|Aa T117.ok<|Aa T94.ok<|Aa T118.ok<|Aa T97n.ok AT)
theorem GZ{s:Rd}(h:AS s=true):s≠[]/\Ak s=true:=by
 unfold AS at h;rw[ze,ze,w5]at h;exact h.1
theorem J0{s:Rd}(h:Ak s=true)(b:s.length<=5999):CP s=true/\Bg s=AA 0 s:=by
 have h0:s.getD 0 0≠45:=by
  cases s with
  |nil=>decide
  |cons c r=>
   unfold Ak at h;rw[yk,ze]at h;have:=Er h.1;rintro a;have a:c=45:=a;subst a;exact wh this af
 unfold CP Bg;rw[wc h0,wc h0,h,Bool.and_true];exact⟨w4 b,rfl⟩
theorem oH{a b L:Int}(d:0<=a)(f:0<=b)(g:a<L)(c:b<L):0<=qz a b/\qz a b<L:=by
 rw[FT];obtain⟨x,rfl⟩:=yo d;obtain⟨y,rfl⟩:=yo f;have e:qj (x:Int) (y:Int)=Nat.gcd x y:=rfl;rw[e];refine⟨Int.natCast_nonneg _,?_⟩;rcases Nat.eq_zero_or_pos x with h|h
 ·subst h;rw[Nat.gcd_zero_left];exact c
 ·have:=Nat.gcd_le_left y h;omega
namespace T61
def E(A B:Rd)(b a:Bool):Int:=if a=false then 1 else if 600<A.length\/600<B.length then 4 else if b=true/\qz (AA 0 A) (AA 0 B)≠1 then 1 else 0
theorem Ha[Srt](A B:Rd)(a:Bool)(j:Ak A=true)(b:a=true->Ak B=true)(x:A.length<=600)(y:B.length<=600)(f:∀ob,Q (.dat i64<|if a=true/\qz (AA 0 A) (AA 0 B)≠1 then 1 else 0) ob):Ends KM (L8 A B a) Q:=by
 refine zj (LQ ..)<|zk (fun c=>?_)<|fun c=>?_
 ·have b:=b c;obtain⟨r1,r2⟩:=J0 j ae;obtain⟨r3,r4⟩:=J0 b ae;have d:=A9 j;have e:=A9 b;have k:AA 0 A<(10:Int)^(6000:Nat):=zt d.2 (AJ af ae);have i:AA 0 B<(10:Int)^(6000:Nat):=zt e.2 (AJ af ae);have o:CW A=Cy (AA 0 A):=by unfold CW;rw[r2]
  have m:CX A=Cv (AA 0 A):=by unfold CX;rw[r2]
  have r:CW B=Cy (AA 0 B):=by unfold CW;rw[r4]
  have s:CX B=Cv (AA 0 B):=by unfold CX;rw[r4]
  have t:LP (Cy<|AA 0 A,Cv<|AA 0 A) (Cy<|AA 0 B,Cv<|AA 0 B)=Cy (qz (AA 0 A)<|AA 0 B):=by
   unfold LP;rw[Km,Km]
  have l:LD (Cy<|AA 0 A,Cv<|AA 0 A) (Cy<|AA 0 B,Cv<|AA 0 B)=Cv (qz (AA 0 A)<|AA 0 B):=by
   unfold LD;rw[Km,Km]
  obtain⟨v,p⟩:=oH d.1 e.1 k i;have u:Xp (Cy<|qz (AA 0 A)<|AA 0 B,Cv<|qz (AA 0 A)<|AA 0 B) ((1:Int),B7 (1:Int))=B3 (qz (AA 0 A)<|AA 0 B) 1:=by
   unfold Xp;rw[Km,ER,EB]
  rw[o,m,r,s,t,l,u];have w:Bd ((1:Int),B7 (1:Int))=true:=by rw[ER];decide
  refine zc r1<|zc r3<|zc (Ad (E0<|Fy d.1 k)<|E0<|Fy e.1 i)<|zc rfl (zc (Ad (E0<|Fy v p) w) ?_);refine zj (uM ..)<|zc rfl (zg ?_);generalize qz (AA 0 A) (AA 0 B)=g at*;have:IA (B3 g 1 !=0) 1=if a=true/\g≠1 then 1 else 0:=by
   unfold B3 IA;by_cases h:g=1
   ·subst h;rw[c];rfl
   ·have n:(if a=true/\g≠1 then(1:Int)else 0)=1:=wd ⟨c,h⟩;rw[n];rcases Int.lt_or_gt_of_ne h with q|q
    ·rw[wd q];rfl
    ·rw[wc ae,wd q];rfl
  rw[this];exact f _
 ·refine zj tL<|zc rfl (zg ?_);rw[wc<|by rw[c];simp]at f;exact f _
theorem Ca[Srt](A B:Rd)(e a c d:Bool)(g:c= !a)(f:d=true↔600<A.length\/600<B.length)(k:a=true->Ak A=true/\(e=true->Ak B=true))(b:∀ob,Q (.dat i64<|E A B e a) ob):Ends KM (L7 A B e<|j6 [IA c 1,IA d 4]) Q:=by
 subst g;unfold E at b;cases a with
 |false=>
  refine zj (FA ..)<|zc ?_<|zg<|b _;cases d<;>rfl
 |true=>
  rw[wc af]at b;cases d with
  |true=>
   rw[wd<|f.1 rfl]at b;exact zj (FA ..)<|zc rfl (zg<|b _)
  |false=>
   have j:¬(600<A.length\/600<B.length):=fun h=>by have:=f.2 h;cases this
   rw[wc j]at b;obtain⟨i,l⟩:=k rfl;exact zj (FA ..) (zn rfl (Ha A B e i l ae ae b))
theorem BK[Srt](A B:Rd)(b a:Bool)(e:a=true->Ak A=true/\(b=true->Ak B=true))(d:∀ob,Q (.dat i64<|E A B b a) ob):Ends KM (L4 A B b a) Q:=by
 refine zj (Dh ..)<|zc rfl (zk (fun c=>zc rfl (zc rfl ?_))<|fun c=>zc rfl (zc rfl ?_))
 ·have c:=w6 c;exact Ca A B b a _ _ rfl ⟨fun _=>.inl ae,fun _=>rfl⟩ e d
 ·have c:=w7 c;exact Ca A B b a _ _ rfl ⟨fun h=>.inr (by have:=w6 h;omega),fun h=>w4 ae⟩ e d
theorem Ck[Srt](A B:Rd)(a:Bool)(b:∀ob,Q (.dat i64<|E A B a false) ob):Ends KM (L5 A B a) Q:=by
 refine zj (Gb ..)<|zc rfl (zk (fun c=>zc rfl (zc rfl ?_))<|fun c=>zc rfl (zc rfl ?_))
 ·have c:=w6 c;exact Ca A B a false _ _ rfl ⟨fun _=>.inl ae,fun _=>rfl⟩ (fun h=>by cases h) b
 ·have c:=w7 c;exact Ca A B a false _ _ rfl ⟨fun h=>.inr (by have:=w6 h;omega),fun h=>w4 ae⟩ (fun h=>by cases h) b
theorem IW[Srt](A B:Rd)(a:Bool)(d:Ak A=true/\(a=true->Ak B=true))(b:∀ob,Q (.dat i64<|E A B a true) ob):Ends KM (L6 A B a) Q:=by
 refine zj (JR ..)<|zc rfl (zk (fun c=>zc rfl (zc rfl ?_))<|fun c=>zc rfl (zc rfl ?_))
 ·have c:=w6 c;exact Ca A B a true _ _ rfl ⟨fun _=>.inl ae,fun _=>rfl⟩ (fun _=>d) b
 ·have c:=w7 c;exact Ca A B a true _ _ rfl ⟨fun h=>.inr (by have:=w6 h;omega),fun h=>w4 ae⟩ (fun _=>d) b
theorem Sy[Srt]{F:Tr}(A B:Rd)(f:Bool)(k:B.length<=1000000)(j:Ak A=true)(b:Bool)(a:b=(!f||(AS B&&decide (B≠[48])&&decide (B≠[49]))))(g:∀ob,Q (.dat i64<|E A B f b) ob)
  (h:(f=true->Ends KM (.ite (decide (B.length<=1000000)) (.ite (AS B) (.ite (!B==[(48:UInt8)]) (L4 A B f<|!B==[(49:UInt8)])<|L5 A B f)<|L5 A B f) .fail) Q)->(f=false->b=true)->Ends KM F Q):Ends KM F Q:=by
 refine h (fun i=>zc (w4 k) ?_) (fun i=>by rw[a,i];rfl);rw[i]at a;refine zk (fun c=>zk (fun d=>?_)<|fun d=>?_)<|fun c=>?_
 ·have d:B≠[48]:=by simpa using d
  have e:b=(!B==[(49:UInt8)]):=by
   rw[a,c,w4 d];by_cases h:B=[49]
   ·rw[h];rfl
   ·rw[w4 h];simp[h]
  rw[<-e];exact BK A B f b (fun _=>⟨j,fun _=>(GZ c).2⟩) g
 ·have d:B=[48]:=by simpa using d
  have e:b=false:=by rw[a,w8<|fun h=>h d];simp
  rw[e]at g;exact Ck A B f g
 ·have e:b=false:=by rw[a,c];simp
  rw[e]at g;exact Ck A B f g
theorem EW(s:Rd):(AD s).length<=s.length/\(zw s).length<=s.length:=by
 unfold AD zw;cases s.findIdx? (fun x=>x==47)with
 |none=>simp
 |some i=>simp;omega
theorem Wn(s:Rd):(Ba s).length<=s.length:=by
 unfold Ba;split
 ·simp
 ·exact yi _
theorem ok[Srt]:Ag Bh 61 Iw:=by
 refine BX gN<|fun(a:Rd) m=>?_;have m:a.length<=1000000:=w6 m;have s:=Wn a;obtain⟨r,t⟩:=EW<|Ba a;have j:∀b,b=Hr a->∀ob,Ac Iw a (.dat i64<|E (AD<|Ba a) (zw<|Ba a) (Bu<|Ba a) b) ob:=by
  rintro b rfl ob;exact z6 rfl rfl rfl
 have g:Hr a=(AS (AD<|Ba a)&&(!jm a||decide (AD (Ba a)≠[48]))&&(!Bu (Ba a)||(AS (zw<|Ba a)&&decide (zw (Ba a)≠[48])&&decide (zw (Ba a)≠[49])))):=rfl;refine zx (Al a) (zc (Ad (w4 rfl)<|w4 m) (zc (Ad (w4 rfl)<|w4 ae) (zc (w4 ae) ?_)));generalize AD (Ba a)=A at*;generalize zw (Ba a)=B at*;generalize Bu (Ba a)=f at*;refine zk (fun c=>?_)<|fun c=>?_
 ·have k:=(GZ c).2;refine zk (fun d=>?_)<|fun d=>?_
  ·have i:Hr a=(!f||(AS B&&decide (B≠[48])&&decide (B≠[49]))):=by rw[g,c,d];rfl
   refine Sy A B f ae k (Hr a) i (j _ rfl)<|fun q p=>zj (As ..)<|zk q<|fun e=>?_;have n:=p e;exact IW A B f ⟨k,fun h=>by rw[e]at h;cases h⟩<|j true n.symm
  ·by_cases l:A=[48]
   ·have i:Hr a=false:=by rw[g,d,w8<|fun h=>h l];simp
    have o:(!A==[(48:UInt8)])=false:=by rw[l];rfl
    rw[o];refine zj (A5 ..) (zk (fun e=>zn rfl (Ck A B f<|j false i.symm))<|fun e=>BK A B f false (fun h=>by cases h)<|j false i.symm)
   ·have o:(!A==[(48:UInt8)])=true:=by simp[l]
    have i:Hr a=(!f||(AS B&&decide (B≠[48])&&decide (B≠[49]))):=by rw[g,c,d,w4 l];rfl
    rw[o];refine Sy A B f ae k (Hr a) i (j _ rfl)<|fun q p=>zj (A5 ..)<|zk (fun e=>zc rfl (q e))<|fun e=>?_;have n:=p e;exact BK A B f true (fun _=>⟨k,fun h=>by rw[e]at h;cases h⟩)<|j true n.symm
 ·have i:Hr a=false:=by rw[g,c];simp
  exact zj (C5 ..)<|zk (fun e=>Ck A B f<|j false i.symm)<|fun e=>Ck A B f<|j false i.symm
end T61
theorem Dy(c:UInt8)(r:Rd):AD (c::r)=if c=47 then[]else c::AD r:=by
 unfold AD;grind
namespace T104
theorem Ap[Srt]{Q:PV->Ob->Prop}(s:Rd)(f:s.length<=9223372036854775807):∀(r:Rd) (i:Nat),s.drop i=r->i<=s.length->(∀ob,Q (.dat i64 (((i+(AD r).length:Nat)):Int)) ob)->Ends Mr (L1 s i) Q
 |[],i,h,b,a=>by
  have m:i=s.length:=drop_nil h b;subst m;exact zj (As ..) (zn (by simp)<|zg<|a _)
 |c::r,i,h,b,a=>by
  obtain⟨j,e,l⟩:=drop_cons (d:=0) h;have g:zi .i64 ((i:Int)+1)=((i+1:Nat):Int):=by grind [wr]
  rw[Dy]at a;refine zj (As ..) (zc ah ?_);rw[zh,e,g];refine zc ah<|zk (fun d=>?_)<|fun d=>?_
  ·have k:c=47:=by
    exact yd.1 ah
   simp_all
  ·have k:c≠47:=by rintro rfl;grind
   refine Ap s f r (i+1) l j<|fun ob=>?_;grind
theorem ok[Srt]:Ag Bh 104 OF:=by
 refine BX Ed<|fun(s:Rd) a=>?_;have a:s.length<=1000000:=w6 a;refine zx (Al s) (Ap s ae s 0 rfl ae (fun ob=>z6 rfl rfl ?_));rw[j5];rfl
theorem okU[Srt]:Ag Bh 104 W2:=by
 refine BX Ed<|fun(s:Rd) a=>?_;have a:s.length<=9223372036854775807:=w6 a;refine zx (Al s) (Ap s a s 0 rfl ae (fun ob=>z6 rfl rfl ?_));rw[j5];rfl
end T104
namespace T105
theorem Tm{s:Rd}{r:Rd}{c:UInt8}{i:Nat}(h:s.drop i=c::r):Ak (s.drop i)=(BD c&&Ak (s.drop<|i+1)):=by
 obtain⟨_,_,a⟩:=drop_cons (d:=0) h;rw[a,h];rfl
theorem Ap[Srt](s:Rd)(j:s.length<=9223372036854775807):∀(r:Rd) (i:Nat),s.drop i=r->i<=s.length->(∀ob,Q (.bl<|Ak<|s.drop i) ob)->Ends Mr (L1 s s i) Q
 |[],i,h,b,a=>by
  have n:i=s.length:=drop_nil h b;rw[h]at a;subst n;exact zj (As ..) (zn (by simp)<|zg<|a _)
 |c::r,i,h,b,a=>by
  obtain⟨l,g,m⟩:=drop_cons (d:=0) h;have k:zi .i64 ((i:Int)+1)=((i+1:Nat):Int):=by grind [wr]
  rw[Tm h]at a;refine zj (As ..) (zc ah ?_);rw[zh,g,k];refine zc ah (zk (fun d=>?_) (fun d=>zc ah<|zk (fun e=>?_)<|fun e=>?_))
  ·grind [BD,zg]
  ·have f:BD c=false:=by unfold BD;grind
   simp_all
  ·have f:BD c=true:=by grind [BD]
   rw[f,qe]at a;exact Ap s j r (i+1) m l a
theorem A2[Srt](s:Rd)(j:s.length<=9223372036854775807):∀(r:Rd) (i:Nat),s.drop i=r->i<=s.length->(∀ob,Q (.bl<|Ak<|s.drop i) ob)->Ends Mr (L2 s s i) Q
 |[],i,h,b,a=>by
  have n:i=s.length:=drop_nil h b;rw[h]at a;subst n;exact zj (A5 ..) (zn (by simp)<|zg<|a _)
 |c::r,i,h,b,a=>by
  obtain⟨l,g,m⟩:=drop_cons (d:=0) h;have k:zi .i64 ((i:Int)+1)=((i+1:Nat):Int):=by grind [wr]
  rw[Tm h]at a;refine zj (A5 ..) (zc ah ?_);rw[zh,g,k];refine zc ah (zk (fun d=>?_) (fun d=>zc ah<|zk (fun e=>?_)<|fun e=>?_))
  ·grind [BD,zg]
  ·have f:BD c=false:=by unfold BD;grind
   simp_all
  ·have f:BD c=true:=by grind [BD]
   rw[f,qe]at a;exact A2 s j r (i+1) m l a
theorem okU[Srt]:Ag Bh 105 Rl:=by
 refine BX Ed<|fun(s:Rd) f=>?_;have f:s.length<=9223372036854775807:=w6 f;have a:∀b ob,b=AS s->Ac Rl s (.bl b) ob:=fun b ob j=>z6 rfl rfl j
 refine zx (Al s) ?_;conv=>zeta
 cases s with
 |nil=>exact zc rfl (zg<|a _ _ rfl)
 |cons c r=>
  have i:(c::r).getD 0 0=c:=rfl;rw[i];refine zn (by rfl) (zk (fun d=>zc (by simp)<|zk (fun e=>zg<|a _ _ ?_)<|fun e=>?_)<|fun d=>?_)
  ·have h:c=48:=by
    exact yd.1 ah
   grind [AS]
  ·have h:c≠48:=by rintro rfl;grind
   refine Ap (c::r) f (c::r) 0 rfl ae (fun ob=>a _ _ ?_);grind [AS]
  ·have g:r=[]:=by
    grind
   subst g;refine A2 [c] f [c] 0 rfl ae (fun ob=>a _ _ ?_);grind [AS]
end T105
theorem mE[Srt]:DU oF:=Aa T128.ok AT
namespace T109
theorem Nj{v:Int}(a: -9223372036854775808<=v/\v<9223372036854775808):∃q d:Nat,Ae v=d+1000000000*q/\d<1000000000/\zi .i64 (Int.tdiv v 1000000000)=(if v<0 then -(q:Int)else q)/\Int.tmod v 1000000000=(if v<0 then -(d:Int)else d):=by
 refine⟨v.natAbs/1000000000,v.natAbs % 1000000000,by rw[Ah];omega,by omega,?_,?_⟩
 ·by_cases h:v<0
  ·have:=Int.neg_tdiv (-v) 1000000000;rw[Int.neg_neg]at this;rw[this,yh ae,wd h,wr _ ae ae];omega
  ·rw[yh ae,wc h,wr _ ae ae];omega
 ·by_cases h:v<0
  ·have:=Int.neg_tmod (-v) 1000000000;grind
  grind
theorem A2[Srt](neg:Bool)(D:Int)(k:∀(w:List Int) ob,Au zd w->zf zd w=D->Q (.agg [.dat .bool<|Cj neg w,.dat li<|Aw w]) ob):∀(f:Nat) (v:Int) (o1:List Int),Ae v<f->(-9223372036854775808<=v/\v<9223372036854775808)->o1.length<=100->(Ae v≠0->Ae v*1000000000^o1.length<=9223372036854775808)->Au zd o1->zf zd o1+(zd:Int)^o1.length*Ae v=D->Ends oF (L2 v o1.length neg o1) Q
 |0,v,o1,i,b,l,m,e,n=>by
  have:=AG v;omega
 |f+1,v,o1,i,b,l,m,e,n=>by
  obtain⟨q,d,s1,s2,s3,s4⟩:=Nj b;by_cases h0:v=0
  ·subst h0;have r:Ae 0=0:=rfl;refine zj (A5 ..)<|zn rfl ?_;grind [zc,zg]
  ·have j:Ae v≠0:=by rw[Ah];omega
   have a:o1.length<=10:=by
    rcases Nat.lt_or_ge 10 o1.length with g|g
    ·have h:(1000000000:Int)^11<=1000000000^o1.length:=AJ af g;have p:=yn (show 1<=Ae v by omega) (show(0:Int)<=1000000000^o1.length by omega);omega
    omega
   have eq:Ae (if v<0 then -(q:Int)else q)=q:=by grind [Ah]
   have go:Ends oF (L2 (if v<0 then -(q:Int)else q) (j0 o1.length 1) neg<|o1++[(d:Int)]) Q:=by
    have:=A2 neg D k f (if v<0 then -(q:Int)else q) (o1++[(d:Int)]) ae (by grind [Ah]) ah (fun _=>by
     rw[eq,zq];show(q:Int)*1000000000^(o1.length+1)<=_;rw[yv, <-qx,Int.mul_right_comm];have h:=yn (show(q:Int)*1000000000<=Ae v by omega) (show(0:Int)<=1000000000^o1.length from ah);omega) (EM e ae) (by
     rw[eq,B1,zq];show zf zd o1+(zd:Int)^o1.length*(d:Int)+(zd:Int)^(o1.length+1)*(q:Int)=D;grind)
    grind
   refine zj (A5 ..) (zc ah<|zc rfl ?_);refine zk (fun c=>zc ah<|zc rfl ?_) (fun c=>zc ah<|zc rfl ?_)
   ·have o:zi .i64 (0 - -(d:Int))=(d:Int):=by grind [wr]
    grind
   grind
theorem ok[Srt]:Ag Bh 109 Iz:=by
 refine BX mE<|fun(v:Int) a=>?_;have a:=EP (n:=v) a;have fin:∀(w:List Int) ob,Au zd w->zf zd w=Ae v->Ac Iz v (.agg [.dat .bool<|Cj (decide (v<0)) w,.dat li<|Aw w]) ob:=by
  intro w ob g f;refine z6 rfl rfl ?_;have:=Lb (neg:=decide (v<0)) g f;have e:(if decide (v<0)=true then -Ae v else Ae v)=v:=by
   rw[Ah];grind
  rw[e]at this;exact this
 obtain⟨q,d,s1,s2,s3,s4⟩:=Nj a;refine zx (Al v) ?_;conv=>zeta
 by_cases h0:v=0
 ·subst h0;exact zj (As ..) (zn rfl (zc rfl (zg<|fin [] _ (fun x b=>by cases b) rfl)))
 ·have eq:Ae (if v<0 then -(q:Int)else q)=q:=by grind [Ah]
  have go:Ends oF (L2 (if v<0 then -(q:Int)else q) 1 (decide (v<0)) [(d:Int)]) (Ac Iz v):=by
   refine A2 (decide (v<0)) (Ae v) fin (q+1) _ [(d:Int)] ae (by grind [Ah]) (by simp) (fun _=>?_) (fun x b=>by grind) ?_
   ·grind [Ah]
   grind [DR]
  refine zj (As ..) (zc ah<|zc rfl ?_);refine zk (fun c=>zc rfl (zc rfl ?_))<|fun c=>zc rfl (zc rfl ?_)
  ·have h:zi .i64 (0 - -(d:Int))=(d:Int):=by grind [wr]
   grind
  grind
end T109
theorem lV[Srt]:DU XK3:=Aa T104.ok<|Aa T124.ok<|Aa T109.ok AT
theorem Bx:∀(s:Rd),AD s=s.take (AD s).length/\(Bu s=true->(AD s).length<s.length/\zw s=s.drop ((AD s).length+1))/\(Bu s=false->AD s=s/\zw s=[])
 |[]=>⟨rfl,(fun h=>(by cases h)),fun _=>⟨rfl,rfl⟩⟩
 |c::r=>by
  obtain⟨f,d,e⟩:=Bx r;have b:zw (c::r)=if c=47 then r else zw r:=by
   unfold zw;grind
  have a:Bu (c::r)=(decide (c=47)||Bu r):=by
   rfl
  rw[Dy,b,a];grind
theorem T74.ok[Srt]:Ag Bh 74 ME:=by
 refine BX lV<|fun(a:Rd) b=>?_;have b:(CP (AD a)&&CP (zw a)&&decide (a.length<=5999))=true:=b;rw[ze,ze,w5]at b;obtain⟨⟨e,i⟩,k⟩:=b;obtain⟨c1,c2,c3⟩:=Bx a;have es:AP a=((AD a).length:Int):=rfl;refine zx (T74.Al a) (zc ah<|zk (fun c=>?_)<|fun c=>?_)
 ·have d:Bu a=false:=by
   grind
  obtain⟨f,g⟩:=c3 d;rw[f]at e;refine zc e<|zc rfl (zg<|z6 rfl rfl ?_);show((EI a,Du a),(false,Sp.rW 1))=((BC a,Bt a),(Bi a,Bc a));unfold BC Bt Bi Bc Bb AM EI Du;rw[f,d];rfl
 ·have d:Bu a=true:=by
   grind
  obtain⟨f,g⟩:=c2 d;have h:zi .i64 (((AD a).length:Int)+1)=(((AD a).length+1:Nat):Int):=by grind [wr]
  have j:(a.drop<|(AD a).length+1).take (yr a.length<|(AD a).length+1)=a.drop ((AD a).length+1):=zm (by simp);rw[es,h,zh,zh,j, <-c1, <-g];refine zc ah (zc ah<|zc e<|zc i<|zg<|z6 rfl rfl ?_);show((EI<|AD a,Du<|AD a),(EI<|zw a,Du<|zw a))=((BC a,Bt a),(Bi a,Bc a));grind [BC,Bt,Bi,Bc,Bb,AM,EI,Du]
theorem gF[Srt]:DU RZ:=Aa T104.okU (by grind [Aa,T105.okU,T74.ok,T106.ok,Mf])
namespace T48
theorem lX{g:Int}(h0:0<=g):BA g=[1]↔g=1:=by
 constructor
 ·intro h;have:=CO (b:=zd) af h0;have h:Sp.dg zd g=[1]:=h;rw[h]at this;rw[<-this];rfl
 ·rintro rfl;rfl
theorem BK[Srt](s:Rd)(o:Ak (AD s)=true)(b:Bu s=true->Ak (zw s)=true)(r:(AD s).length<=600)(y:(zw s).length<=600)(z:s.length<=5999)
  (a:∀ob,Q (.dat i64<|if Bu s=true/\qz (AA 0<|AD s) (AA 0<|zw s)≠1 then 1 else 0) ob):Ends RZ (L4 s<|AP s) Q:=by
 obtain⟨D,A,C⟩:=Bx s;have es:AP s=((AD s).length:Int):=rfl;refine zj (Dh ..) ?_;conv=>zeta
 refine zk (fun c=>?_)<|fun c=>?_
 ·have j:Bu s=true:=by
   grind
  have b:=b j;obtain⟨r1,r2⟩:=J0 o ae;obtain⟨r3,r4⟩:=J0 b ae;have e:=A9 o;have i:=A9 b;have l:∀k:Nat,(10:Int)^k<=(zd:Int)^k:=by
   intro k;induction k with
   |zero=>simp
   |succ k E=>
    grind
  have m:AA 0 (AD s)<(zd:Int)^600:=zt e.2 (Int.le_trans (l _)<|AJ af r);have n:AA 0 (zw s)<(zd:Int)^600:=zt i.2 (Int.le_trans (l _) (AJ af y));have t:Bt s=BA (AA 0<|AD s):=by
   grind [Bt,Bb,Sp.rW,Ah]
  have q:Bc s=BA (AA 0<|zw s):=by
   unfold Bc AM Sp.rW;rw[wd j,r4,show Ae (AA 0<|zw s)=AA 0 (zw s)by rw[Ah];omega]
  obtain⟨n1,_,v1,B⟩:=EZ (k:=600) e.1 m af;obtain⟨n2,_,v2,l2⟩:=EZ (k:=600) i.1 n af;have rat:HD s=true:=by
   grind [HD]
  rw[t,q];refine zc rat (zj (Gb ..)<|zc ah ?_);have w:B8 (BA<|AA 0<|AD s) (BA<|AA 0<|zw s)=BA (qz (AA 0<|AD s)<|AA 0<|zw s):=by
   grind [B8]
  rw[w];obtain⟨p,_⟩:=oH e.1 i.1 m n;generalize qz (AA 0<|AD s) (AA 0<|zw s)=g at*;have u:=lX p;by_cases h:g=1
  ·rw[wc ae]at a;rw[u.2 h];exact zj (JR ..)<|zn rfl (zc rfl (zn rfl (zg<|a _)))
  ·rw[wd ⟨j,h⟩]at a;have f:BA g≠[1]:=ah;refine zj (JR ..)<|zk (fun d=>zg<|a _)<|fun d=>?_;have d:(BA g).length=1:=by
    grind
   obtain⟨x,v⟩:=je.1 d;rw[v]at f ⊢;exact zc rfl (by grind [zc,zg])
 ·rw[wc ah]at a;exact zg<|a _
theorem A2[Srt](s:Rd)(n:Ak (AD s)=true)(h:s.length<=9223372036854775807)(a:∀ob,Q (.dat i64<|T61.E (AD s) (zw s) (Bu s)<|!Bu s||(AS (zw s)&&decide (zw s≠[48])&&decide (zw s≠[49]))) ob):Ends RZ (L2 s<|AP s) Q:=by
 obtain⟨l,m,i⟩:=Bx s;have es:AP s=((AD s).length:Int):=rfl;have g:=T61.EW s;have big:(Bu s=true->Ak (zw s)=true)->(∀ob,Q (.dat i64<|T61.E (AD s) (zw s) (Bu s) true) ob)->Ends RZ (L3 s<|AP s) Q:=by
  intro k a;unfold T61.E at a;rw[wc af]at a;have b:s.length=(AD s).length+(if Bu s=true then 1+(zw s).length else 0):=by
   grind
  refine zj (C5 ..) ?_;conv=>zeta
  rw[es,wr ((s.length:Int)-((AD s).length:Int)) ae ae,wr _ ae ae];refine zk (fun c=>?_)<|fun c=>zk (fun d=>?_)<|fun d=>?_
  ·have c:=w6 c;rw[wd<|ae]at a;exact zg<|a _
  ·have:600<(zw s).length:=ah
   rw[wd<|.inr this]at a;exact zg<|a _
  ·grind [BK]
 refine zj (A5 ..) ?_;conv=>zeta
 cases o:Bu s with
 |false=>
  grind [zn]
 |true=>
  have j:zi .i64 (((AD s).length:Int)+1)=(((AD s).length+1:Nat):Int):=by grind [wr]
  have bad:(!true||(AS (zw s)&&decide (zw s≠[48])&&decide (zw s≠[49])))=false->∀ob,Q (.dat i64 1) ob:=by
   grind [T61.E]
  refine zc ah (zc ah<|zc ah<|zk (fun d=>zg<|bad ?_ _)<|fun d=>zc ah (zk (fun e=>zg<|bad ?_ _)<|fun e=>zc ah<|zk (fun f=>zg<|bad ?_ _)<|fun f=>?_))
  ·grind
  ·grind
  ·grind
  grind [GZ]
theorem Ap[Srt](a s:Rd)(i:s=Ba a)(k:a.length<=9223372036854775807)(o:∀ob,Q (.dat i64<|BG a) ob):Ends RZ (L1 a s) Q:=by
 obtain⟨g,m,l⟩:=Bx s;have es:AP s=((AD s).length:Int):=rfl;have b:s.length<=a.length:=by grind [T61.Wn]
 have n:BG a=T61.E (AD s) (zw s) (Bu s) (AS (AD s)&&(!jm a||decide (AD s≠[48]))&&(!Bu s||(AS (zw s)&&decide (zw s≠[48])&&decide (zw s≠[49])))):=by rw[i];rfl
 have tk:s.take (AD s).length=AD s:=g.symm;refine zj (As ..) ?_;conv=>zeta
 rw[show AP s=((AD s).length:Int)from rfl,zh,tk];refine zc ah (zc ah<|zc ah<|zk (fun d=>?_)<|fun d=>?_)
 ·grind [zg,T61.E]
 ·have d:AS (AD s)=true:=ah
  have p:=(GZ d).2;have c:a.length≠0:=by
   grind [AS]
  refine zc ah (zk (fun e=>zc ah<|zk (fun f=>?_)<|fun f=>?_)<|fun e=>?_)
  ·have j:jm a=true:=by
    refine w4<|yd.1 ?_;grind
   grind [zg,T61.E]
  ·grind [A2]
  ·have j:jm a=false:=by
    refine w8<|fun h=>?_;rw[h]at e;grind
   grind [A2]
theorem ok[Srt]:Ag Bh 48 Iw:=by
 refine BX gF<|fun(a:Rd) f=>?_;have f:a.length<=1000000:=w6 f;have b:∀ob,Ac Iw a (.dat i64<|BG a) ob:=fun ob=>z6 rfl rfl rfl
 refine zx (Al a) ?_;conv=>zeta
 cases a with
 |nil=>exact zn rfl (Ap [] [] rfl ae b)
 |cons c r=>
  have g:(c::r).getD 0 0=c:=rfl;rw[g];refine zc (by simp) (zc (by simp)<|zk (fun d=>zc (by simp) ?_)<|fun d=>?_)
  ·have h:c=45:=by
    exact yd.1 ah
   have e:(q9 1 (c::r)).take (yr (c::r).length 1)=r:=by simp
   rw[e];exact Ap (c::r) r (by simp_all [Ba]) ae b
  ·have h:c≠45:=by rintro rfl;grind
   exact Ap (c::r) (c::r) (by simp_all [Ba]) ae b
end T48
theorem FI[Srt]:DU fY:=
 Aa T158.ok (Aa T157.ok<|Aa T173.ok<|Aa T117.ok<|Aa T97n.ok<|Aa T102.ok<|Aa T96.ok<|Aa T118.ok<|Aa T92.ok<|Aa T94.ok AT)
theorem Eg{a:AE}(h:O3 a=true):Bd a=true/\Ae (zl a)<(Am:Int)^4000:=by
 unfold O3 at h;rw[ze,w5]at h;refine⟨?_,Ik h.1 h.2 af⟩;unfold Bd;exact Ad h.1 (w4 ae)
theorem J2{x y:Int}(a:Ae x<(Am:Int)^4000)(d:Ae y<(Am:Int)^4000):Ae (x*y)<(Am:Int)^8000:=by
 rw[IG];have h0:=AG x;have c:=A6 (b:=Am) af 4000;have a1:=zo (z8 d) h0;have a2:=ye a c;have a3:(Am:Int)^4000*(Am:Int)^4000=(Am:Int)^8000:=(Int.pow_add _ 4000 4000).symm;rw[a3]at a2;exact qm a1 a2
theorem Aag{x:Int}(h:x<(Am:Int)^8000):x<(Am:Int)^9000:=zt h (AJ af af)
theorem Qc{x y:Int}(a:Ae x<(Am:Int)^4000)(b:Ae y<(Am:Int)^4000):Bd (CC<|x*y)=true:=Dl<|Aag<|J2 a b
theorem wG{a b:AE}(f:Bd a=true)(e:Bd b=true)(h:Ae (zl a+zl b)<(Am:Int)^9000):Bd (D1 a b)=true:=by
 have d:=RE f e;unfold D1 at d ⊢;split
 ·rename_i c;rw[wd c]at d;unfold Bd;exact Ad d rfl
 ·exact Dl h
theorem mW(n:Nat):(2:Int)*(Am:Int)^n<=(Am:Int)^(n+1):=by
 rw[yv,zy];exact zo af (z8 (A6 (b:=Am) af n))
theorem Zc{x y:Int}(c:Ae x<(Am:Int)^8000)(d:Ae y<(Am:Int)^8000):Ae (x+y)<(Am:Int)^9000:=by
 have a:=mW 8000;have b:(Am:Int)^8001<=(Am:Int)^9000:=AJ af af;have a:(2:Int)*(Am:Int)^8000<=(Am:Int)^8001:=a;generalize (Am:Int)^8000=p at*;generalize (Am:Int)^8001=q at*;generalize (Am:Int)^9000=r at*;rw[Ah]at*;omega
theorem R4(a:AE):decide (Ib a<0)=decide (zl a<0):=by
 unfold Ib SP;rw[jj,w5,w5];split
 ·omega
 ·split<;>omega
theorem VS{n d:AE}(h:Jy n d=true):Bd n=true/\Bd d=true/\zl d≠0:=by
 unfold Jy at h;rw[ze,ze,w5]at h;exact⟨h.1.1,h.1.2,h.2⟩
theorem T41.ok[Srt]:Ag Bh 41 Zp:=by
 refine BX FI<|fun(a:Rd) b=>?_;have b:(CP (AD a)&&CP (zw a)&&decide (a.length<=5999))=true:=b;rw[ze,ze,w5]at b;obtain⟨⟨d,e⟩,f⟩:=b;refine zx (T41.Al a) (zc (Ad (w4 rfl)<|w4 ae)<|zk (fun c=>zc d<|zc rfl (zg<|z6 rfl rfl ?_))<|fun c=>zc d<|zc e<|zg<|z6 rfl rfl ?_)
 ·have c:Bu a=false:=by simpa using c
  show((CW<|AD a,CX<|AD a),((1:Int),B7 1))=((ZY a,cO a),(UZ a,Uj a));unfold UZ Uj AM;rw[c,MI];rfl
 ·have c:Bu a=true:=by simpa using c
  show((CW<|AD a,CX<|AD a),(CW<|zw a,CX<|zw a))=((ZY a,cO a),(UZ a,Uj a));unfold UZ Uj AM;rw[c];rfl
theorem T159.ok[Srt]:Ag Bh 159 cIQ:=by
 refine BX FI<|fun(i:(Int×List Int)×(Int×List Int)) hi=>?_;obtain⟨a,b⟩:=i;obtain⟨ha,hb,h0⟩:=VS (n:=a) (d:=b) hi;refine zx (T159.Al a b)<|zc (BY hb).1 ?_;rw[R4];refine zk (fun c=>zc (BY ha).1<|zc (BY hb).1<|zj (T159.As ..)<|zc ?_<|zg<|z6 rfl rfl ?_)<|fun c=>zj (T159.As ..)<|zc ?_<|zg<|z6 rfl rfl ?_
 ·have c:zl b<0:=w6 c;have:=HQ b;exact Ad (Ad (Sf ha)<|Sf hb) (w4<|by show 0<zl (CN b);omega)
 ·have c:zl b<0:=w6 c;show E5 (CN a) (CN b)=Sp.iQ a b;unfold Sp.iQ;rw[wd c]
 ·have c:¬zl b<0:=w7 c;exact Ad (Ad ha hb) (w4<|by show 0<zl b;omega)
 ·have c:¬zl b<0:=w7 c;show E5 a b=Sp.iQ a b;unfold Sp.iQ;rw[wc c]
theorem jA[Srt]:DU qQ:=Aa T158.ok<|Aa T157.ok<|Aa T117.ok<|Aa T159.ok AT
theorem nM{n d:AE}(a:Bd d=true)(h0:zl d≠0):Bd (Sp.gR n d)=true/\zl (Sp.gR n d)=(qj (zl n) (zl d):Int)/\0<zl (Sp.gR n d):=by
 have e:zl (Sp.gR n d)=(qj (zl n) (zl d):Int):=by
  show zl (Cy _,Cv _)=_;rw[Km,FT]
 have f:0<qj (zl n) (zl d):=Int.gcd_pos_of_ne_zero_right _ h0;refine⟨E0<|Dl ?_,e,by rw[e];omega⟩;rw[FT,Ah,zr];have b:=bounds a;rw[Ah]at b;have c:qj (zl n) (zl d)<=(zl d).natAbs:=Nat.gcd_le_right _ ae;omega
namespace T95
theorem Ap[Srt](g z2:Int)(n d:AE)(f:Bd n=true)(b:Bd d=true)(h0:zl d≠0)(a:∀ob,Q (.agg [.dat i64 (KK n d).1.1,.dat (.nlist u64) (KK n d).1.2,.dat i64 (KK n d).2.1,.dat (.nlist u64) (KK n d).2.2]) ob):
  Ends qQ (L1 g z2 d.1 d.2 n.1 n.2) Q:=by
 obtain⟨i,_,l⟩:=nM (n:=n) b h0;have next:DF d=false->Ends qQ (.ite (Bd (n.1,n.2)&&Bd (d.1,d.2)) (L2 (LP (n.1,n.2) (d.1,d.2)) (LD (n.1,n.2) (d.1,d.2)) g z2 d.1 d.2 n.1 n.2) .fail) Q:=by
  intro j;unfold KK at a;rw[wc<|by rw[j];decide]at a;have k:∀x:AE,Bd x=true->Jy x (Sp.gR n d)=true:=fun x h=>by unfold Jy;exact Ad (Ad h i) (w4 ae)
  exact zc (Ad f b)<|zj (A5 ..)<|zc (k n f)<|zc (k d b)<|zg<|a _
 refine zj (As ..)<|zk (fun c=>zk (fun e=>zg ?_)<|fun e=>next ?_)<|fun c=>next ?_
 ·have c:d.2=[]:=by simpa using c
  have e:d.1=1:=by simpa using e
  unfold KK at a;rw[wd<|by unfold DF;simp[c,e]]at a;exact a _
 ·unfold DF;rw[Bool.and_eq_false_iff];right;simpa using e
 ·unfold DF;rw[Bool.and_eq_false_iff];left;have:d.2≠[]:=by rintro k;rw[k]at c;simp at c
  simpa using this
theorem ok[Srt]:Ag Bh 95 cE:=by
 refine BX jA<|fun(i:(Int×List Int)×(Int×List Int)) hi=>?_;obtain⟨n,d⟩:=i;obtain⟨hn,hd,h0⟩:=VS (n:=n) (d:=d) hi;have vn:=HQ d;refine zx (Al n d)<|zc (BY hd).1 ?_;rw[R4];refine zk (fun c=>zc (BY hn).1<|zc (BY hd).1<|Ap 0 0 (CN n) (CN d) (Sf hn) (Sf hd) ae<|fun ob=>z6 rfl rfl ?_)<|fun c=>Ap 0 0 n d hn hd h0<|fun ob=>z6 rfl rfl ?_
 ·have c:zl d<0:=w6 c;show KK (CN n) (CN d)=Tv n d;unfold Tv;rw[wd c]
 ·have c:¬zl d<0:=w7 c;show KK n d=Tv n d;unfold Tv;rw[wc c]
end T95
theorem T101.ok[Srt]:Ag Bh 101 S4:=by
 refine BX FI<|fun(a:(Int×List Int)×(Int×List Int)) _=>?_;refine zx (T101.Al a)<|zk (fun c=>zg<|z6 rfl rfl ?_)<|fun c=>zg<|z6 rfl rfl ?_
 ·have c:a.2.2=[]:=by simpa using c
  show(a.2.1==(1:Int))=DF a.2;unfold DF;rw[w4 c,qe];rfl
 ·have c:a.2.2≠[]:=by rintro k;rw[k]at c;simp at c
  show false=DF a.2;unfold DF;rw[w8 c,Bool.false_and]
theorem T93.ok[Srt]:Ag Bh 93 Y7:=by
 refine BX FI<|fun(a:Int×List Int) _=>?_;exact zx (T93.Al a)<|zc rfl (zg<|z6 rfl rfl rfl)
theorem T103.ok[Srt]:Ag Bh 103 oI:=by
 refine BX FI<|fun(a:(Int×List Int)×(Int×List Int)) h=>?_;exact zx (T103.Al a)<|zc h<|zg<|z6 rfl rfl rfl
theorem T64.ok[Srt]:Ag Bh 64 oQ:=by
 refine BX FI<|fun(i:((Int×List Int)×(Int×List Int))×((Int×List Int)×(Int×List Int))) c=>?_;obtain⟨a,b⟩:=i;have c:((O3 a.1&&O3 a.2)&&(O3 b.1&&O3 b.2))=true:=c;rw[ze,ze,ze]at c;obtain⟨⟨a1,a2⟩,b1,b2⟩:=c;obtain⟨a1,la1⟩:=Eg a1;obtain⟨a2,la2⟩:=Eg a2;obtain⟨b1,lb1⟩:=Eg b1;obtain⟨b2,lb2⟩:=Eg b2;refine zx (T64.Al a b)<|zc (Ad a1 b2)<|zc (Ad b1 a2)<|zc (Ad (Qc la1 lb2)<|Qc lb1 la2)<|zg<|z6 rfl rfl ?_;show B3 (zl<|EJ a.1 b.2) (zl<|EJ b.1 a.2)=B3 _ _;rw[Db,Db]
theorem Fj{a:Ai}(h:jo a=true):Bd a.1=true/\Bd a.2=true/\Ae (zl a.1)<(Am:Int)^4000/\Ae (zl a.2)<(Am:Int)^4000/\0<zl a.2:=by
 unfold jo Sp.F6 at h;rw[ze,ze,w5]at h;obtain⟨a1,b⟩:=Eg h.1.1;obtain⟨a2,b2⟩:=Eg h.1.2;exact⟨a1,a2,b,b2,h.2⟩
theorem Qo[Srt]:DU rH:=Aa T101.ok<|Aa T93.ok<|Aa T102.ok<|Aa T96.ok<|Aa T95.ok AT
theorem Qn{n d:AE}(b:Bd n=true)(a:Bd d=true)(h0:zl d≠0):Jy n d=true:=by
 unfold Jy;exact Ad (Ad b a)<|w4 h0
theorem L0{a b:AE}(d:Ae (zl a)<(Am:Int)^4000)(c:Ae (zl b)<(Am:Int)^4000):Bd (EJ a b)=true:=Qc d c
theorem T42.ok[Srt]:Ag Bh 42 VK:=by
 refine BX Qo<|fun(i:((Int×List Int)×(Int×List Int))×((Int×List Int)×(Int×List Int))) c=>?_;obtain⟨a,b⟩:=i;have c:(jo a&&jo b)=true:=c;rw[ze]at c;obtain⟨a1,a2,la1,la2,a0⟩:=Fj c.1;obtain⟨b1,b2,lb1,lb2,b0⟩:=Fj c.2;have d:zl (EJ a.2 b.2)≠0:=by rw[Db];exact yf<|qw a0 b0
 exact zx (T42.Al a b)<|zc (Ad a1 b1)<|zc (Ad a2 b2)<|zc (Qn (L0 la1 lb1) (L0 la2 lb2) d)<|zg<|z6 rfl rfl rfl
namespace T46
theorem Ap[Srt](e z2:Int)(a b:Ai)(j:jo a=true)(k:jo b=true)(g:∀ob f,f=Tv (D1 (EJ a.1 b.2)<|EJ b.1 a.2) (EJ a.2 b.2)->Q (.agg [.dat i64 f.1.1,.dat (.nlist u64) f.1.2,.dat i64 f.2.1,.dat (.nlist u64) f.2.2]) ob):
  Ends rH (L1 e z2 b.1.1 b.1.2 b.2.1 b.2.2 a.1.1 a.1.2 a.2.1 a.2.2) Q:=by
 obtain⟨a1,a2,d,c,a0⟩:=Fj j;obtain⟨b1,b2,lb1,lb2,b0⟩:=Fj k;have h:zl (EJ a.2 b.2)≠0:=by rw[Db];exact yf<|qw a0 b0
 have i:Bd (D1 (EJ a.1 b.2)<|EJ b.1 a.2)=true:=wG (L0 d lb2) (L0 lb1 c) (by rw[Db,Db];exact Zc (J2 d lb2)<|J2 lb1 c);exact zj (As ..)<|zc (Ad a1 b2)<|zc (Ad b1 a2)<|zc (Ad (L0 d lb2)<|L0 lb1 c)<|zc (Ad a2 b2)<|zc (Qn i (L0 c lb2) h)<|zg<|g _ _ rfl
theorem ok[Srt]:Ag Bh 46 S5:=by
 refine BX Qo<|fun(i:((Int×List Int)×(Int×List Int))×((Int×List Int)×(Int×List Int))) e=>?_;obtain⟨a,b⟩:=i;have e:(jo a&&jo b)=true:=e;rw[ze]at e;obtain⟨a1,a2,la1,la2,a0⟩:=Fj e.1;obtain⟨b1,b2,lb1,lb2,b0⟩:=Fj e.2;have g:¬(DF a.2=true/\DF b.2=true)->Ends rH (L1 0 0 b.1.1 b.1.2 b.2.1 b.2.2 a.1.1 a.1.2 a.2.1 a.2.2) (Ac S5 (a,b)):=fun h=>
  Ap 0 0 a b e.1 e.2 (fun ob f j=>z6 rfl rfl (by
   show f=G1 a b;unfold G1;rw[wc h];exact j))
 refine zx (Al a b) (zc rfl (zk (fun c=>zc rfl (zk (fun d=>zc (Ad a1 b1)<|zc rfl (zg<|z6 rfl rfl ?_))<|fun d=>g (fun k=>by have:=k.2;rw[show DF b.2=false from d]at this;cases this)))<|fun c=>g (fun k=>by have:=k.1;rw[show DF a.2=false from c]at this;cases this)));show Sp.fWh (D1 a.1 b.1)=G1 a b;unfold G1;rw[wd ⟨c,d⟩]
end T46
theorem T98.ok[Srt]:Ag Bh 98 oW:=by
 refine BX Qo<|fun(a:(Int×List Int)×(Int×List Int)) b=>?_;have b:(jo a&&decide (zl a.1≠0))=true:=b;rw[ze,w5]at b;obtain⟨a1,a2,d,c,a0⟩:=Fj b.1;exact zx (T98.Al a)<|zc (Qn a2 a1 b.2)<|zg<|z6 rfl rfl rfl
theorem Qp{a:AE}(h:Dd a=true){k:Nat}(b:Ae (zl a)<(Am:Int)^k):a.2.length<=k:=by
 rcases NM h with⟨h1,_⟩|h1
 ·rw[h1];exact Nat.zero_le _
 ·rw[<-h1];exact Lo (AG _) b
theorem FD{a:AE}(h:Dd a=true)(b:Ae (zl a)<(Am:Int)^4000):O3 a=true:=by
 unfold O3;exact Ad h<|w4<|Qp h b
theorem WR{a:AE}(h:Dd a=true)(b:Ae (zl a)<(Am:Int)^9000):Bd a=true:=by
 unfold Bd;exact Ad h<|w4<|Qp h b
structure EN(f:Ai)(q:Rat):Prop where
 n:Dd f.1=true
 d:Dd f.2=true
 vn:zl f.1=q.num
 vd:zl f.2=(q.den:Int)
def JQ(k:Nat)(q:Rat):Prop:=Ae q.num<(Am:Int)^k/\(q.den:Int)<(Am:Int)^k
theorem EN.den_pos{f:Ai}{q:Rat}(h:EN f q):0<zl f.2:=by
 rw[h.vd];have:=q.den_pos;omega
theorem EN.C6{f:Ai}{q:Rat}(h:EN f q)(a:JQ 4000 q):jo f=true:=by
 unfold jo Sp.F6;have b:Ae (zl f.2)=(q.den:Int):=by rw[h.vd,Ah,zr]
 exact Ad (Ad (FD h.n<|by rw[h.vn];exact a.1)<|FD h.d<|by rw[b];exact a.2)<|w4 h.den_pos
theorem TD{x y:Int}:Ae (x/y)<=Ae x:=by
 rw[Ah,Ah];have a:=qq x y;omega
theorem aM{a b:AE}(d:0<zl b):zl (E5 a b)=zl a/zl b:=by
 unfold E5;generalize k:zl a=x;generalize zl b=y at d;have g:=Int.mul_ediv_add_emod (Ae x) y;have i:=ji (Ae x)<|yf d;have j:=ql (Ae x) d;split
 ·next c=>
  rw[aI,Cc,EB];obtain⟨l,f⟩:=c;symm;rw[jf d];have e:Ae x= -x:=by rw[Ah];omega
  rw[e]at g i j f ⊢;generalize -x/y=q at*;generalize -x % y=r at*;rw[Int.sub_mul,Int.neg_mul,zy q y];generalize y*q=t at*;omega
 ·next c=>
  rw[Cc];unfold Sp.sg;split
  ·next n=>
   have n:x<0:=w6 n;have f:Ae x % y=0:=qt fun h=>c ⟨n,h⟩
   symm;rw[jf d];have e:Ae x= -x:=by rw[Ah];omega
   rw[f]at g;rw[e]at g ⊢;generalize -x/y=q at*;rw[Int.neg_mul,zy q y];generalize y*q=t at*;omega
  ·next n=>
   have n:¬x<0:=fun h=>n<|w4 h
   have e:Ae x=x:=by rw[Ah];omega
   rw[e]
theorem WQ{a b:AE}(e:Bd a=true)(f:0<zl b):Dd (E5 a b)=true:=by
 have d:=bounds e;have h:Ae (zl a)/zl b<=Ae (zl a):=Int.ediv_le_self _<|AG _;have g:0<=Ae (zl a)/zl b:=Int.ediv_nonneg (AG _)<|z8 f;unfold E5;generalize Ae (zl a)/zl b=q at*;have c:Ae q<(Am:Int)^9000:=by
  refine qm ?_ d;rw[Ah];omega
 split
 ·exact RE (Dl<|by rw[HT];exact c) af
 ·refine(MJ (k:=9000) ?_ ae).1;unfold Sp.sg;split
  ·rw[HT];exact c
  ·exact c
theorem nU{a b:AE}(c:0<zl b):zl (Sp.iQ a b)=zl a/zl b:=by
 unfold Sp.iQ;rw[wc ae];exact aM c
theorem ZO{a b:AE}(d:Bd a=true)(c:0<zl b):Dd (Sp.iQ a b)=true:=by
 unfold Sp.iQ;rw[wc ae];exact WQ d c
theorem R5{n d:AE}(i:Bd n=true)(b:Bd d=true)(h0:0<zl d):EN (KK n d) (yb (zl n)<|zl d):=by
 have j:(zl d).sign=1:=jg h0;have h:(yb (zl n)<|zl d).num=zl n/(qj (zl n) (zl d):Int):=by
  rw[qn,j,qu,j7]
 have g:((yb (zl n)<|zl d).den:Int)=zl d/(qj (zl n) (zl d):Int):=by
  rw[qo,wc<|yf h0,j7,Int.natCast_ediv];rw[Int.natAbs_of_nonneg<|z8 h0]
 obtain⟨k,f,a⟩:=nM (n:=n) b<|yf h0;unfold KK;split
 ·next c=>
  unfold DF at c;rw[ze,w5,w5]at c;have e:zl d=1:=by rw[BF c.1];exact c.2
  refine⟨(BY i).1,(BY b).1,?_,?_⟩
  ·rw[h,e,Int.gcd_one];exact(j8 _).symm
  ·rw[g,e,Int.gcd_one];exact(j8 _).symm
 ·refine⟨ZO i a,ZO b a,?_,?_⟩
  ·rw[nU a,h,f]
  ·rw[nU a,g,f]
theorem Ke{n d:AE}(f:Bd n=true)(b:Bd d=true)(h0:zl d≠0):EN (Tv n d) (yb (zl n)<|zl d):=by
 unfold Tv;split
 ·next c=>
  have h:=R5 (Sf f) (Sf b) (by rw[HQ];omega);rw[HQ,HQ]at h;have e:=Rat.divInt_mul_right (n:=zl n) (d:=zl d) (a:= -1) af;rw[Int.mul_neg,yz,Int.mul_neg,yz]at e;rw[e]at h;exact h
 ·exact R5 f b ae
theorem JQ.Xa{k:Nat}{f:Ai}{q:Rat}(h:EN f q)(a:JQ k q):Ae (zl f.1)<(Am:Int)^k/\Ae (zl f.2)<(Am:Int)^k:=by
 rw[h.vn,h.vd];refine⟨a.1,?_⟩;rw[Ah,zr];exact a.2
theorem EN.vA{f:Ai}{q:Rat}(h:EN f q):yb (zl f.1) (zl f.2)=q:=by
 rw[h.vn,h.vd];exact zu q
theorem EN.neg{f:Ai}{q:Rat}(h:EN f q)(a:JQ 4000 q):EN (pG f) (-q):=by
 have c:=JQ.Xa h a;have b:=Va (k:=4000) h.n ae ae<|Qp h.n c.1;exact⟨b.1,h.d,by show zl (CN f.1)=_;rw[HQ,h.vn,jk],by show zl f.2=_;rw[h.vd,jl]⟩
theorem JQ.neg{k:Nat}{q:Rat}(h:JQ k q):JQ k (-q):=by
 unfold JQ;rw[jk,jl,HT];exact h
theorem EN.mul{f g:Ai}{p q:Rat}(c:EN f p)(e:EN g q)(sp:JQ 4000 p)(i:JQ 4000 q):EN (I8 f g) (p*q):=by
 have a:=JQ.Xa c sp;have b:=JQ.Xa e i;have h:=Ke (n:=EJ f.1 g.1) (d:=EJ f.2 g.2) (L0 a.1 b.1) (L0 a.2 b.2) (by rw[Db];exact yf<|qw c.den_pos e.den_pos);rw[Db,Db, <-Rat.divInt_mul_divInt,c.vA,e.vA]at h;exact h
theorem EN.add{f g:Ai}{p q:Rat}(e:EN f p)(i:EN g q)(sp:JQ 4000 p)(s:JQ 4000 q):EN (G1 f g) (p+q):=by
 have a:=JQ.Xa e sp;have b:=JQ.Xa i s;have m:=Eg<|FD e.n a.1;have r:=Eg<|FD i.n b.1;unfold G1;split
 ·next c=>
  obtain⟨j,k⟩:=c;unfold DF at j k;rw[ze,w5,w5]at j k;have o:(p.den:Int)=1:=by rw[<-e.vd,BF j.1];exact j.2
  have l:(q.den:Int)=1:=by rw[<-i.vd,BF k.1];exact k.2
  have t:yb p.num 1=p:=by have:=zu p;rw[o]at this;exact this
  have eq:yb q.num 1=q:=by have:=zu q;rw[l]at this;exact this
  have es:p+q=yb (p.num+q.num) 1:=by
   have h:=qd p.num q.num (d₁:=1) (d₂:=1) af af;rw[t,eq,yz,yz,yz]at h;exact h
  refine⟨RE m.1 r.1,by show Dd (1,B7 1)=true;rw[MI];rfl,?_,?_⟩
  ·show zl (D1 f.1 g.1)=_;rw[TN,e.vn,i.vn,es,qn];simp
  ·show zl (1,B7 1)=_;rw[MI,Cc,es,qo];simp
 ·have h:=Ke (n:=D1 (EJ f.1 g.2)<|EJ g.1 f.2) (d:=EJ f.2 g.2) (wG (L0 a.1 b.2) (L0 b.1 a.2)<|by rw[Db,Db];exact Zc (J2 a.1 b.2)<|J2 b.1 a.2) (L0 a.2 b.2) (by rw[Db];exact yf<|qw e.den_pos i.den_pos);rw[TN,Db,Db,Db, <-qd _ _ (yf e.den_pos) (yf i.den_pos),e.vA,i.vA]at h;exact h
theorem EN.sub{f g:Ai}{p q:Rat}(b:EN f p)(c:EN g q)(sp:JQ 4000 p)(a:JQ 4000 q):EN (RU f g) (p-q):=by
 rw[Rat.sub_eq_add_neg];exact b.add (c.neg a) sp a.neg
theorem EN.inv{f:Ai}{p:Rat}(b:EN f p)(sp:JQ 4000 p)(h0:p≠0):EN (R8 f) p⁻¹:=by
 have a:=JQ.Xa b sp;have c:=Eg<|FD b.n a.1;have e:=Eg<|FD b.d a.2;have h:=Ke e.1 c.1 (by rw[b.vn];exact fun h=>h0<|qi.mp h);rw[<-Rat.inv_divInt,b.vA]at h;exact h
end Go.Pe
namespace Go.Sp
open Go.Lib
theorem RB{P:Nat->Rd->Prop}(f:∀d,d<10->P d [yj<|48+d])(b:∀a d,0<a->d<10->P a (decDigits a)->P (10*a+d) (decDigits a++[yj<|48+d]))(n:Nat):P n (decDigits n):=by
 induction n using Nat.strongRecOn with
 |_ n c=>
  by_cases h:n<10
  ·rw[decDigits_one h];exact f n h
  ·have e:n=10*(n/10)+n % 10:=ae
   have:=b (n/10) (n % 10) ae (Nat.mod_lt _ af) (c (n/10) ae);rw[<-Fi _ _ ae (Nat.mod_lt _ af), <-e]at this;exact this
theorem M7:∀d:Fin 10,(yj<|48+d.1).toNat=48+d.1:=af
theorem JT{d:Nat}(h:d<10):BD (yj<|48+d)=true/\Jr (yj<|48+d)=d:=by
 have e:(yj<|48+d).toNat=48+d:=M7 ⟨d,h⟩;unfold BD Jr;rw[e];refine⟨?_,by omega⟩;rw[w4 ae,w4 ae];rfl
theorem aX{c:UInt8}(h:BD c=true):c=yj (48+(Jr c).toNat)/\(Jr c).toNat<10:=by
 obtain⟨d,b⟩:=Er h;have a:(Jr c).toNat<10:=ae
 refine⟨yd.1 ?_,a⟩;rw[M7 ⟨(Jr c).toNat,a⟩];show c.toNat=48+(Jr c).toNat;unfold Jr at*;omega
theorem dV(n:Nat):decDigits n≠[]:=RB (P:=fun _ l=>l≠[]) (fun _ _=>by simp) (fun _ _ _ _ _=>by simp) n
theorem CM(n:Nat):Ak (decDigits n)=true:=by
 refine RB (P:=fun _ l=>Ak l=true) (fun d h=>?_) (fun a d _ h b=>?_) n
 ·unfold Ak;rw[yk,(JT h).1];rfl
 ·unfold Ak at*;rw[List.all_append,b,yk,(JT h).1];rfl
theorem QV(n:Nat):AA 0 (decDigits n)=n:=by
 refine RB (P:=fun n l=>AA 0 l=n) (fun d h=>?_) (fun a d _ h b=>?_) n
 ·show 10*0+Jr (yj<|48+d)=d;rw[(JT h).2];omega
 ·rw[Cz,b];show 10*(a:Int)+Jr (yj<|48+d)=_;rw[(JT h).2];omega
theorem Fm{s:Rd}(h:AS s=true):s≠[]/\Ak s=true/\(s.getD 0 0≠48\/s=[48]):=by
 unfold AS at h;rw[ze,ze,w5,Bool.or_eq_true,w5,w5]at h;exact⟨h.1.1,h.1.2,h.2⟩
theorem HB{s:Rd}(h:AS s=true)(h0:s≠[48]):0<AA 0 s:=by
 obtain⟨l,a,b⟩:=Fm h;cases s with
 |nil=>exact wh rfl l
 |cons c r=>
  have d:(c::r).getD 0 0=c:=rfl;rw[d]at b;have k:c≠48:=by
   rcases b with x|x
   ·exact x
   ·exact wh x h0
  unfold Ak at a;rw[yk,ze]at a;have g:=Er a.1;have f:Ak r=true:=a.2;have m:=A9 f;show 0<AA (10*0+Jr c) r;rw[D8];have e:(0:Int)<10^r.length:=Int.pow_pos af;have n:c.toNat≠48:=fun x=>k<|yd.1 x
  have j:0<10*0+Jr c:=by show 0<10*0+((c.toNat:Int)-48);have i:0<=((c.toNat:Int)-48):=g.1;omega
  have:=qw j e;omega
theorem Na{s:Rd}(h:AS s=true):s=decDigits (AA 0 s).toNat:=by
 generalize b:s.length=n;induction n generalizing s with
 |zero=>exact wh (z7.1 b) (Fm h).1
 |succ n m=>
  obtain⟨p,d,l⟩:=Fm h;obtain⟨t,c,rfl⟩:∃t c,s=t++[c]:=⟨_,_,(qh p).symm⟩;unfold Ak at d;rw[List.all_append,ze,yk,ze]at d;obtain⟨h4,h5,_⟩:=d;obtain⟨b1,b2⟩:=aX h5;obtain⟨d1,_⟩:=Er h5;rw[Cz];show t++[c]=decDigits (10*AA 0 t+Jr c).toNat;by_cases a:t=[]
  ·subst a;show[c]=decDigits (10*0+Jr c).toNat;rw[show(10*0+Jr c).toNat=(Jr c).toNat by omega,decDigits_one b2, <-b1]
  ·have g:(t++[c]).getD 0 0=t.getD 0 0:=by
    cases t with
    |nil=>exact wh rfl a
    |cons x r=>rfl
   have i:t.getD 0 0≠48:=by
    rcases l with x|x
    ·rw[g]at x;exact x
    ·have j:=wi List.length x;rw[zq]at j;have q:t.length+1=1:=j;exact wh (z7.1 ae) a
   have f:AS t=true:=by
    unfold AS Ak;rw[w4 a,h4,w4 i];rfl
   have u:=HB f (fun k=>i (by rw[k];rfl));have o:=m f (by rw[zq]at b;simpa using b);have e:(10*AA 0 t+Jr c).toNat=10*(AA 0 t).toNat+(Jr c).toNat:=ae
   rw[e,Fi _ _ ae b2, <-o, <-b1]
theorem rF:∀ {a:Rd},(∀c∈a,c≠47)->AD a=a/\AN a=[]/\Bu a=false:=by
 intro a h;have b:Bu a=false:=by
  unfold Bu;rw[List.any_eq_false];intro x d;simpa using h x d
 exact⟨((Go.Pe.Bx a).2.2 b).1,((Go.Pe.Bx a).2.2 b).2,b⟩
theorem kL:∀ {a:Rd} (b:Rd),(∀c∈a,c≠47)->AD (a++47::b)=a/\AN (a++47::b)=b/\Bu (a++47::b)=true:=by
 intro a b h;have d:Bu (a++47::b)=true:=by
  unfold Bu;rw[List.any_eq_true];exact⟨47,by simp,rfl⟩
 have f:∀ {a:Rd},(∀c∈a,c≠47)->AD (a++47::b)=a:=by
  intro a;induction a with
  |nil=>intro _;show AD (47::b)=[];rw[Go.Pe.Dy,wd rfl]
  |cons x r g=>
   intro h;show AD (x::(r++47::b))=_;rw[Go.Pe.Dy,wc (h x (by simp)),g<|fun c d=>h c<|List.mem_cons_of_mem _ d]
 have e:=f h;refine⟨e,?_,d⟩;rw[((Go.Pe.Bx _).2.1 d).2,e];simp
theorem P5{s:Rd}(h:Ak s=true):∀c∈s,c≠47:=by
 intro c a e;unfold Ak at h;rw[List.all_eq_true]at h;have:=h c a;rw[e]at this;exact wh this af
theorem Ec{s:Rd}(h:Ak s=true):s.getD 0 0≠45:=by
 cases s with
 |nil=>decide
 |cons c r=>
  unfold Ak at h;rw[yk,ze]at h;show c≠45;intro e;rw[e]at h;exact wh h.1 af
def AX(q:Rat):Rd:=if q.den=1 then itoa q.num else itoa q.num++47::decDigits q.den
def AO(s:Rd):Rat:=yb (Bb s)<|AM s
theorem D7(n:Int):(∀c∈itoa n,c≠47)/\Ba (itoa n)=decDigits n.natAbs/\preB (itoa n)=decide (n<0)/\Bg (itoa n)=n:=by
 unfold itoa;by_cases h:n<0
 ·rw[wd h];refine⟨fun c b=>?_,rfl,(w4 h).symm,?_⟩
  ·rcases List.mem_cons.1 b with rfl|b
   ·decide
   ·exact P5 (CM _) c b
  ·show -AA 0 (decDigits n.natAbs)=n;rw[QV];omega
 ·rw[wc h];have a:=Ec<|CM n.toNat;have e:n.toNat=n.natAbs:=ae
  refine⟨P5<|CM _,?_,?_,?_⟩
  ·unfold Ba;rw[wc a,e]
  ·unfold preB;rw[w8 a,w8 h]
  ·unfold Bg;rw[wc a,QV];omega
theorem Fc(q:Rat):AD (AX q)=itoa q.num/\AN (AX q)=(if q.den=1 then[]else decDigits q.den)/\Bu (AX q)=decide (q.den≠1):=by
 unfold AX;have h:=(D7 q.num).1;by_cases a:q.den=1
 ·rw[wd a,wd a,w8<|not_not_intro a];exact rF h
 ·rw[wc a,wc a,w4 a];exact kL _ h
theorem Js(q:Rat):Bb (AX q)=q.num/\AM (AX q)=q.den:=by
 obtain⟨d,b,c⟩:=Fc q;unfold Bb AM;rw[d,b,c];refine⟨(D7 q.num).2.2.2,?_⟩;by_cases a:q.den=1
 ·rw[wc (by simpa using a),a];rfl
 ·rw[wd<|w4 a,wc a];unfold Bg;rw[wc<|Ec<|CM _,QV]
theorem DD(q:Rat):AO (AX q)=q:=by
 unfold AO;rw[(Js q).1,(Js q).2];exact zu q
theorem XR{p q:Rat}(h:AX p=AX q):p=q:=by
 rw[<-DD p,h,DD]
theorem V6(a:Rd):AD (Ba a)=Ba (AD a)/\AN (Ba a)=AN a/\Bu (Ba a)=Bu a/\preB (AD a)=preB a:=by
 unfold Ba preB;cases a with
 |nil=>exact⟨rfl,rfl,rfl,rfl⟩
 |cons c r=>
  have f:(c::r).getD 0 0=c:=rfl;rw[f,Go.Pe.Dy];by_cases b:c=45
  ·subst b;have e:AN (45::r)=AN r:=by
    unfold AN;rw[List.findIdx?_cons];cases r.findIdx? (fun x=>x==47)<;>rfl
   exact⟨rfl,e.symm,rfl,rfl⟩
  ·rw[wc b];by_cases d:c=47
   ·subst d;exact⟨(Go.Pe.Dy _ _),rfl,rfl,rfl⟩
   ·rw[wc d];have g:(c::AD r).getD 0 0=c:=rfl;rw[g,wc b];exact⟨by rw[Go.Pe.Dy,wc d],rfl,rfl,rfl⟩
theorem TR{a:Rd}(h:BG a=0):Hr a=true/\(AD<|Ba a).length<=600/\(AN<|Ba a).length<=600/\(Bu (Ba a)=true->gI (tQ a) (pQ a)=1):=by
 unfold BG at h;cases b:Hr a with
 |false=>rw[wd b]at h;exact wh h af
 |true=>
  rw[wc<|by rw[b];decide]at h;split at h
  ·exact wh h af
  ·next c=>
   split at h
   ·exact wh h af
   ·next d=>exact⟨rfl,by omega,by omega,fun k=>qt fun g=>d ⟨k,g⟩⟩
def FX(k:Nat)(q:Rat):Prop:=q.num.natAbs<10^k/\q.den<10^k
theorem ON{n d:Int}(a:0<d)(h:qj n d=1):(yb n d).num=n/\((yb n d).den:Int)=d:=by
 have b:d.sign=1:=jg a;rw[qn,qo,wc<|yf a,b,qu,j7,h];refine⟨j8 _,?_⟩;rw[Nat.div_one,Int.natAbs_of_nonneg<|z8 a]
theorem OS{s:Rd}(h:Ak s=true){k:Nat}(a:s.length<=k):(AA 0 s).toNat<10^k:=by
 have d:=A9 h;have b:(10:Int)^s.length<=10^k:=AJ af a;have c:((10^k:Nat):Int)=(10:Int)^k:=by simp
 omega
theorem OP(k:Nat)(h:k≠0):(1:Int).toNat<10^k:=Nat.one_lt_pow h af
theorem iW:decDigits (Int.toNat 1)=[49]:=by rw[show Int.toNat 1=1 from rfl,decDigits_one af];rfl
theorem P3{s:Rd}(h:BG s=0):AX (AO s)=s/\(AO s).num=Bb s/\((AO s).den:Int)=AM s/\FX 600 (AO s):=by
 obtain⟨l,w,u,f⟩:=TR h;obtain⟨p1,p2,p3,p4⟩:=V6 s;unfold Hr at l;rw[ze,ze]at l;obtain⟨⟨fa,fm⟩,b⟩:=l;unfold tQ pQ at f;obtain⟨A,hA⟩:∃A,A=AD (Ba s):=⟨_,rfl⟩;obtain⟨B,hB⟩:∃B,B=AN (Ba s):=⟨_,rfl⟩;rw[<-hA]at fa fm w f;rw[<-hB]at b u f;rw[p3]at b f;have v:=(Fm fa).2.1;have x:=Na fa;have v0:=A9 v;have d:Bb s=(if preB s=true then -AA 0 A else AA 0 A)/\AD s=(if preB s=true then 45::A else A):=by
  have D:A=Ba (AD s):=by rw[hA,p1]
  unfold Bb Bg;rw[<-p4];unfold preB;rw[D];unfold Ba;by_cases a:(AD s).getD 0 0=45
  ·rw[wd a,wd<|w4 a,wd a,wd<|w4 a];refine⟨rfl,?_⟩;cases q:AD s with
   |nil=>rw[q]at a;exact wh a af
   |cons c r=>
    rw[q]at a;have a:c=45:=a;rw[a];rfl
  ·rw[wc a,wc (by rw[w8 a];decide),wc a,wc<|by rw[w8 a];decide];exact⟨rfl,rfl⟩
 have m:(Bb s).natAbs=(AA 0 A).toNat:=by rw[d.1];split<;>omega
 have T:0<AM s/\(AM s).toNat<10^600/\qj (Bb s) (AM s)=1/\(Bu s=true->B=decDigits (AM s).toNat/\AM s≠1)/\(Bu s=false->AM s=1):=by
  unfold AM;rw[<-p2, <-hB];cases a:Bu s with
  |false=>
   rw[wc af];exact⟨by decide,OP 600 af,Int.gcd_one,(fun k=>by cases k),fun _=>rfl⟩
  |true=>
   rw[a]at b;have b:(AS B&&decide (B≠[48])&&decide (B≠[49]))=true:=b;rw[ze,ze,w5,w5]at b;obtain⟨⟨j,K⟩,G⟩:=b;have y:=(Fm j).2.1;have S:=HB j K;have V:Bg B=AA 0 B:=by unfold Bg;rw[wc<|Ec y]
   rw[wd rfl,V];refine⟨S,OS (k:=600) y u,?_,fun _=>⟨Na j,?_⟩,(fun k=>by cases k)⟩
   ·have g:=f a;rw[FT]at g;have g:qj (AA 0 A) (AA 0 B)=1:=ae
    rw[d.1];split
    ·rw[Int.neg_gcd];exact g
    ·exact g
   ·intro e;have:=Na j;rw[e]at this;exact G<|this.trans iW
 obtain⟨E,P,U,L,M⟩:=T;obtain⟨r1,r2⟩:=ON (n:=Bb s) E U;have r1:(AO s).num=Bb s:=r1;have r2:((AO s).den:Int)=AM s:=r2;have C:(AO s).den=(AM s).toNat:=ae
 refine⟨?_,r1,r2,?_,?_⟩
 ·have J:itoa (Bb s)=AD s:=by
   rw[d.2];unfold itoa;by_cases i:preB s=true
   ·have p:A≠[48]:=by
     have o:preB s=true:=i;rw[o]at fm;simpa using fm
    have:=HB fa p;rw[d.1,wd i,wd i,wd ae,Int.natAbs_neg];rw[show(AA 0 A).natAbs=(AA 0 A).toNat by omega, <-x]
   ·rw[d.1,wc i,wc i,wc ae, <-x]
  unfold AX;rw[r1,C,J];obtain⟨z,H,O⟩:=Go.Pe.Bx s;cases a:Bu s with
  |false=>
   rw[M a,wd<|show Int.toNat 1=1 from rfl];exact(O a).1
  |true=>
   obtain⟨F,W⟩:=L a;obtain⟨m1,m2⟩:=H a;rw[wc ae, <-F,hB,p2,m2];have N:s.drop (AD s).length=47::s.drop ((AD s).length+1):=by
    have h0:∀t:Rd,Bu t=true->t.drop (AD t).length=47::t.drop ((AD t).length+1):=by
     intro t;induction t with
     |nil=>intro h;cases h
     |cons c r R=>
      intro h;rw[Go.Pe.Dy];by_cases e:c=47
      ·rw[wd e,e];rfl
      ·rw[wc e];have I:Bu r=true:=by
        unfold Bu at h ⊢;rw[List.any_cons]at h;simpa [e]using h
       exact R I
    exact h0 s a
   rw[<-N];conv=>lhs;rw[z]
   have:=yq (AD s).length s;rw[<-z]at this ⊢;exact this
 ·rw[r1,m];exact OS (k:=600) v w
 ·rw[C];exact P
def B6(n:Int):Rd:=yc n
end Go.Sp
namespace Go.Pe
open Go.Det
theorem VC:∀(k u:Nat),u<10^(k+1)->Lib.nDigits u<=k+1
 |0,u,h=>by rw[Lib.nDigits_small ae];omega
 |k+1,u,h=>by
  by_cases c:u<10
  ·rw[Lib.nDigits_small c];omega
  ·rw[Lib.nDigits_big c];have:u/10<10^(k+1):=by rw[qk]at h;omega
   have:=VC k (u/10) this;omega
end Go.Pe
namespace Go.Sp
theorem EY{n d:Int}(a:d≠0):(yb n d).num.natAbs<=n.natAbs/\(yb n d).den<=d.natAbs:=by
 rw[qn,qo,wc a];refine⟨?_,Nat.div_le_self _ _⟩;refine Nat.le_trans (qq _ _) ?_;rw[yu,Int.natAbs_sign_of_ne_zero a,Nat.one_mul];exact yi _
theorem Jx{n d:Int}{k:Nat}(a:d≠0)(c:n.natAbs<10^k)(b:d.natAbs<10^k):FX k (yb n d):=
 ⟨yy (EY a).1 c,yy (EY a).2 b⟩
theorem FX.mono{j k:Nat}{q:Rat}(h:FX j q)(a:j<=k):FX k q:=
 ⟨qp h.1 (qg af a),qp h.2<|qg af a⟩
theorem Dg{a b i j:Nat}(d:a<10^i)(c:b<10^j):a*b<10^(i+j):=by
 rw[Nat.pow_add];exact yy (Nat.mul_le_mul_left _<|Nat.le_of_lt c) ((Nat.mul_lt_mul_right<|Nat.pow_pos af).2 d)
theorem H9(q:Rat):(q.den:Int)≠0:=by have:=q.den_pos;omega
theorem FX.mul{p q:Rat}{i j:Nat}(b:FX i p)(a:FX j q):FX (i+j) (p*q):=by
 have h:=Rat.divInt_mul_divInt p.num q.num (d₁:=p.den) (d₂:=q.den);rw[zu,zu]at h;rw[h];refine Jx ?_ ?_ ?_
 ·exact Int.mul_ne_zero (H9 p)<|H9 q
 ·rw[yu];exact Dg b.1 a.1
 ·rw[yu,zr,zr];exact Dg b.2 a.2
theorem FX.add{p q:Rat}{i j:Nat}(a:FX i p)(b:FX j q):FX (i+j+1) (p+q):=by
 have h:=qd p.num q.num (H9 p)<|H9 q;rw[zu,zu]at h;rw[h];have a1:=Dg a.1 b.2;have a2:=Dg b.1 a.2;have a3:=Dg a.2 b.2;rw[jz]at a2;refine Jx (Int.mul_ne_zero (H9 p)<|H9 q) ?_ ?_
 ·refine yy (Int.natAbs_add_le _ _) ?_;rw[yu,yu,zr,zr,qk];omega
 ·rw[yu,zr,zr,qk];omega
theorem FX.neg{q:Rat}{k:Nat}(h:FX k q):FX k (-q):=by
 unfold FX at*;rw[jk,jl,Int.natAbs_neg];exact h
theorem FX.sub{p q:Rat}{i j:Nat}(b:FX i p)(a:FX j q):FX (i+j+1) (p-q):=by
 rw[Rat.sub_eq_add_neg];exact b.add a.neg
theorem FX.inv{q:Rat}{k:Nat}(h:FX k q)(h0:q≠0):FX k q⁻¹:=by
 have e:=Rat.inv_divInt q.num q.den;rw[zu]at e;rw[e];exact Jx (fun x=>h0<|qi.mp x) (by rw[zr];exact h.2) h.1
theorem FX.div{p q:Rat}{i j:Nat}(b:FX i p)(a:FX j q)(h0:q≠0):FX (i+j) (p/q):=by
 rw[Rat.div_def];exact b.mul<|a.inv h0
theorem G8{u k:Nat}(h:u<10^k)(a:1<=k):(qy u).length<=k:=by
 rw[Lib.decDigits_length];obtain⟨j,rfl⟩:∃j,k=j+1:=⟨k-1,by omega⟩;exact Go.Pe.VC j u h
theorem Dr(u:Nat){k:Nat}(h:(qy u).length<=k):u<10^k:=by
 rw[Lib.decDigits_length]at h;exact qp (Lib.lt_pow_nDigits u) (qg af h)
theorem J9{q:Rat}{k:Nat}(h:FX k q)(a:1<=k):(AX q).length<=2*k+2:=by
 have d:=G8 h.1 a;have b:=G8 h.2 a;have c:(yc q.num).length<=k+1:=by
  unfold yc;split
  ·rw[yg];omega
  ·rw[show q.num.toNat=q.num.natAbs by omega];omega
 unfold AX;split
 ·omega
 ·rw[zq,yg];omega
def Br(s:Rd):Bool:=decide (AX (AO s)=s)&&decide (s.length<=4000)
theorem Fx{s:Rd}(h:Br s=true):AX (AO s)=s/\s.length<=4000:=by
 unfold Br at h;rwa [ze,w5,w5]at h
theorem Pb{q:Rat}{k:Nat}(h:FX k q)(a:k<=1999):Br (AX q)=true:=by
 have b:=J9 (h.mono a) af;unfold Br;rw[DD,w4 rfl,w4 ae];rfl
theorem Ds{s:Rd}(h:BG s=0):Br s=true/\FX 600 (AO s):=by
 obtain⟨b,_,_,a⟩:=P3 h;exact⟨by rw[<-b];exact Pb a af,a⟩
theorem Qs{s:Rd}(h:Br s=true):FX 4000 (AO s):=by
 obtain⟨f,d⟩:=Fx h;have e:(AX<|AO s).length<=4000:=by rw[f];exact d
 generalize AO s=q at*;have a:=Dr q.num.natAbs<|yi _;have b:=Dr q.den<|yi _;have g:(qy q.num.natAbs).length<=(yc q.num).length:=by
  unfold yc;split
  ·rw[yg];omega
  ·rw[show q.num.toNat=q.num.natAbs by omega];exact yi _
 unfold AX at e;split at e
 ·next c=>exact⟨Dr (k:=4000) _ ae,by rw[c];exact OP 4000 af⟩
 ·rw[zq,yg]at e;exact⟨Dr (k:=4000) _ ae,Dr (k:=4000) _ ae⟩
theorem Pz(q:Rat):Ge (AX q)=SP q.num:=by
 have h0:AX q=[48]↔q=0:=by
  have:AX (0:Rat)=[48]:=by
   unfold AX;rw[wd<|show Rat.den 0=1 from rfl];show yc 0=[48];unfold yc;rw[wc af,show(0:Int).toNat=0 from rfl,Lib.decDigits_one af];rfl
  rw[<-this];exact⟨XR,fun h=>by rw[h]⟩
 unfold Ge SP;by_cases a:q=0
 ·rw[wd<|h0.2 a,a];rfl
 ·rw[wc<|fun h=>a<|h0.1 h];have e:q.num≠0:=fun h=>a<|qi.mp h
  have d:(AX q).getD 0 0=(yc q.num).getD 0 0:=by
   unfold AX;split
   ·rfl
   ·have:yc q.num≠[]:=by unfold yc;split;exact List.cons_ne_nil _ _;exact dV _
    cases b:yc q.num with
    |nil=>exact wh b this
    |cons c r=>rfl
  rw[d];unfold yc;by_cases h:q.num<0
  ·rw[wd h,wd h];rfl
  ·rw[wc h,wc h,wc<|Ec<|CM _,wd ae]
theorem SU(n:Int)(h:n≠0):yc (-n)=if n<0 then(yc n).drop 1 else 45::yc n:=by
 unfold yc;by_cases c:n<0
 ·rw[wc ae,wd c,wd c,show(-n).toNat=n.natAbs by omega];rfl
 ·rw[wd ae,wc c,wc c,show(-n).natAbs=n.toNat by omega]
theorem YU(q:Rat):Kl (AX q)=AX (-q):=by
 have a:=Pz q;unfold Ge at a;unfold Kl;by_cases h0:AX q=[48]
 ·rw[wd h0]at a ⊢;have:q.num=0:=by
   unfold SP at a;split at a
   ·exact wh a af
   ·split at a
    ·exact wh a af
    ·omega
  have:q=0:=qi.mp this;rw[this];rfl
 ·rw[wc h0]at a ⊢;have b:q.num≠0:=by
   intro h;rw[h]at a;split at a<;>exact wh a af
  have e:AX (-q)=if q.num<0 then(AX q).drop 1 else 45::AX q:=by
   unfold AX;rw[jk,jl,SU _ b];by_cases c:q.num<0
   ·rw[wd c,wd c];have:yc q.num=45::qy q.num.natAbs:=by unfold yc;rw[wd c]
    rw[this];split<;>rfl
   ·rw[wc c,wc c];split<;>rfl
  rw[e];unfold SP at a;by_cases c:q.num<0
  ·rw[wd c]at a ⊢;split at a
   ·next k=>rw[wd k]
   ·exact wh a af
  ·rw[wc c,wd<|show q.num>0 by omega]at a;rw[wc c];split at a
   ·exact wh a af
   ·next k=>rw[wc k]
open Go.Lib
theorem Li:∀(f n l:Nat) (a:Rd),l<=a.length->n<10^f->GR f n l a=if n=0 then a else decDigits n++a
 |0,n,l,a,_,b=>by rw[Nat.pow_zero]at b;rw[wd ae];rfl
 |f+1,n,l,a,d,b=>by
  rw[qk]at b;unfold GR;by_cases h:n=0
  ·rw[wd ⟨h,d⟩,wd h]
  ·rw[wc<|fun k=>h k.1,wc h,Li f (n/10) l _ (by rw[yg];omega) ae];by_cases c:n/10=0
   ·rw[wd c,decDigits_one ae,show n % 10=n by omega];rfl
   ·have e:=Fi (n/10) (n % 10) ae ae;rw[show 10*(n/10)+n % 10=n by omega]at e;rw[wc c,e,qv];rfl
theorem eN{d:Nat}(h:d<10):QJ 1 d=[yj<|48+d]:=by
 unfold QJ;rw[nDigits_small h,decDigits_one h];rfl
theorem Tf:∀(k f n l:Nat) (a:Rd),a.length+(k+1)=l->n<10^(k+1)->k+1<=f->GR f n l a=QJ (k+1) n++a
 |k,0,n,l,a,_,_,h=>by omega
 |0,f+1,n,l,a,c,b,_=>by
  unfold GR;rw[wc ae,eN ae,Li f (n/10) l _ (by rw[yg];omega) (by rw[show n/10=0 by omega];exact Nat.pow_pos af),wd ae,show n % 10=n by omega];rfl
 |k+1,f+1,n,l,a,c,b,d=>by
  rw[qk]at b;have e:=PS (k+1) (n/10) (n % 10) ae ae;rw[show 10*(n/10)+n % 10=n by omega]at e;unfold GR;rw[wc ae,Tf k f (n/10) l _ (by rw[yg];omega) ae ae,e,qv];rfl
theorem NV{n:Int}(h0:0<=n)(a:n<9223372036854775808):HJ n 1=decDigits n.toNat:=by
 show GR 64 n.toNat 1 []=_;unfold GR;rw[wc<|by simp];rw[Li 63 (n.toNat/10) 1 _ (by simp) ae];by_cases h:n.toNat<10
 ·rw[wd ae,decDigits_one h,show n.toNat % 10=n.toNat by omega]
 ·have e:=Fi (n.toNat/10) (n.toNat % 10) ae ae;rw[show 10*(n.toNat/10)+n.toNat % 10=n.toNat by omega]at e;rw[wc ae,e]
theorem Xz{n:Int}(h0:0<=n)(a:n<1000000000):HJ n 9=QJ 9 n.toNat:=by
 show GR 64 n.toNat 9 []=_;rw[Tf 8 64 n.toNat 9 [] rfl ae af,List.append_nil]
def B4(n d:Int):Rd:=AX<|yb n d
theorem XW(n:Int):itoa n=(if n<0 then[45]else[])++decDigits n.natAbs:=by
 unfold itoa;split
 ·rfl
 ·rw[show n.toNat=n.natAbs by omega];rfl
end Go.Sp
