import Derived.Test.YtjbmodoofdpgcaaGreatDoorX11
import Derived.Lib.Repeat
/- A part of a proof; no law is stated here. -/
noncomputable section
open Go.Pe.Ends renaming tt -> zc, leaf -> zg, Ap -> zj, ite -> zk, ff -> zn, eq -> zr
open Go.Sp renaming B9 -> zd, val -> ze, vI -> zl, AR -> zu, gI -> qj, preB -> qy, CZ -> qz, first -> jf
open Bool renaming and_eq_true -> zf, true_and -> yv, eq_iff_iff -> qu
open Int renaming toNat_natCast -> zh, mul_le_mul_of_nonneg_left -> zo, lt_of_lt_of_le -> zt, mul_comm -> zw, le_of_lt -> z6, mul_lt_mul_of_pos_right -> z8, ne_of_gt -> yb, tdiv_eq_ediv_of_nonneg -> yd, mul_le_mul_of_nonneg_right -> yh, eq_ofNat_of_zero_le -> yi, pow_succ -> yo, lt_of_mul_lt_mul_left -> yp, mul_one -> yt, mul_nonneg -> yu, mul_add -> yw, gcd -> yz, emod_lt_of_pos -> qc, lt_of_le_of_lt -> qd, natAbs_natCast -> qe, one_mul -> qg, mul_pos -> qh, mul_assoc -> qi, ediv_eq_iff_of_pos -> qo, sign_eq_one_of_pos -> qp, emod_nonneg -> qt, pow_zero -> q9, gcd_comm -> jg, ediv_one -> jh
open Go.IntKind renaming wrap -> zi
open List renaming take_of_length_le -> zm, length_drop -> zp, length_append -> zq, length_take -> zy, length_eq_zero_iff -> zz, all_cons -> ye, dropWhile_cons -> yg, take_length -> yj, take_append_drop -> yk, replicate -> yn, dropLast_concat_getLast -> yy, drop -> ql, all_reverse -> qm, length_eq_one_iff -> qn
open Go.Pe.Ac renaming of -> zx
open UInt8 renaming toNat_inj -> z7, ofNat -> yc
open Rat renaming divInt -> yf, num_divInt_den -> yr, num_divInt -> qv, den_divInt -> qw
open Nat renaming sub -> ym, add_sub_cancel -> yq, le_refl -> yx, min_eq_left -> qq, add -> jc, zero_add -> je
open Classical renaming byContradiction -> qf
variable {Q:Go.Pe.PV->Go.Pe.Ob->Prop}
namespace Go.Pe
open Sp
open Go.Det
theorem F7{w:List Int}(c:Av zd w)(a:Sp.nz w){k:Nat}(b:w.length=k+1):0<w.getD k 0/\w.getD k 0<1000000000:=by
 have g:=Gx c k;refine⟨?_,g.2⟩;have e:w.getLast?=some (w.getD k 0):=by
  rw[List.getLast?_eq_getElem?,b,yq,List.getD_eq_getElem?_getD,List.getElem?_eq_getElem ae];rfl
 unfold Sp.nz at a;rw[e]at a;have:w.getD k 0≠0:=fun h=>a (by rw[h])
 omega
theorem Ed(d:Int):ze zd [d]=d:=by simp[ze]
namespace T127
theorem A8[Srt](v:List Int)(k h:Nat)(f:Int)(R:0<f/\f<1000000000)(C:v.length=k+2)(S:h<=9000)(T:k+2<=h)(x:Av zd v)(F:1<=v.getD (k+1) 0)(X:Int)
  (hq:∀(u c:List Int) ob,Av zd u->Av zd c->ze zd u<ze zd v->X=ze zd u+ze zd v*ze zd c->Q (.tup [.dat li<|Aw c,.dat li<|BA<|ze zd u/f]) ob):
  ∀(t:Nat) (u c:List Int),t+c.length=h-(k+2)+1->u.length=h+1->Av zd u->Av zd c->ze zd (u.drop t)<ze zd v->X=ze zd u+ze zd v*((zd:Int)^t*ze zd c)->
   Ends LX (L2 1 v ((k+2:Nat):Int) (h+1) (h-(k+2)+1) ((t:Int)-1) (yn t 0++c) u [f]) Q
 |0,u,c,hl,P,w,B,n,W=>by
  have n:ze zd u<ze zd v:=n;have m:=Br (b:=zd) af x;rw[C]at m;have D:ze zd (u.drop<|k+2)=0:=I3 (b:=zd) af w ae ae;have I:ze zd (u.take<|k+2)=ze zd u:=by
   rw[Cq zd u (k+2) ae,D,Int.mul_zero,Int.add_zero]
  have ht:(yn 0 0++c).take (h-(k+2)+1)=c:=by
   rw[List.replicate_zero,List.nil_append];exact zm ae
  have U:=Ha<|AM w<|k+2;have hlr:(Aw<|u.take<|k+2).length<=9000:=by
   rw[EI<|AM w<|k+2];refine Nat.le_trans (Ny (k:=k+2) (Az af<|AM w<|k+2) ?_) ae;show ze zd (u.take<|k+2)<_;rw[I];omega
  have e1:Ak (Aw<|u.take<|k+2)=ze zd u:=by
   show ze zd (Aw _)=_;rw[Jj,I]
  refine zj (AU ..) (zn (by simp) ?_);rw[zh,ht,e1];refine zc (by simp;omega) (zc rfl (zc rfl (zc (by simp;omega)<|zc (Ad (Ad (Ky ae U)<|w4 R.1)<|w4 R.2)<|zc (by simp;omega)<|zg<|hq u c _ w B n<|by rw[W,q9,qg])))
 |j+1,u,c,hl,P,w,B,n,W=>by
  obtain⟨lo,r,rfl,o⟩:∃lo r:List Int,u=lo++r/\lo.length=j:=⟨u.take j,u.drop j,(yk j u).symm,by rw[zy];omega⟩;have H:Av zd lo:=fun d g=>w d<|List.mem_append.2<|.inl g
  have e:Av zd r:=fun d g=>w d<|List.mem_append.2<|.inr g
  have hrl:r.length=h+1-j:=by rw[zq]at P;omega
  have p:∀z:List Int,(lo++z).drop j=z:=fun z=>by rw[<-o];exact List.drop_left
  have Z:r=r.getD 0 0::r.drop 1:=by
   have:=Cr (l:=r) (i:=0) ae;rw[List.drop_zero]at this;exact this
  have O:(lo++r).drop (j+1)=r.drop 1:=by rw[Nat.add_comm j 1,Nat.add_comm 1 j, <-List.drop_drop,p]
  rw[O]at n;have g0:=Gx e 0;have Y:ze zd r=r.getD 0 0+1000000000*ze zd (r.drop 1):=by
   conv=>lhs;rw[Z]
   rfl
  have m:=Br (b:=zd) af x;rw[C]at m;have L:ze zd r<1000000000*ze zd v:=by rw[Y];omega
  have D:ze zd (r.drop<|k+3)=0:=by
   refine I3 (b:=zd) af e ae ?_;have ep:(zd:Int)^(k+3)=(zd:Int)^(k+2)*1000000000:=yo ..;rw[ep];omega
  have gu0:=Gx e<|k+2;have gu1:=Gx e<|k+1;have gu2:=Gx e k;have gv1:=Gx x<|k+1;have M:=Gx x k;have hP:=Bc (b:=zd) af k;have hW:=oX zd r k ae D;have hV:=oM zd v k C;have s:=Br (b:=zd) af<|AM e k;have hv':=Az (b:=zd) af<|AM x k;rw[zy,qq ae]at s;have hle:r.getD (k+2) 0<=v.getD (k+1) 0:=by
   have a1:=Cq zd (r.drop 1) (k+1) (by rw[zp];omega);have a2:(r.drop 1).drop (k+1)=r.getD (k+2) 0::r.drop (k+3):=by
    rw[List.drop_drop,show 1+(k+1)=k+2 by omega];exact Cr ae
   have a3:ze zd (r.getD (k+2) 0::r.drop (k+3))=r.getD (k+2) 0:=by
    show r.getD (k+2) 0+(zd:Int)*ze zd (r.drop<|k+3)=_;rw[D];omega
   rw[a2,a3]at a1;have b1:ze zd v=ze zd (v.take<|k+1)+(zd:Int)^(k+1)*v.getD (k+1) 0:=by
    rw[<-AD,zm ae]
   have K:=Br (b:=zd) af<|AM x<|k+1;rw[zy,qq ae]at K;have c1:=Az (b:=zd) af<|AM (Es e 1)<|k+1;have c2:(zd:Int)^(k+1)*r.getD (k+2) 0<(zd:Int)^(k+1)*(v.getD (k+1) 0+1):=by
    rw[yw,yt];omega
   have:=yp c2 (z6<|Bc af<|k+1);omega
  have G:∀(q:Int) (A:List Int),A.length=r.length->Av zd A->(0<=q/\q<1000000000)->ze zd A<ze zd v->ze zd A=ze zd r-q*ze zd v->Ends LX (L2 1 v ((k+2:Nat):Int) (h+1) (h-(k+2)+1) (zi .i64<|(j:Int)-1) ((yn (j+1) 0++c).set j q) (lo++A) [f]) Q:=by
   intro q A h1 h2 h3 h4 h5;have es:(yn (j+1) (0:Int)++c).set j q=yn j 0++(q::c):=by
    rw[List.replicate_succ',List.append_assoc];exact Df _ _ _ _ (by simp)
   rw[es,wr ((j:Int)-1) ae ae];refine A8 v k h f R C S T x F X hq j (lo++A) (q::c) (by simp;omega) (by simp;omega) (Ga H h2) (fun d g=>?_) (by rw[p];exact h4) ?_
   ·rcases List.mem_cons.1 g with rfl|g
    ·exact h3
    ·exact B d g
   ·rw[W,CR,CR,o,h5,KZ];show ze zd lo+(zd:Int)^j*ze zd r+ze zd v*((zd:Int)^j*(1000000000*ze zd c))=ze zd lo+(zd:Int)^j*(ze zd r-q*ze zd v)+ze zd v*((zd:Int)^j*(q+1000000000*ze zd c));have x1:ze zd v*((zd:Int)^j*q)=(zd:Int)^j*(q*ze zd v):=by
     rw[Int.mul_left_comm,zw (ze zd v) q]
    rw[Int.mul_sub,yw ((zd:Int)^j) q,yw<|ze zd v,x1];omega
  have e0:(((j+1:Nat):Int)-1)=(j:Int):=ae
  have e1:zi .i64 ((j:Int)+((k+2:Nat):Int))=((k+2+j:Nat):Int):=by rw[wr _ ae ae];omega
  have e2:zi .i64 (((k+2+j:Nat):Int)-1)=((k+1+j:Nat):Int):=by rw[wr _ ae ae];omega
  have e3:zi .i64 (((k+2:Nat):Int)-1)=((k+1:Nat):Int):=by rw[wr _ ae ae];omega
  have g1:(lo++r).getD (k+2+j) 0=r.getD (k+2) 0:=G5 _ _ _ _ o;have g2:(lo++r).getD (k+1+j) 0=r.getD (k+1) 0:=G5 _ _ _ _ o;have hll:(lo++r).length=h+1:=P;have J:zi .i64 (zi .i64 (r.getD (k+2) 0*1000000000)+r.getD (k+1) 0)=r.getD (k+2) 0*1000000000+r.getD (k+1) 0:=by
   rw[wr (r.getD (k+2) 0*1000000000) ae ae];exact wr _ ae ae
  have a:0<=r.getD (k+2) 0*1000000000+r.getD (k+1) 0:=ae
  have E:0<=(r.getD (k+2) 0*1000000000+r.getD (k+1) 0)/v.getD (k+1) 0:=Int.ediv_nonneg a ae;have hqs:(r.getD (k+2) 0*1000000000+r.getD (k+1) 0)/v.getD (k+1) 0<=r.getD (k+2) 0*1000000000+r.getD (k+1) 0:=Int.ediv_le_self _ a;have y:=Int.mul_ediv_add_emod (r.getD (k+2) 0*1000000000+r.getD (k+1) 0)<|v.getD (k+1) 0;have N:=qt (r.getD (k+2) 0*1000000000+r.getD (k+1) 0) (show v.getD (k+1) 0≠0 by omega);have V:=qc (r.getD (k+2) 0*1000000000+r.getD (k+1) 0) (show 0<v.getD (k+1) 0 by omega);rw[zw]at y;have et:zi .i64 (Int.tdiv (r.getD (k+2) 0*1000000000+r.getD (k+1) 0)<|v.getD (k+1) 0)=(r.getD (k+2) 0*1000000000+r.getD (k+1) 0)/v.getD (k+1) 0:=by
   rw[yd a];exact wr _ ae ae
  have em:Int.tmod (r.getD (k+2) 0*1000000000+r.getD (k+1) 0) (v.getD (k+1) 0)=(r.getD (k+2) 0*1000000000+r.getD (k+1) 0) % v.getD (k+1) 0:=Int.tmod_eq_emod_of_nonneg a;have K:(decide ((0:Int)<=((k+1:Nat):Int))&&decide (((k+1:Nat):Int)<((k+2:Nat):Int)))=true:=by simp;omega
  have bn:decide (v.getD (k+1) 0≠0)=true:=w4 ae;rw[e0];refine zj (AU ..) (zc (by simp) ?_);rw[C,e1,e2,e3,zh,zh,zh,g1,g2,J,et,em,hll];refine zc (by simp;omega) (zc (w4 ae)<|zc (by simp;omega)<|zc (w4 ae)<|zc K<|zc bn<|zc K<|zc bn ?_);refine CY 1 (h+1) (h-(k+2)+1) _ [f] v lo r _ _ _ k j C ae o ae ae ae ae (by simp;omega) x e D F hle L G (((r.getD (k+2) 0*1000000000+r.getD (k+1) 0)/v.getD (k+1) 0).toNat+1) _ _ E ae ae ⟨N,by omega⟩ y ?_;rw[hW,hV];exact MX hP af E hv' M.1 s gu2.2 y V
theorem Aq[Srt](a v:List Int)(n b:Nat)(f:Int)(i:a.length=b)(d:b<=9000)(g:n<=b)(j:∀u:List Int,u.length=b+1->Av zd u->ze zd u=ze zd a*f->Ends LX (L2 1 v n (b+1) (b-n+1) (((b-n+1:Nat):Int)-1) (yn (b-n+1) 0) u [f]) Q):
  ∀(m:Nat) (u:List Int),u.length+m=b+1->Av zd u->ze zd u=ze zd a*f->Ends LX (L1 a 1 v n u.length u [f]) Q
 |0,u,k,h,e=>by
  have e1:zi .i64 ((a.length:Int)+1)=((b+1:Nat):Int):=by rw[wr _ ae ae];omega
  have e2:zi .i64 ((u.length:Int)-(n:Int))=((b-n+1:Nat):Int):=by rw[wr _ ae ae];omega
  have e3:zi .i64 (((b-n+1:Nat):Int)-1)=((b-n+1:Nat):Int)-1:=wr _ ae ae;refine zj (Am ..) ?_;conv=>zeta
  rw[e1,e2,e3,zh];refine zn (by simp;omega) (zc (by simp;omega) ?_);have c:u.length=b+1:=ae
  rw[c];exact j u c h e
 |m+1,u,k,h,e=>by
  have e1:zi .i64 ((a.length:Int)+1)=((b+1:Nat):Int):=by rw[wr _ ae ae];omega
  refine zj (Am ..) ?_;conv=>zeta
  rw[e1];refine zc (by simp;omega) (zc (by simp;omega) ?_);have:=Aq a v n b f i d g j m (u++[0]) (by simp;omega) (Fb h af) (by rw[Ca,Int.mul_zero,Int.add_zero];exact e);rw[zq]at this;exact this
set_option maxHeartbeats 1000000 in
theorem ok[Srt]:Af Bb 127 Q2:=by
 refine BL pH<|fun(i:List Int×List Int) D=>?_;obtain⟨a,b⟩:=i;have D:(A1 a&&A1 b&&decide (a.length<=9000)&&decide (b.length<=9000)&&decide (0<Ak b))=true:=D;rw[zf,zf,zf,zf,w5,w5,w5]at D;obtain⟨⟨⟨⟨na,nb⟩,la9⟩,lb9⟩,j⟩:=D;obtain⟨_,da,za⟩:=Bo na;obtain⟨_,db,zb⟩:=Bo nb;have j:0<ze zd b:=j;have p:=Az (b:=zd) af da;have Y:∀q r ob,q=BA (Ak a/Ak b)->r=BA (Ak a % Ak b)->Ac Q2 (a,b) (PV.tup [PV.dat li q,PV.dat li r]) ob:=fun q r ob e1 e2=>zx rfl rfl (Prod.ext e1 e2)
 have m:b≠[]:=by rintro rfl;simp[ze]at j
 have G:b.length≠0:=fun h=>m<|zz.1 h
 refine zr (Aj a b) (zc (by rw[na,nb];rfl)<|zk (fun c=>?_)<|fun c=>?_)
 ·have c:=w6 c;have y:ze zd a<ze zd b:=by
   unfold Cb at c;have c:(if ze zd a<ze zd b then(-1:Int)else if ze zd a>ze zd b then 1 else 0)<0:=c;split at c
   ·assumption
   ·split at c<;>omega
  refine zg<|zx rfl rfl ?_;show([],a)=(BA<|ze zd a/ze zd b,BA<|ze zd a % ze zd b);rw[Int.ediv_eq_zero_of_lt p y,Int.emod_eq_of_lt p y];exact Prod.ext rfl (JJ af da za)
 ·have c:=w7 c;have hge:ze zd b<=ze zd a:=by
   rcases Int.lt_or_le (ze zd a) (ze zd b)with g|g
   ·have:Cb (Ak a) (Ak b)= -1:=wd g;omega
   ·exact g
  have hll:b.length<=a.length:=by
   rcases Nat.lt_or_ge a.length b.length with g|g
   ·have:=Ex (b:=zd) af da db zb g;omega
   ·exact g
  refine zk (fun s=>?_)<|fun s=>?_
  ·have s:b.length=1:=by
    have:(b.length:Int)=1:=by simpa using s
    omega
   obtain⟨d,rfl⟩:=qn.1 s;have L:0<d/\d<1000000000:=F7 (k:=0) db zb rfl;have m0:=qt (ze zd a) (show d≠0 by omega);have m1:=qc (ze zd a) L.1;refine zc rfl (zc (Ad (Ad (Ky ae da)<|w4 L.1)<|w4 L.2)<|zc rfl (zg<|Y _ _ _ ?_ ?_))
   ·show BA (ze zd a/d)=BA (ze zd a/ze zd [d]);rw[Ed]
   ·show Aw [ze zd a % d]=BA (ze zd a % ze zd [d]);rw[Ed,EI<|fun x o=>by rw[List.mem_singleton]at o;subst o;show 0<=_/\_<(1000000000:Int);omega];show BA (ze zd [_])=_;rw[Ed]
  ·have s:b.length≠1:=by
    have:(b.length:Int)≠1:=by simpa using s
    omega
   obtain⟨k,C⟩:∃k,b.length=k+2:=⟨b.length-2,by omega⟩;obtain⟨y0,y1⟩:=F7 (k:=k+1) db zb C;have e1:zi .i64 (((k+2:Nat):Int)-1)=((k+1:Nat):Int):=by rw[wr _ ae ae];omega
   have e2:zi .i64 (b.getD (k+1) 0+1)=b.getD (k+1) 0+1:=wr _ ae ae;have f0:0<1000000000/(b.getD (k+1) 0+1):=by
    have:=Int.le_ediv_of_mul_le (a:=1) (b:=1000000000) (c:=b.getD (k+1) 0+1) ae ae;omega
   have f1:1000000000/(b.getD (k+1) 0+1)<1000000000:=Int.ediv_lt_of_lt_mul ae ae;have f2:1000000000/(b.getD (k+1) 0+1)*(b.getD (k+1) 0+1)<=1000000000:=Int.ediv_mul_le _ ae;have e3:zi .i64 (Int.tdiv 1000000000<|b.getD (k+1) 0+1)=1000000000/(b.getD (k+1) 0+1):=by
    rw[yd af];exact wr _ ae ae
   rw[C,e1,zh,e2,e3];generalize 1000000000/(b.getD (k+1) 0+1)=f at*;have J:Av zd [f]:=fun x o=>by rw[List.mem_singleton]at o;subst o;show 0<=_/\_<(1000000000:Int);omega
   have R:Ak [f]=f:=Ed f;rw[R];have N:(zd:Int)^(k+1)<=ze zd b*f:=by
    have a1:=C2 (b:=zd) af db zb m;rw[C,show k+2-1=k+1 by omega]at a1;have a2:=zo (show 1<=f by omega)<|z6 j;omega
   have H:ze zd b*f<(zd:Int)^(k+2):=by
    have b1:ze zd b=ze zd (b.take<|k+1)+(zd:Int)^(k+1)*b.getD (k+1) 0:=by
     rw[<-AD,zm ae]
    have b2:=Br (b:=zd) af<|AM db<|k+1;rw[zy,qq ae]at b2;have hp:=Bc (b:=zd) af<|k+1;have b3:ze zd b<(zd:Int)^(k+1)*(b.getD (k+1) 0+1):=by
     rw[yw,yt];omega
    have b4:=z8 b3 f0;have b5:=zo f2<|z6 hp;have b6:(zd:Int)^(k+2)=(zd:Int)^(k+1)*1000000000:=yo ..;rw[qi,zw (b.getD (k+1) 0+1) f]at b4;omega
   have K:0<=ze zd b*f:=yu (z6 j) ae;have z:0<=ze zd a*f:=yu p ae;have P:ze zd a*f<(zd:Int)^(a.length+1):=by
    have a1:=Br (b:=zd) af da;have a2:=z8 a1 f0;have a3:=zo (show f<=1000000000 by omega) (z6<|Bc (b:=zd) af a.length);have a4:(zd:Int)^(a.length+1)=(zd:Int)^a.length*1000000000:=yo ..;omega
   have vd:=HM (b:=zd) af<|ze zd b*f;have X:=XC (b:=zd) af<|ze zd b*f;have E:ze zd (Sp.dg zd<|ze zd b*f)=ze zd b*f:=C3 af K;have V:=gE (b:=zd) af vd X (k:=k+1) (by rw[E];exact N) (by rw[E];exact H);have v1:=(F7 vd X V).1;have ud:=HM (b:=zd) af<|ze zd a*f;have Z:ze zd (Sp.dg zd<|ze zd a*f)=ze zd a*f:=C3 af z;have S:=Ny (k:=a.length+1) z P;have B:Sp.hR [f]=true:=Yr (by simp) J;have bd:decide ((3*(0+(BA<|Ak a*f).length)+2000)*8<=562949953421312)=true:=w4 (by have:(BA<|Ak a*f).length<=a.length+1:=S;omega);refine zc (by simp;omega) (zc (w4 ae)<|zc (by rw[Yr lb9 db,B];rfl)<|zc (by rw[Yr la9 da,B];rfl)<|zc bd ?_);have ez:jc 0 (BA<|Ak a*f).length=(BA<|Ak a*f).length:=je _;have A:(BA<|Ak b*f).length=k+2:=V;rw[ez,List.nil_append,A];refine Aq a (BA<|Ak b*f) (k+2) a.length f rfl la9 ae (fun u I t M=>?_) (a.length+1-(BA<|Ak a*f).length) (BA<|Ak a*f) (by have:(BA<|Ak a*f).length<=a.length+1:=S;omega) ud Z;have w:=Bc (b:=zd) af<|a.length-(k+2)+1;have start:ze zd (u.drop<|a.length-(k+2)+1)<ze zd (BA<|Ak b*f):=by
    have a1:=Cq zd u (a.length-(k+2)+1) ae;have a2:=Az (b:=zd) af<|AM t<|a.length-(k+2)+1;have a3:=Br (b:=zd) af da;have a4:=z8 a3 f0;have a5:(zd:Int)^a.length=(zd:Int)^(a.length-(k+2)+1)*(zd:Int)^(k+1):=by rw[<-Int.pow_add,show a.length-(k+2)+1+(k+1)=a.length by omega]
    have T:=C2 (b:=zd) af db zb m;rw[C,show k+2-1=k+1 by omega]at T;have a7:=yh T (show 0<=f by omega);have a8:=zo a7<|z6 w;rw[a5,qi]at a4;show _<ze zd (Sp.dg zd<|ze zd b*f);rw[E];refine yp (a:=(zd:Int)^(a.length-(k+2)+1)) ?_<|z6 w;omega
   have go:=A8 (Q:=Ac Q2 (a,b)) (BA<|Ak b*f) k a.length f ⟨f0,f1⟩ A la9 ae vd (by have:0<(BA<|Ak b*f).getD (k+1) 0:=v1;omega) (ze zd a*f) (fun U n ob v O l W=>by
    have F:ze zd (BA<|Ak b*f)=ze zd b*f:=E;rw[F]at W l;have e:ze zd U=f*(ze zd a-ze zd n*ze zd b):=by
     have x1:ze zd b*f*ze zd n=f*(ze zd n*ze zd b):=by
      rw[zw (ze zd b) f,qi,zw<|ze zd b]
     rw[x1,zw<|ze zd a]at W;rw[Int.mul_sub];omega
    have h0:=Az (b:=zd) af v;have r0:0<=ze zd a-ze zd n*ze zd b:=by
     rw[e]at h0;exact Int.nonneg_of_mul_nonneg_right h0 f0
    have r1:ze zd a-ze zd n*ze zd b<ze zd b:=by
     rw[e,zw (ze zd b) f]at l;exact yp l ae
    obtain⟨u1,u2⟩:=(Int.ediv_emod_unique (a:=ze zd a) (b:=ze zd b) (r:=ze zd a-ze zd n*ze zd b) (q:=ze zd n) j).2 ⟨by rw[zw<|ze zd b];omega,r0,r1⟩;refine Y _ _ ob ?_ ?_
    ·rw[EI O];show BA (ze zd n)=BA (ze zd a/ze zd b);rw[u1]
    ·show BA (ze zd U/f)=BA (ze zd a % ze zd b);rw[u2,e,Int.mul_ediv_cancel_left _ ae]) (a.length-(k+2)+1) u [] (by simp) I t (fun x o=>by cases o) start (by rw[M];simp[ze])
   rw[List.append_nil]at go;exact go
end T127
theorem nJ[Srt]:Dn XG3:=Aa T127.ok AO
namespace T106
theorem Aq[Srt](g:Nat)(L:Int)(c:∀n:Nat,(n:Int)<L->A1 (BA (n:Int))=true/\Ak (BA (n:Int))=n/\(BA (n:Int)).length<=9000)(d:∀ob,Q (.dat li<|BA (g:Int)) ob):∀(f x y:Nat),y<f->Nat.gcd x y=g->(x:Int)<L->(y:Int)<L->
  Ends XG3 (L1 (BA (x:Int))<|BA (y:Int)) Q
 |0,x,y,h,_,_,_=>by omega
 |f+1,x,y,m,b,i,a=>by
  obtain⟨nx,j,k⟩:=c x i;obtain⟨ny,vy,ly⟩:=c y a
  refine zj (Am ..) ?_;conv=>zeta
  by_cases h0:y=0
  ·subst h0;rw[Nat.gcd_zero_right]at b;subst b;exact zn rfl (zg<|d _)
  ·have e:x % y<y:=Nat.mod_lt _ ae;have l:(BA (y:Int)).length≠0:=by
    intro h;have:=zz.1 h;rw[this]at vy;simp[Ak,ze]at vy;omega
   rw[j,vy,TE];refine zc (by simp;omega) (zc (Ad (Ad (Ad (Ad nx ny)<|w4 k)<|w4 ly)<|w4 ae) ?_);exact Aq g L c d f y (x % y) ae (by rw[Nat.gcd_comm, <-Nat.gcd_rec,Nat.gcd_comm];exact b) a ae
theorem Tm{a:List Int}(h:A1 a=true):a=BA (Ak a)/\0<=Ak a:=by
 obtain⟨_,d,z⟩:=Bo h;exact⟨JJ af d z,Az af d⟩
theorem Wl(n:Nat)(h:(n:Int)<(zd:Int)^9000):A1 (BA (n:Int))=true/\Ak (BA (n:Int))=n/\(BA (n:Int)).length<=9000:=by
 obtain⟨a,_,b,c⟩:=Fp (n:=(n:Int)) (k:=9000) (Int.natCast_nonneg n) h af;exact⟨a,b,c⟩
theorem ok[Srt]:Af Bb 106 KX:=by
 refine BL nJ<|fun(i:List Int×List Int) f=>?_;obtain⟨a,b⟩:=i;have f:(A1 a&&A1 b&&decide (a.length<=9000)&&decide (b.length<=9000))=true:=f;rw[zf,zf,zf,w5,w5]at f;obtain⟨⟨⟨na,nb⟩,la9⟩,lb9⟩:=f;obtain⟨ea,a0⟩:=Tm na;obtain⟨eb,b0⟩:=Tm nb;have g:Ak a<(zd:Int)^9000:=zt (Br (b:=zd) af (Bo na).2.1) (AP af la9);have h:Ak b<(zd:Int)^9000:=zt (Br (b:=zd) af (Bo nb).2.1) (AP af lb9);have key:∀(x y:Nat),Ak a=x->Ak b=y->Ends XG3 (L1 a b) (Ac KX (a,b)):=by
  intro x y c d;rw[ea,eb,c,d];rw[c]at g;rw[d]at h;refine Aq (Nat.gcd x y) _ Wl (fun ob=>zx rfl rfl ?_) (y+1) x y (Nat.lt_succ_self _) rfl g h;have e:qj (Ak<|BA (x:Int)) (Ak<|BA (y:Int))=((Nat.gcd x y:Nat):Int):=by
   rw[(Wl x g).2.1,(Wl y h).2.1,FN];rfl
  exact wi BA e.symm
 obtain⟨x,c⟩:=yi a0;obtain⟨y,d⟩:=yi b0;exact zr (Aj a b)<|key x y c d
end T106
theorem qS[Srt]:Dn aD:=
 Aa (GQ ag<|BK ag) (Aa (GQ ag<|BK ag)<|Aa (GQ ag<|BK ag)<|Aa (GQ ag<|BK ag) AO)
theorem EA[Srt]:Dn Nn:=fun g sp h=>by cases h
namespace T171
theorem Aaj:∀i:Fin 10,(Dh.getD i.1 0).toNat<128:=af
theorem EC[Srt](s:Rd)(i:Nat)(o:List Bool)(c:i<10)(d:o.length=256)(h:Ends aD (L2 s Dh Dh ((i+1:Nat):Int)<|o.set (Dh.getD i 0).toNat true) Q):Ends aD (L2 s Dh Dh (i:Int) o) Q:=by
 have b:Dh.length=10:=rfl;have a:=Aaj ⟨i,c⟩;have a:(Dh.getD i 0).toNat<128:=a;have e:=wn (i:=i) ae;refine zj (AU ..) ?_;conv=>zeta
 rw[b,e,zh,zh];exact zc (w4 ae) (zc (ad ae ae) (zn (w8 ae)<|zc (Ad (w4<|show(0:Int)<=((Dh.getD i 0).toNat:Int)by omega)<|w4 ae) (zc (w4 ae) h)))
def Tb(o:List Bool):Prop:=o.length=256/\∀c:UInt8,o.getD c.toNat false=BI c
theorem Ch[Srt](s t v0:Rd)(v4:Int)(i:List Bool)(f:Rd)(o1 b:List Bool)(h p0:List Bool)(g:Tb h):∀(w:Rd),(∀ob,Q (.dat .str<|w.dropWhile BI) ob)->Ends aD (L7 s t v0 v4 i f o1 b w h p0) Q
 |[],a=>zj (FV ..) (zn (by simp)<|zg<|a _)
 |c::r,a=>by
  have j:c.toNat<256:=c.toNat_lt;have k:(c::r).getD 0 0=c:=rfl;have e:(ql 1 (c::r)).take (ym (c::r).length 1)=r:=by show r.take ((r.length+1)-1)=r;rw[yq];exact yj
  refine zj (FV ..) ?_;conv=>zeta
  rw[k,zh,g.2,g.1,e];refine zc (by simp) (zc (by simp) (zc (Ad (w4<|show(0:Int)<=(c.toNat:Int)by omega)<|w4 ae)<|zc (w4 j)<|zk (fun d=>?_)<|fun d=>zc (by simp) ?_))
  ·have d:BI c=false:=by simpa using d
   rw[yg,wc<|by rw[d];decide]at a;exact zg<|a _
  ·have d:BI c=true:=by simpa using d
   rw[yg,wd d]at a;exact Ch s t v0 v4 i f o1 b h p0 g r a
theorem BR[Srt](s t v0:Rd)(v4:Int)(h:List Bool)(o1 a:List Bool)(g:Tb o1):∀(n:Nat) (w:Rd),w.length=n->n<=1000000->(∀ob,Q (.dat .str<|((w.reverse.dropWhile BI).reverse).dropWhile BI) ob)->Ends aD (L4 s t v0 v4 h w o1 a) Q
 |0,w,e,_,b=>by
  have:w=[]:=zz.1 e;subst this;exact zj (CA ..) (zn (by simp)<|zj (MD ..)<|zn (by simp)<|zg<|b _)
 |n+1,w,e,o,b=>by
  obtain⟨p,c,rfl⟩:∃p c,w=p++[c]:=by
   have f:w≠[]:=by rintro rfl;simp at e
   exact⟨w.dropLast,w.getLast f,(yy f).symm⟩
  have i:p.length=n:=by simpa using e
  have l:c.toNat<256:=c.toNat_lt;have e1:zi .i64 (((p++[c]).length:Int)-1)=(n:Int):=by rw[e,wr _ ae ae];omega
  have k:(p++[c]).getD n 0=c:=EJ _ _ _ _ i;have m:(p++[c]).take n=p:=by rw[<-i];exact List.take_left
  have j:(p++[c]).reverse=c::p.reverse:=by simp
  rw[j,yg]at b;refine zj (CA ..) (zc (w4 ae) ?_);rw[e1,zh,k,m,zh,g.2,g.1,e];refine zc (by simp;omega) (zc (Ad (w4<|show(0:Int)<=(c.toNat:Int)by omega)<|w4 ae)<|zc (w4 l)<|zk (fun d=>?_)<|fun d=>zc (by simp) ?_)
  ·have d:BI c=false:=by simpa using d
   rw[wc (by rw[d];decide),List.reverse_cons,List.reverse_reverse]at b;exact Ch s t v0 v4 h _ o1 a o1 a g (p++[c]) b
  ·have d:BI c=true:=by simpa using d
   rw[wd d]at b;exact BR s t v0 v4 h o1 a g n p i ae b
theorem Aa0{o:List Bool}(a:o.length=256)(b:∀c:Fin 256,o.getD c.1 false=(Nat.ble 48 c.1&&Nat.ble c.1 57)):Tb o:=by
 refine⟨a,fun c=>?_⟩;have:=b ⟨c.toNat,c.toNat_lt⟩;rw[show o.getD c.toNat false=_ from this];unfold BI;rw[qu];simp[Nat.ble_eq]
set_option maxRecDepth 10000 in
theorem ok[Srt]:Af Bb 171 VP:=by
 refine BL qS<|fun(i:Rd×Rd) a=>?_;obtain⟨s,t⟩:=i;have a:(decide (t=Dh)&&decide (s.length<=1000000))=true:=a;rw[zf,w5,w5]at a;obtain⟨rfl,hl⟩:=a;have b:∀ob,Ac VP (s,Dh) (.dat .str<|((s.reverse.dropWhile BI).reverse).dropWhile BI) ob:=fun ob=>zx rfl rfl rfl
 refine zr (Aj s Dh) (zk (fun c=>?_)<|fun c=>zn af (zn af ?_))
 ·have c:s=[]:=by simpa using c
  subst c;exact zg<|b _
 ·refine EC s 0 _ af rfl (EC s 1 _ af rfl (EC s 2 _ af rfl (EC s 3 _ af rfl (EC s 4 _ af rfl (EC s 5 _ af rfl (EC s 6 _ af rfl (EC s 7 _ af rfl (EC s 8 _ af rfl (EC s 9 _ af rfl ?_)))))))));refine zj (AU ..) (zn af<|zc (by decide+kernel) (zc (by decide+kernel)<|zc (by decide+kernel)<|zc rfl (BR s _ _ _ _ _ _ (Aa0 rfl ?_) s.length s rfl hl b)));decide+kernel
end T171
theorem rB[Srt]:Dn XH1:=Aa T171.ok AO
theorem dropWhile_nil{p:UInt8->Bool}:∀ {l:Rd},l.dropWhile p=[]↔l.all p=true
 |[]=>by simp
 |a::l=>by
  rw[yg,ye];cases h:p a with
  |true=>simp only[wm,yv];exact dropWhile_nil
  |false=>simp
theorem Ii{p:UInt8->Bool}:∀ {l:Rd} {a:UInt8} {r:Rd},l.dropWhile p=a::r->p a=false
 |[],a,r,h=>by simp at h
 |b::l,a,r,h=>by
  rw[yg]at h;cases c:p b with
  |true=>rw[c,wd rfl]at h;exact Ii h
  |false=>
   rw[c]at h;simp at h;rw[<-h.1];exact c
theorem LD(s:Rd):OI s=[]↔Al s=true:=by
 unfold OI Al;rw[dropWhile_nil,qm];constructor
 ·intro h;cases b:s.reverse.dropWhile BI with
  |nil=>have:=dropWhile_nil.1 b;rwa [qm]at this
  |cons a r=>
   rw[b,ye,Ii b]at h;cases h
 ·intro h;have:s.reverse.dropWhile BI=[]:=dropWhile_nil.2 (by rwa [qm]);rw[this];rfl
theorem T114.ok[Srt]:Af Bb 114 Wn:=by
 refine BL rB<|fun(s:Rd) f=>?_;have f:s.length<=1000000:=w6 f;have a:∀v b ob,v=.bl b\/v=.dat .bool b->b=AV s->Ac Wn s v ob:=by
  rintro v b ob (rfl|rfl) g
  ·exact zx rfl rfl g
  ·exact zx rfl rfl g
 refine zr (T114.Aj s)<|zk (fun c=>zc ?_<|zk (fun d=>zc ?_<|zk (fun e=>zg<|a _ _ _ (.inl rfl) ?_)<|fun e=>zg<|a _ _ _ (.inr rfl) ?_)<|fun d=>zg<|a _ _ _ (.inl rfl) ?_)<|fun c=>zg<|a _ _ _ (.inl rfl) ?_
 ·exact Ad (w4 rfl)<|w4 f
 ·have c:s≠[]:=by simpa using c
  have:s.length≠0:=fun h=>c<|zz.1 h
  exact w4 ae
 ·have c:s≠[]:=by simpa using c
  have d:OI s=[]:=by simpa using d
  have d:=(LD s).1 d;have e:s.getD 0 0≠48:=by
   intro h;rw[h]at e;exact wh e af
  unfold AV;rw[d,w4 c,w4 e];rfl
 ·have c:s≠[]:=by simpa using c
  have d:OI s=[]:=by simpa using d
  have d:=(LD s).1 d;have e:s.getD 0 0=48:=by
   have:((s.getD 0 0).toNat:Int)=48:=by simpa using e
   exact z7.1 (by show _=48;omega)
  unfold AV;rw[d,w4 c,w8<|by rw[e];exact fun h=>h rfl];show(s==[48])=decide (s=[48]);rw[qu];simp
 ·have d:¬OI s=[]:=by simpa using d
  have d:Al s=false:=by
   cases h:Al s with
   |true=>exact wh ((LD s).2 h) d
   |false=>rfl
  unfold AV;rw[d];simp
 ·have c:s=[]:=by simpa using c
  subst c;rfl
theorem T113.ok[Srt]:Af Bb 113 uH:=by
 refine BL EA<|fun(i:Rd×Rd) b=>?_;obtain⟨s,t⟩:=i;have b:(decide (t=[45])&&decide (s.length<=1000000))=true:=b;rw[zf,w5,w5]at b;obtain⟨rfl,hl⟩:=b;have a:s.getD 0 0≠45->(s,false)=(A6 s,qy s):=fun h=>by
  unfold A6 qy;rw[wc h,w8 h]
 refine zr (T113.Aj s [45]) ?_;conv=>zeta
 cases s with
 |nil=>exact zn af (zg<|zx rfl rfl (a af))
 |cons c r=>
  have f:(c::r).take 1=[c]:=rfl;refine zc (by simp;omega) (zc (by simp) ?_);show Ends Nn (.ite (!List.take 1 (c::r)==[45]) _ _) _;rw[f];refine zk (fun d=>zg<|zx rfl rfl (a ?_)) (fun d=>zc (by simp)<|zg<|zx rfl rfl ?_)
  ·show c≠45;rintro rfl;exact wh d af
  ·have d:c=45:=by simpa using d
   subst d;show(((ql 1 ((45:UInt8)::r)).take<|ym ((45:UInt8)::r).length 1),true)=(A6 (45::r),qy (45::r));have e:(ql 1 ((45:UInt8)::r)).take (ym ((45:UInt8)::r).length 1)=r:=by show r.take ((r.length+1)-1)=r;rw[yq];exact yj
   rw[e];rfl
theorem yE{F:Fz}{s:Rd}{c:Int}{args:List V}(h:Kj F (Ae [Sh.str,Sh.int .u8] (s,c)) args):args=[.str s,.int .u8 c]:=by
 have:=h (fun _=>none) 0;simp only[Ae,BU,BD]at this;obtain⟨a,f,rfl,e,b,g,rfl,d,rfl⟩:=this;simp only[PR,DC,List.cons.injEq,ve]at e d;rw[e,d]
theorem T300.ok[Srt]:Af Bb 300 tJ:=by
 refine .inr ⟨PK.indexByte.run,by kernel_rfl,fun F h args i a b=>?_⟩;obtain⟨s,c⟩:=i;have:=yE a;subst this;refine⟨TP<|s.findIdx? fun x=>x==c.toNat.toUInt8,rfl,fun ρ N=>?_⟩;show PR F ρ N (.dat i64<|NX s c) _;unfold NX;cases s.findIdx? fun x=>x==c.toNat.toUInt8 with
 |none=>simp[PR,DC,TP]
 |some i=>simp[PR,DC,TP,Det.i64]
theorem qX[Srt]:Dn XH2:=Aa T300.ok AO
theorem Vn{p:UInt8->Bool}{s:Rd}{i:Nat}(h:s.findIdx? p=some i):i<s.length:=(List.findIdx?_eq_some_iff_getElem.1 h).1
theorem T92.ok[Srt]:Af Bb 92 lG:=by
 refine BL qX<|fun(i:Rd×Rd) e=>?_;obtain⟨s,t⟩:=i;have e:(decide (t=[47])&&decide (s.length<=1000000))=true:=e;rw[zf,w5,w5]at e;obtain⟨rfl,hl⟩:=e;have a:s.any (fun x=>x==47)=(s.findIdx? fun x=>x==47).isSome:=by
  rw[List.findIdx?_isSome]
 refine zr (T92.Aj s [47]) (zn af<|zk (fun c=>?_)<|fun c=>zc af<|zc af<|zc af ?_)
 ·have c:s=[47]:=by
   have:[47]=s:=by simpa using c
   exact this.symm
  subst c;exact zc rfl (zc rfl (zc rfl (zg<|zx rfl rfl rfl)))
 ·have b:NX s (((([47]:Rd).getD 0 0).toNat:Nat):Int)=match s.findIdx? (fun x=>x==47)with
   |some i=>(i:Int)
   |none=> -1:=rfl
  cases d:s.findIdx? (fun x=>x==47)with
  |none=>
   rw[d]at b;have b:NX s (((([47]:Rd).getD 0 0).toNat:Nat):Int)= -1:=b;rw[b];refine zn af<|zg<|zx rfl rfl ?_;show(s,[],false)=(AB s,zu s,Bw s);unfold AB zu Bw;rw[a,d];rfl
  |some k=>
   rw[d]at b;have b:NX s (((([47]:Rd).getD 0 0).toNat:Nat):Int)=(k:Int):=b;have f:=Vn d;have e1:zi .i64 ((k:Int)+(([47]:Rd).length:Int))=((k+1:Nat):Int):=by
    show zi .i64 ((k:Int)+1)=_;rw[wr _ ae ae];omega
   rw[b,e1,zh,zh];refine zc (by simp) (zc (by simp;omega)<|zc (by simp;omega)<|zg<|zx rfl rfl ?_);show(s.take k,(s.drop<|k+1).take<|ym s.length<|k+1,true)=(AB s,zu s,Bw s);unfold AB zu Bw;have e2:(s.drop<|k+1).take (ym s.length<|k+1)=s.drop (k+1):=zm (by rw[zp];exact yx _);rw[a,d,e2];rfl
namespace T125
theorem Aq[Srt]{Q:PV->Ob->Prop}(s:Rd)(b:Al s=true)(m:s.length<=18)(e:∀ob,Q (.dat i64<|AA 0 s) ob):∀(r:Rd) (i:Nat),s.drop i=r->i<=s.length->Ends lX (L1 s (AA 0<|s.take i) i) Q
 |[],i,h,g=>by
  have j:i=s.length:=drop_nil h g;subst j;rw[yj];exact zj (Am ..) (zn (by simp)<|zg<|e _)
 |c::r,i,h,g=>by
  obtain⟨n,o,t⟩:=drop_cons (d:=0) h;have l:=Bd<|Be b i;have a:(s.take i).length=i:=by rw[zy];omega
  rw[a]at l;have u:(10:Int)^i<=10^17:=AP af ae;have p:BI c=true:=by
   unfold Al at b;rw[List.all_eq_true]at b;exact b c<|jM h
  have q:=EM p;have k:48<=c.toNat/\c.toNat<=57:=by unfold Kf at q;omega
  have e1:zi .i64 (c.toNat:Int)=(c.toNat:Int):=wr _ ae ae;have f:(10:Int)^17=100000000000000000:=af
  have e2:zi .i64 (zi .i64 (zi .i64 (10*AA 0 (s.take i))+(c.toNat:Int))-48)=AA 0 (s.take<|i+1):=by
   rw[Zd h,CO];show _=10*AA 0 (s.take i)+((c.toNat:Int)-48);generalize AA 0 (s.take i)=D at*;rw[wr (10*D) ae ae,wr (10*D+(c.toNat:Int)) ae ae,wr _ ae ae];omega
  have e3:=wn (i:=i) ae;refine zj (Am ..) (zc (by simp;omega) ?_);rw[zh,o,e1,e2,e3];exact zc (by simp;omega)<|Aq s b m e r (i+1) t n
theorem ok[Srt]:Af Bb 125 SQ:=by
 refine BL Sw<|fun(s:Rd) a=>?_;have a:(decide (s.length<=18)&&Al s)=true:=a;rw[zf,w5]at a;exact zr (Aj s)<|Aq s a.2 a.1 (fun ob=>zx rfl rfl rfl) s 0 rfl (Nat.zero_le _)
end T125
theorem rU[Srt]:Dn aN:=Aa T125.ok<|Aa T128.ok AO
theorem LO{neg:Bool}{w:List Int}{D:Int}(c:Av zd w)(d:ze zd w=D):(Cy neg w,Aw w)=(Sp.rN<|if neg=true then -D else D,Sp.rW<|if neg=true then -D else D):=by
 have h0:=Az (b:=zd) af c;rw[d]at h0;have e:Aw w=BA D:=by rw[EI c];show BA (ze zd w)=_;rw[d]
 have a:BA D=[]↔D=0:=cE af h0;have f:Ag (if neg=true then -D else D)=D:=by rw[Ai];split<;>omega
 unfold Cy Sp.rW Sp.rN;rw[f,e];congr 1;cases neg with
 |false=>simp;omega
 |true=>
  simp only[wm,yv,vc,a,decide_eq_decide];omega
namespace T124
theorem AaE:(10:Int)^9=1000000000:=af
theorem I0{s:Rd}{m:Nat}(a:m+9=s.length):AA 0 s=AA 0 (s.take m)*1000000000+AA 0 (s.drop m):=by
 conv=>lhs;rw[<-yk m s]
 rw[CO,Ep<|s.drop m,zp,show s.length-m=9 by omega,AaE]
theorem Cs{s:Rd}(a:Al s=true)(h:s.length<=9):0<=AA 0 s/\AA 0 s<1000000000:=by
 have:=Bd a;have b:(10:Int)^s.length<=10^9:=AP af h;rw[AaE]at b;omega
theorem BY{s:Rd}(a:Al s=true)(h:s.length<=18):DN s=true:=by
 unfold DN;rw[a,Bool.and_true];exact w4 h
theorem CY[Srt](neg:Bool)(D:Int)(h:∀(w:List Int) ob,Av zd w->ze zd w=D->Q (.agg [.dat .bool<|Cy neg w,.dat li<|Aw w]) ob):∀(f:Nat) (s:Rd) (o1:List Int),s.length<=f->Al s=true->o1.length+s.length<=6000->Av zd o1->ze zd o1+(zd:Int)^o1.length*AA 0 s=D->Ends aN (L3 s neg o1.length o1) Q:=by
 intro f;induction f with
 |zero=>
  intro s o1 j a i d c;have g:s.length<=9:=ae
  have b:=Cs a g;have e:(o1++[BJ s]).take (jc o1.length 1)=o1++[BJ s]:=zm (by simp);refine zj (BH ..) (zn (by simp;omega) (zc (BY a ae)<|zc (by simp;omega) ?_));rw[e];refine zc (by simp;omega)<|zg<|h _ _ (Fb d b) ?_;rw[Ca];exact c
 |succ f l=>
  intro s o1 j a i d c;by_cases g:s.length<=9
  ·have b:=Cs a g;have e:(o1++[BJ s]).take (jc o1.length 1)=o1++[BJ s]:=zm (by simp);refine zj (BH ..) (zn (by simp;omega) (zc (BY a ae)<|zc (by simp;omega) ?_));rw[e];refine zc (by simp;omega)<|zg<|h _ _ (Fb d b) ?_;rw[Ca];exact c
  ·obtain⟨m,k⟩:∃m,m+9=s.length:=⟨s.length-9,by omega⟩;have e1:zi .i64 ((s.length:Int)-9)=(m:Int):=by rw[wr _ ae ae];omega
   have e2:(s.drop m).take (ym s.length m)=s.drop m:=zm (by rw[zp];exact yx _);have b:=Cs (BQ a m) (by rw[zp];omega);refine zj (BH ..) (zc (by simp;omega) ?_);rw[e1,zh,e2];refine zc (by simp;omega) (zc (BY (BQ a m)<|by rw[zp];omega) (zc (by simp;omega)<|zc (by simp;omega) ?_));have:=l (s.take m) (o1++[BJ<|s.drop m]) (by rw[zy];omega) (Be a m) (by simp;omega) (Fb d b) (by
    rw[Ca,zq];show ze zd o1+(zd:Int)^o1.length*AA 0 (s.drop m)+(zd:Int)^(o1.length+1)*AA 0 (s.take m)=D;rw[KZ,Int.add_assoc, <-yw, <-c,I0 k];congr 2;omega)
   rw[zq]at this;exact this
theorem BR[Srt](D:Int)(h:∀(w:List Int) ob,Av zd w->ze zd w=D->Q (.agg [.dat .bool<|Cy false w,.dat li<|Aw w]) ob):∀(f:Nat) (s:Rd) (o1:List Int),s.length<=f->Al s=true->o1.length+s.length<=6000->Av zd o1->ze zd o1+(zd:Int)^o1.length*AA 0 s=D->Ends aN (L4 s o1.length o1) Q:=by
 intro f;induction f with
 |zero=>
  intro s o1 j a i d c;have g:s.length<=9:=ae
  have b:=Cs a g;have e:(o1++[BJ s]).take (jc o1.length 1)=o1++[BJ s]:=zm (by simp);refine zj (CA ..) (zn (by simp;omega) (zc (BY a ae)<|zc (by simp;omega) ?_));rw[e];refine zc (by simp;omega)<|zg<|h _ _ (Fb d b) ?_;rw[Ca];exact c
 |succ f l=>
  intro s o1 j a i d c;by_cases g:s.length<=9
  ·have b:=Cs a g;have e:(o1++[BJ s]).take (jc o1.length 1)=o1++[BJ s]:=zm (by simp);refine zj (CA ..) (zn (by simp;omega)<|zc (BY a ae) (zc (by simp;omega) ?_));rw[e];refine zc (by simp;omega)<|zg<|h _ _ (Fb d b) ?_;rw[Ca];exact c
  ·obtain⟨m,k⟩:∃m,m+9=s.length:=⟨s.length-9,by omega⟩;have e1:zi .i64 ((s.length:Int)-9)=(m:Int):=by rw[wr _ ae ae];omega
   have e2:(s.drop m).take (ym s.length m)=s.drop m:=zm (by rw[zp];exact yx _);have b:=Cs (BQ a m) (by rw[zp];omega);refine zj (CA ..) (zc (by simp;omega) ?_);rw[e1,zh,e2];refine zc (by simp;omega) (zc (BY (BQ a m)<|by rw[zp];omega) (zc (by simp;omega)<|zc (by simp;omega) ?_));have:=l (s.take m) (o1++[BJ<|s.drop m]) (by rw[zy];omega) (Be a m) (by simp;omega) (Fb d b) (by
    rw[Ca,zq];show ze zd o1+(zd:Int)^o1.length*AA 0 (s.drop m)+(zd:Int)^(o1.length+1)*AA 0 (s.take m)=D;rw[KZ,Int.add_assoc, <-yw, <-c,I0 k];congr 2;omega)
   rw[zq]at this;exact this
theorem Aq[Srt](neg:Bool)(s:Rd)(a:Al s=true)(g:s.length<=5999)(d:∀(w:List Int) ob,Av zd w->ze zd w=AA 0 s->Q (.agg [.dat .bool<|Cy neg w,.dat li<|Aw w]) ob):Ends aN (L1 s neg) Q:=by
 by_cases e:s.length<=9
 ·have c:=Cs a e;refine zj (Am ..) (zn (by simp;omega) (zc (BY a ae)<|zc rfl (zc rfl (zg<|d _ _ (Fb (l:=[]) (fun x b=>by cases b) c) ?_))));show ze zd [AA 0 s]=_;exact Ed _
 ·obtain⟨m,f⟩:∃m,m+9=s.length:=⟨s.length-9,by omega⟩;have e1:zi .i64 ((s.length:Int)-9)=(m:Int):=by rw[wr _ ae ae];omega
  have e2:(s.drop m).take (ym s.length m)=s.drop m:=zm (by rw[zp];exact yx _);have c:=Cs (BQ a m) (by rw[zp];omega);refine zj (Am ..) (zc (by simp;omega) ?_);rw[e1,zh,e2];refine zc (by simp;omega) (zc (BY (BQ a m)<|by rw[zp];omega) (zc rfl (zc (by simp;omega) ?_)));refine CY neg (AA 0 s) d m (s.take m) [BJ<|s.drop m] (by rw[zy];omega) (Be a m) (by simp;omega) (Fb (l:=[]) (fun x b=>by cases b) c) ?_;rw[Ed,I0 f];show AA 0 (s.drop m)+(zd:Int)^1*_=_;rw[yo,q9,qg,zw];exact Int.add_comm _ _
theorem A8[Srt](s:Rd)(a:Al s=true)(g:s.length<=5999)(d:∀(w:List Int) ob,Av zd w->ze zd w=AA 0 s->Q (.agg [.dat .bool<|Cy false w,.dat li<|Aw w]) ob):Ends aN (L2 s) Q:=by
 by_cases e:s.length<=9
 ·have c:=Cs a e;refine zj (AU ..) (zn (by simp;omega)<|zc (BY a ae) (zc rfl (zc rfl (zg<|d _ _ (Fb (l:=[]) (fun x b=>by cases b) c) ?_))));show ze zd [AA 0 s]=_;exact Ed _
 ·obtain⟨m,f⟩:∃m,m+9=s.length:=⟨s.length-9,by omega⟩;have e1:zi .i64 ((s.length:Int)-9)=(m:Int):=by rw[wr _ ae ae];omega
  have e2:(s.drop m).take (ym s.length m)=s.drop m:=zm (by rw[zp];exact yx _);have c:=Cs (BQ a m) (by rw[zp];omega);refine zj (AU ..) (zc (by simp;omega) ?_);rw[e1,zh,e2];refine zc (by simp;omega) (zc (BY (BQ a m)<|by rw[zp];omega) (zc rfl (zc (by simp;omega) ?_)));refine BR (AA 0 s) d m (s.take m) [BJ<|s.drop m] (by rw[zy];omega) (Be a m) (by simp;omega) (Fb (l:=[]) (fun x b=>by cases b) c) ?_;rw[Ed,I0 f];show AA 0 (s.drop m)+(zd:Int)^1*_=_;rw[yo,q9,qg,zw];exact Int.add_comm _ _
theorem ok[Srt]:Af Bb 124 Nv:=by
 refine BL rU<|fun(s:Rd) a=>?_;have a:(decide (s.length<=5999)&&(if s.getD 0 0=45 then Al (s.drop 1)else Al s))=true:=a;rw[zf,w5]at a;obtain⟨g,a⟩:=a;have fin:∀(neg:Bool) (D:Int),Bg s=(if neg=true then -D else D)->∀(w:List Int) ob,Av zd w->ze zd w=D->Ac Nv s (.agg [.dat .bool<|Cy neg w,.dat li<|Aw w]) ob:=by
  intro neg D h w ob i j;refine zx rfl rfl ?_;show(Cy neg w,Aw w)=(Sp.rN<|Bg s,Sp.rW<|Bg s);rw[h];exact LO i j
 refine zr (Aj s) ?_;conv=>zeta
 cases s with
 |nil=>exact zn af (A8 [] rfl af (fin false 0 rfl))
 |cons c r=>
  have f:(c::r).getD 0 0=c:=rfl;rw[f]at a;rw[f];refine zc (by simp) (zc (by simp)<|zk (fun d=>?_)<|fun d=>?_)
  ·have b:c=45:=by
    have:(c.toNat:Int)=45:=by simpa using d
    exact z7.1 (by show _=45;omega)
   rw[wd b]at a;have e:(ql 1 (c::r)).take (ym (c::r).length 1)=r:=by show r.take ((r.length+1)-1)=r;rw[yq];exact yj
   rw[d,e];refine zc (by simp) (Aq true r a (by simp at g;omega)<|fin true _ ?_);unfold Bg;rw[f,wd b,wd rfl];rfl
  ·have b:c≠45:=by
    rintro rfl;exact wh d af
   rw[wc b]at a;rw[d];refine Aq false (c::r) a g<|fin false _ ?_;unfold Bg;rw[f,wc b,wc af]
end T124
theorem oC[Srt]:Dn Qc:=
 Aa T97n.ok (Aa T156.ok<|Aa T96.ok<|Aa T102.ok<|Aa T157.ok<|Aa (GQ (by rfl)<|BK ag)<|Aa (GQ (by rfl)<|BK ag) AO)
theorem R0(k:Nat):B5 18 (k:Int)=((min 18 k:Nat):Int):=by grind [B5]
theorem tW(n:Int):zi .u8 n=n % 256:=by rfl
theorem wS(k:Nat):(10:Int)^k<=(Ao:Int)^k:=by
 induction k with
 |zero=>simp
 |succ k a=>
  grind
theorem FY{n:Int}(h0:0<=n)(h:n<(10:Int)^(6000:Nat)):Bi (CN n)=true:=by
 refine DG ?_;grind [Ai]
theorem NB(m n:Int):ER (CL m,CH m) (CL n,CH n)=CL (m*n)/\EP (CL m,CH m) (CL n,CH n)=CH (m*n):=by
 constructor
 ·show CL (zl (CN _)*zl (CN _))=_;rw[Cm,Cm]
 ·show CH (zl (CN _)*zl (CN _))=_;rw[Cm,Cm]
theorem qK{a b:AF}(h:0<=zl a+zl b):Eg a b=CN (zl a+zl b):=by
 unfold Eg;grind [Cx,CN,zl]
theorem ND{m v:Int}(d:0<=m)(c:0<=v):JH (CL m,CH m) (v,BV v)=CL (m+v)/\JQ (CL m,CH m) (v,BV v)=CH (m+v):=by
 have e1:zl (CL m,CH m)=m:=Cm m;have e2:zl (v,BV v)=v:=by rw[Fk,E0]
 have:=qK (a:=(CL m,CH m)) (b:=(v,BV v)) ae;rw[e1,e2]at this;exact⟨wi Prod.fst this,wi Prod.snd this⟩
theorem Nq(n:Nat):Uk ((10:Int),BV (10:Int)) (n:Int)=CL (10^n)/\Ux ((10:Int),BV (10:Int)) (n:Int)=CH (10^n):=by
 simp_all [Vg,Fk,E0,Uk,Ux]
theorem fN:Bi ((10:Int),BV (10:Int))=true:=by rfl
theorem jE{n:Nat}(h:n<=18):nE (zl ((10:Int),BV (10:Int))) (n:Int)=true:=by
 have c:(10:Int)^n<=10^18:=AP af h;have a:(10:Int)^18<18446744073709551616^1:=af
 have b:(18446744073709551616:Int)^(1:Nat)<=18446744073709551616^(4000:Nat):=ae;exact Ad (ad ae ae)<|w4<|qd c<|zt a b
theorem UU{v:Int}(h0:0<=v)(h:v<1000000000000000000):Bi (v,BV v)=true:=by
 rw[Fk];exact Ad (by grind [K5,Fh]) (by rfl)
theorem Xu{w:Rd}(a:Al w=true)(h:w.length<=18):0<=AA 0 w/\AA 0 w<1000000000000000000:=by
 have:=Bd a;have b:(10:Int)^w.length<=10^18:=AP af h;omega
namespace T94
theorem Ch[Srt](W:Rd)(neg:Bool)(u:Int)(h:List Int)(x:Int)(w:Rd)(n:Nat)(A:w=W.take n)(hW:Al W=true)(v:n=min 18 W.length)(E:1<=W.length)(a f:Int)(a0:0<=a)(s:Bi (CN a)=true)(i:Bi (CN<|a*10^n)=true)
  (o:Ends Qc (L5 (W.drop n) neg (CL<|a*10^n+AA 0 w) (CH<|a*10^n+AA 0 w) f) Q):
  ∀(r:Rd) (j:Nat),w.drop j=r->j<=w.length->Ends Qc (L7 W neg u h x w (AA 0<|w.take j) w.length w.length j (w.map fun b=>(b.toNat:Int)) (CL a) (CH a) f) Q
 |[],j,l,g=>by
  have e:Al w=true:=by grind [Be]
  have p:w.length=n:=ah
  have B:j=w.length:=drop_nil l g;subst B;have k:=Xu e ae;obtain⟨c,t,L⟩:∃c t,w=c::t:=by
   cases w with
   |nil=>grind
   |cons c t=>simp
  have m:((((w.getD 0 0).toNat:Int)==(45:Int))=false):=by
   unfold Al at e;grind [BI]
  have C:(W.drop n).take (ym W.length n)=W.drop n:=(by simp_all [zm]);have p0:0<=a*10^n:=yu a0 ah;have D:Bi (CL<|10^n,CH<|10^n)=true:=by
   refine FR (FY (n:=(10:Int)^n) ah ?_);have H:(10:Int)^n<=10^18:=AP af ae;omega
  refine zj (FV ..) (zn (by simp)<|zc ah ?_);rw[m,R0, <-v,(Nq n).1,(Nq n).2,yj];refine zn rfl (zc rfl (zc (by grind [fN,jE])<|zc (Ad s D)<|zc rfl ?_));rw[(NB _ _).1,(NB _ _).2,(ND p0 k.1).1,(ND p0 k.1).2,zh,C];exact zc (Ad i<|UU k.1 k.2) (by grind [zc])
 |c::r,j,l,g=>by
  have e:Al w=true:=by grind [Be]
  have p:w.length=n:=ah
  obtain⟨z,K,y⟩:=drop_cons (d:=0) l;have q:BI c=true:=by
   grind [Al]
  have M:=EM q;have I:=Bd<|Be e j;have J:(10:Int)^j<=10^17:=AP af ae;have G:(w.map fun b=>(b.toNat:Int)).getD j 0=(c.toNat:Int):=by
   grind
  have F:zi .u8 ((c.toNat:Int)-48)=Kf c:=by
   grind [tW,Kf]
  have e2:zi .i64 (zi .i64 (AA 0 (w.take j)*10)+zi .i64 (Kf c))=AA 0 (w.take<|j+1):=by
   grind [CO,AA,wr]
  have e3:zi .i64 ((j:Int)+1)=((j+1:Nat):Int):=by grind [wr]
  refine zj (FV ..) (zc ah ?_);rw[zh,G,F,e2,e3];refine zc ah (zc ah (zn ah ?_));exact Ch W neg u h x w n A hW v E a f a0 s i o r (j+1) y z
theorem CY[Srt](W:Rd)(neg:Bool)(s:Int)(v:Int)(w:Rd)(n:Nat)(A:w=W.take n)(hW:Al W=true)(u:n=min 18 W.length)(E:1<=W.length)(a f:Int)(q:a=0)(a0:0<=a)(x:Bi (CN a)=true)(h:Bi (CN<|a*10^n)=true)
  (m:Ends Qc (L5 (W.drop n) neg (CL<|a*10^n+AA 0 w) (CH<|a*10^n+AA 0 w) f) Q):
  ∀(r:Rd) (j:Nat),w.drop j=r->j<=w.length->Ends Qc (L3 W neg s v w (AA 0<|w.take j) w.length w.length j (w.map fun b=>(b.toNat:Int)) 0 f) Q
 |[],j,k,g=>by
  have e:Al w=true:=by grind [Be]
  have o:w.length=n:=ah
  have B:j=w.length:=drop_nil k g;subst B;have i:=Xu e ae;obtain⟨c,t,L⟩:∃c t,w=c::t:=by
   cases w with
   |nil=>grind
   |cons c t=>simp
  have l:((((w.getD 0 0).toNat:Int)==(45:Int))=false):=by
   unfold Al at e;grind [BI]
  have C:(W.drop n).take (ym W.length n)=W.drop n:=(by simp_all [zm]);have p0:0<=a*10^n:=ah;have D:Bi (CL<|10^n,CH<|10^n)=true:=by
   refine FR (FY (n:=(10:Int)^n) ah ?_);have H:(10:Int)^n<=10^18:=AP af ae;omega
  refine zj (BH ..) (zn (by simp)<|zc ah ?_);rw[l,R0, <-u,(Nq n).1,(Nq n).2,yj];refine zn rfl (zc rfl (zc (by grind [fN,jE])<|zc (Ad (by rfl) D)<|zc rfl ?_));rw[show ER ((0:Int),[]) (CL<|10^n,CH<|10^n)=CL (a*10^n)by rw[q];exact(NB 0 _).1,show EP ((0:Int),[]) (CL<|10^n,CH<|10^n)=CH (a*10^n)by rw[q];exact(NB 0 _).2,(ND p0 i.1).1,(ND p0 i.1).2,zh,C];exact zc (Ad h<|UU i.1 i.2) (by grind [zc])
 |c::r,j,k,g=>by
  have e:Al w=true:=by grind [Be]
  have o:w.length=n:=ah
  obtain⟨z,K,y⟩:=drop_cons (d:=0) k;have p:BI c=true:=by
   grind [Al]
  have M:=EM p;have I:=Bd<|Be e j;have J:(10:Int)^j<=10^17:=AP af ae;have G:(w.map fun b=>(b.toNat:Int)).getD j 0=(c.toNat:Int):=by
   grind
  have F:zi .u8 ((c.toNat:Int)-48)=Kf c:=by
   grind [tW,Kf]
  have e2:zi .i64 (zi .i64 (AA 0 (w.take j)*10)+zi .i64 (Kf c))=AA 0 (w.take<|j+1):=by
   grind [CO,AA,wr]
  have e3:zi .i64 ((j:Int)+1)=((j+1:Nat):Int):=by grind [wr]
  refine zj (BH ..) (zc ah ?_);rw[zh,G,F,e2,e3];refine zc ah (zc ah<|zn ah ?_);exact CY W neg s v w n A hW u E a f q a0 x h m r (j+1) y z
theorem qY[Srt](W:Rd)(neg:Bool)(o1:Int)(a:List Int)(d:Int)(hW:Al W=true)(j:1<=W.length)(n:Nat)(g:n=min 18 W.length)
  (h:Ends Qc (L7 W neg o1 a d (W.take n) 0 (W.take n).length (W.take n).length 0 ((W.take n).map fun b=>(b.toNat:Int)) o1 a d) Q):Ends Qc (L5 W neg o1 a d) Q:=by
 have e:=Be hW n;have f:((((W.take n).getD 0 0).toNat:Int)==(45:Int))=false/\((((W.take n).getD 0 0).toNat:Int)==(43:Int))=false:=by
  cases i:W.take n with
  |nil=>simp
  |cons c t=>
   unfold Al at e;grind [BI]
 refine zj (FO ..) (zc ah ?_);rw[R0, <-g,zh,f.1,f.2];exact zc ah (zc ah (zc ah<|zc ah<|zn rfl (zc ah<|zn rfl h)))
theorem pP[Srt](W:Rd)(neg:Bool)(o1:Int)(a:Int)(hW:Al W=true)(i:1<=W.length)(n:Nat)(f:n=min 18 W.length)
  (h:Ends Qc (L3 W neg o1 a (W.take n) 0 (W.take n).length (W.take n).length 0 ((W.take n).map fun b=>(b.toNat:Int)) o1 a) Q):Ends Qc (L1 W neg o1 a) Q:=by
 have d:=Be hW n;have e:((((W.take n).getD 0 0).toNat:Int)==(45:Int))=false/\((((W.take n).getD 0 0).toNat:Int)==(43:Int))=false:=by
  cases g:W.take n with
  |nil=>simp
  |cons c t=>
   unfold Al at d;grind [BI]
 refine zj (Am ..) (zc ah ?_);rw[R0, <-f,zh,e.1,e.2];exact zc ah (zc ah<|zc ah (zc ah<|zn rfl (zc ah<|zn rfl h)))
theorem xX(n:Int)(h:0<=n):(Ek (CL n,CH n),Ej (CL n,CH n))=CN (-n):=by
 show C0 (CN n)=_;unfold C0;split
 ·next c=>
  have:=Cm n;rw[BG c.1]at this;rw[this,Cc (n:= -n)];by_cases a: -9223372036854775808<n/\n<9223372036854775808
  ·omega
  ·have e:CN n=(1,BW<|Ag n):=by simp_all [CN,wc]
   grind
 ·rw[Cm]
theorem XP{a D:Int}{W:Rd}{n:Nat}(b:0<=a)(hW:Al W=true)(g:n<=W.length)(d:a*10^W.length+AA 0 W=D):(a*10^n+AA 0 (W.take n))*10^(W.drop n).length+AA 0 (W.drop n)=D/\a<=D/\a*10^n<=D:=by
 have e:AA 0 W=AA 0 (W.take n)*10^(W.drop n).length+AA 0 (W.drop n):=by
  grind [yk,CO,Ep]
 have c:W.length=n+(W.drop n).length:=ah
 have f:=(Bd hW).1;have one:∀k:Nat,(1:Int)<=10^k:=fun k=>by have:=Bc (show(0:Int)<10 by decide) k;omega
 have l1:a<=a*10^W.length:=by have:=zo (one W.length) b;omega
 have l2:a*10^n<=a*10^n*10^(W.drop n).length:=by
  have:=zo (one (W.drop n).length) (yu b (show(0:Int)<=10^n by grind));omega
 grind
theorem Cu[Srt](neg:Bool)(b D:Int)(e:D<(10:Int)^(6000:Nat))(k:∀ob,Q (.agg [.dat i64<|CL<|if neg=true then -D else D,.dat (.nlist u64)<|CH<|if neg=true then -D else D]) ob):∀(f:Nat) (W:Rd) (a:Int),W.length<f->W.length<=6000->0<=a->Al W=true->a*10^W.length+AA 0 W=D->Ends Qc (L5 W neg (CL a) (CH a) b) Q
 |0,W,a,m,_,_,_,_=>by omega
 |f+1,W,a,m,l,d,hW,g=>by
  cases h:W with
  |nil=>
   have g:a=D:=by grind [AA]
   subst g;have i:=FY d e;refine zj (FO ..) (zn (by simp)<|zk (fun c=>zc (B6 i).1<|zg ?_)<|fun c=>zg ?_)
   ·have:=xX a d;have q:Ek (CL a,CH a)=CL (-a):=wi Prod.fst this;have p:Ej (CL a,CH a)=CH (-a):=wi Prod.snd this;grind
   grind
  |cons c t=>
   rw[<-h];have j:1<=W.length:=ah
   obtain⟨r1,r2,o⟩:=XP (n:=min 18 W.length) d hW ae g;have s:=(Bd<|Be hW<|min 18 W.length).1;have r:0<=a*10^(min 18 W.length):=yu d ah;refine qY W neg _ _ b hW j _ rfl (Ch W neg _ _ b _ _ rfl hW rfl j a b d (by grind [FY]) (by grind [FY]) ?_ _ 0 rfl ae);exact Cu neg b D e k f (W.drop<|min 18 W.length) _ ah ah ae (BQ hW _) r1
theorem Aq[Srt](neg:Bool)(W:Rd)(f:W.length<=5999)(hW:Al W=true)(g:∀ob,Q (.agg [.dat i64<|CL<|if neg=true then -AA 0 W else AA 0 W,.dat (.nlist u64)<|CH<|if neg=true then -AA 0 W else AA 0 W]) ob)(h:W=[]->∀ob v,(v=.agg [.dat i64 0,.nil]\/v=.agg [.dat i64<|Ek ((0:Int),[]),.dat (.nlist u64)<|Ej ((0:Int),[])])->Q v ob):Ends Qc (L1 W neg 0 0) Q:=by
 cases b:W with
 |nil=>
  refine zj (Am ..) (zn (by simp)<|zk (fun c=>zc af<|by simp_all)<|by simp_all)
 |cons c t=>
  rw[<-b];have e:1<=W.length:=ah
  have d:AA 0 W<(10:Int)^(6000:Nat):=zt (Bd hW).2 (AP af ae);obtain⟨r1,r2,i⟩:=XP (a:=0) (n:=min 18 W.length) (D:=AA 0 W) ae hW ae ae;have j:=(Bd<|Be hW<|min 18 W.length).1;refine pP W neg 0 0 hW e _ rfl (CY W neg 0 0 _ _ rfl hW rfl e 0 0 rfl ae af (by rw[Int.zero_mul];decide) ?_ _ 0 rfl ae);exact Cu neg 0 _ d g (W.length+1) (W.drop<|min 18 W.length) _ ah ah ae (BQ hW _) r1
theorem ok[Srt]:Af Bb 94 N4:=by
 refine BL oC<|fun(s:Rd) a=>?_;have a:(decide (s.length<=5999)&&(if s.getD 0 0=45 then Al (s.drop 1)else Al s))=true:=a;rw[zf,w5]at a;obtain⟨m,a⟩:=a;have fin:∀D,Bg s=D->∀ob,Ac N4 s (.agg [.dat i64<|CL D,.dat (.nlist u64)<|CH D]) ob:=by
  rintro D rfl ob;exact zx rfl rfl rfl
 have b:Bg s=0->∀ob v,(v=.agg [.dat i64 0,.nil]\/v=.agg [.dat i64<|Ek ((0:Int),[]),.dat (.nlist u64)<|Ej ((0:Int),[])])->Ac N4 s v ob:=by
  rintro h ob v (rfl|rfl)
  ·refine zx rfl rfl ?_;show((0:Int),([]:List Int))=(CL<|Bg s,CH<|Bg s);rw[h];rfl
  ·refine zx rfl rfl ?_;show C0 ((0:Int),([]:List Int))=(CL<|Bg s,CH<|Bg s);rw[h];rfl
 refine zr (Aj s) ?_;conv=>zeta
 cases s with
 |nil=>
  refine zn af (zn af (zj (AU ..)<|zn af<|zg<|b rfl _ _ (.inl rfl)))
 |cons c r=>
  have j:(c::r).take 1=[c]:=rfl;have l:(c::r).getD 0 0=c:=rfl;rw[l]at a;have e:(ql 1 (c::r)).take (ym (c::r).length 1)=r:=by simp
  have f:decide (((c::r).length:Int)>=1)=true:=ah;have g:decide (1<=(c::r).length)=true:=(by rfl);rw[j,e];refine zc f<|zc g<|zc f<|zc g<|zk (fun d=>?_)<|fun d=>?_
  ·have k:c=45:=ah
   rw[wd k]at a;rw[d];have i:Bg (c::r)= -AA 0 r:=by simp_all [Bg]
   refine zc (by simp) (Aq true r ah a ah<|fun h0=>b<|by rw[i,h0];rfl)
  simp_all [Bg,Aq]
end T94
namespace T115
theorem loop[Srt]{Q:PV->Ob->Prop}(l:List Int)(g:l.length<=1000000):∀(r:List Int) (i:Nat),l.drop i=r->i<=l.length->Q (.dat i64<|jf r) []->Ends Nn (L1 l ((l.length:Int)) i) Q
 |[],i,h,k,a=>by
  refine zj (Am ..) ?_;conv=>zeta
  have:¬i<l.length:=by
   intro b;have:=List.drop_eq_getElem_cons b;rw[h]at this;cases this
  have e:i=l.length:=ae
  subst e;simpa [jf]using a
 |x::r,i,h,k,a=>by
  obtain⟨b,f,j⟩:=drop_cons (d:=0) h;refine zj (Am ..) ?_;conv=>zeta
  rw[K1,wd (by simp;omega),K1,wd (by simp;omega),K1];simp only[zh,f];by_cases c:x=0
  ·subst c;rw[wc (by simp),wr _ ae ae];exact loop l g r (i+1) j b (by simpa [jf]using a)
  ·rw[wd<|by simpa using c];simpa [jf,c]using a
theorem ok[Srt]:Af Bb 115 GB:=by
 refine BL EA<|fun l a=>?_;refine zr (Aj l) ?_;conv=>zeta
 exact loop l (by simpa [GB]using a) l 0 rfl (Nat.zero_le _) (zx rfl rfl rfl)
end T115
theorem T116.ok[Srt]:Af Bb 116 JK:=by
 refine BL EA<|fun⟨c,e⟩ _=>?_;refine zr (T116.Aj c e) ?_;conv=>zeta
 have key:∀x:Int,x=BO c e->Ac JK (c,e) (.dat i64 x) []:=fun x a=>zx rfl rfl a
 simp only[K1,Y9];cases c
 ·exact key _ rfl
 ·exact key _ rfl
theorem mC[Srt]:Dn LZ:=
 Aa T115.ok (Aa T116.ok<|Aa T113.ok<|Aa T92.ok<|Aa T114.ok<|Aa T117.ok<|Aa T94.ok<|Aa T118.ok<|Aa T97n.ok AO)
theorem Hd{s:Rd}(h:AV s=true):s≠[]/\Al s=true:=by
 unfold AV at h;rw[zf,zf,w5]at h;exact h.1
theorem Ln{s:Rd}(h:Al s=true)(b:s.length<=5999):C1 s=true/\Bg s=AA 0 s:=by
 have h0:s.getD 0 0≠45:=by
  cases s with
  |nil=>decide
  |cons c r=>
   unfold Al at h;rw[ye,zf]at h;have:=EM h.1;rintro a;have a:c=45:=a;subst a;exact wh this af
 unfold C1 Bg;rw[wc h0,wc h0,h,Bool.and_true];exact⟨w4 b,rfl⟩
theorem tA{a b L:Int}(c:0<=a)(f:0<=b)(g:a<L)(d:b<L):0<=qj a b/\qj a b<L:=by
 rw[FN];obtain⟨x,rfl⟩:=yi c;obtain⟨y,rfl⟩:=yi f;have e:yz (x:Int) (y:Int)=Nat.gcd x y:=rfl;rw[e];refine⟨Int.natCast_nonneg _,?_⟩;rcases Nat.eq_zero_or_pos x with h|h
 ·subst h;rw[Nat.gcd_zero_left];exact d
 ·have:=Nat.gcd_le_left y h;omega
namespace T61
def E(A B:Rd)(b a:Bool):Int:=if a=false then 1 else if 600<A.length\/600<B.length then 4 else if b=true/\qj (AA 0 A) (AA 0 B)≠1 then 1 else 0
theorem Hb[Srt](A B:Rd)(a:Bool)(j:Al A=true)(b:a=true->Al B=true)(s:A.length<=600)(r:B.length<=600)(d:∀ob,Q (.dat i64<|if a=true/\qj (AA 0 A) (AA 0 B)≠1 then 1 else 0) ob):Ends LZ (L8 A B a) Q:=by
 refine zj (MD ..)<|zk (fun c=>?_)<|fun c=>?_
 ·have b:=b c;obtain⟨r1,r2⟩:=Ln j ae;obtain⟨r3,r4⟩:=Ln b ae;have e:=Bd j;have f:=Bd b;have i:AA 0 A<(10:Int)^(6000:Nat):=zt e.2 (AP af ae);have k:AA 0 B<(10:Int)^(6000:Nat):=zt f.2 (AP af ae);have e1:Dc A=CL (AA 0 A):=by unfold Dc;rw[r2]
  have e2:Da A=CH (AA 0 A):=by unfold Da;rw[r2]
  have e3:Dc B=CL (AA 0 B):=by unfold Dc;rw[r4]
  have e4:Da B=CH (AA 0 B):=by unfold Da;rw[r4]
  have n:ME (CL<|AA 0 A,CH<|AA 0 A) (CL<|AA 0 B,CH<|AA 0 B)=CL (qj (AA 0 A)<|AA 0 B):=by
   unfold ME;rw[KN,KN]
  have p:MP (CL<|AA 0 A,CH<|AA 0 A) (CL<|AA 0 B,CH<|AA 0 B)=CH (qj (AA 0 A)<|AA 0 B):=by
   unfold MP;rw[KN,KN]
  obtain⟨l1,l2⟩:=tA e.1 f.1 i k;have m:YY (CL<|qj (AA 0 A)<|AA 0 B,CH<|qj (AA 0 A)<|AA 0 B) ((1:Int),BV (1:Int))=Cb (qj (AA 0 A)<|AA 0 B) 1:=by
   unfold YY;rw[KN,Fk,E0]
  rw[e1,e2,e3,e4,n,p,m];have o:Bi ((1:Int),BV (1:Int))=true:=by rw[Fk];decide
  refine zc r1<|zc r3<|zc (Ad (FR<|FY e.1 i)<|FR<|FY f.1 k)<|zc rfl (zc (Ad (FR<|FY l1 l2) o) ?_);refine zj (Aa7 ..)<|zc rfl (zg ?_);generalize qj (AA 0 A) (AA 0 B)=g at*;have:BO (Cb g 1 !=0) 1=if a=true/\g≠1 then 1 else 0:=by
   unfold Cb BO;by_cases h:g=1
   ·subst h;rw[c];rfl
   ·have l:(if a=true/\g≠1 then(1:Int)else 0)=1:=wd ⟨c,h⟩;rw[l];rcases Int.lt_or_gt_of_ne h with q|q
    ·rw[wd q];rfl
    ·rw[wc ae,wd q];rfl
  rw[this];exact d _
 ·refine zj vJ<|zc rfl (zg ?_);rw[wc<|by rw[c];simp]at d;exact d _
theorem Ch[Srt](A B:Rd)(e a c d:Bool)(g:c= !a)(f:d=true↔600<A.length\/600<B.length)(j:a=true->Al A=true/\(e=true->Al B=true))(b:∀ob,Q (.dat i64<|E A B e a) ob):Ends LZ (L7 A B e<|jf [BO c 1,BO d 4]) Q:=by
 subst g;unfold E at b;cases a with
 |false=>
  refine zj (FV ..)<|zc ?_<|zg<|b _;cases d<;>rfl
 |true=>
  rw[wc af]at b;cases d with
  |true=>
   rw[wd<|f.1 rfl]at b;exact zj (FV ..)<|zc rfl (zg<|b _)
  |false=>
   have l:¬(600<A.length\/600<B.length):=fun h=>by have:=f.2 h;cases this
   rw[wc l]at b;obtain⟨i,k⟩:=j rfl;exact zj (FV ..) (zn rfl (Hb A B e i k ae ae b))
theorem BR[Srt](A B:Rd)(b a:Bool)(e:a=true->Al A=true/\(b=true->Al B=true))(d:∀ob,Q (.dat i64<|E A B b a) ob):Ends LZ (L4 A B b a) Q:=by
 refine zj (CA ..)<|zc rfl (zk (fun c=>zc rfl (zc rfl ?_))<|fun c=>zc rfl (zc rfl ?_))
 ·have c:=w6 c;exact Ch A B b a _ _ rfl ⟨fun _=>.inl ae,fun _=>rfl⟩ e d
 ·have c:=w7 c;exact Ch A B b a _ _ rfl ⟨fun h=>.inr (by have:=w6 h;omega),fun h=>w4 ae⟩ e d
theorem Cu[Srt](A B:Rd)(a:Bool)(b:∀ob,Q (.dat i64<|E A B a false) ob):Ends LZ (L5 A B a) Q:=by
 refine zj (FO ..)<|zc rfl (zk (fun c=>zc rfl (zc rfl ?_))<|fun c=>zc rfl (zc rfl ?_))
 ·have c:=w6 c;exact Ch A B a false _ _ rfl ⟨fun _=>.inl ae,fun _=>rfl⟩ (fun h=>by cases h) b
 ·have c:=w7 c;exact Ch A B a false _ _ rfl ⟨fun h=>.inr (by have:=w6 h;omega),fun h=>w4 ae⟩ (fun h=>by cases h) b
theorem Jq[Srt](A B:Rd)(a:Bool)(d:Al A=true/\(a=true->Al B=true))(b:∀ob,Q (.dat i64<|E A B a true) ob):Ends LZ (L6 A B a) Q:=by
 refine zj (Lr ..)<|zc rfl (zk (fun c=>zc rfl (zc rfl ?_))<|fun c=>zc rfl (zc rfl ?_))
 ·have c:=w6 c;exact Ch A B a true _ _ rfl ⟨fun _=>.inl ae,fun _=>rfl⟩ (fun _=>d) b
 ·have c:=w7 c;exact Ch A B a true _ _ rfl ⟨fun h=>.inr (by have:=w6 h;omega),fun h=>w4 ae⟩ (fun _=>d) b
theorem UE[Srt]{F:Tr}(A B:Rd)(f:Bool)(j:B.length<=1000000)(k:Al A=true)(b:Bool)(a:b=(!f||(AV B&&decide (B≠[48])&&decide (B≠[49]))))(g:∀ob,Q (.dat i64<|E A B f b) ob)
  (h:(f=true->Ends LZ (.ite (decide (B.length<=1000000)) (.ite (AV B) (.ite (!B==[(48:UInt8)]) (L4 A B f<|!B==[(49:UInt8)])<|L5 A B f)<|L5 A B f) .fail) Q)->(f=false->b=true)->Ends LZ F Q):Ends LZ F Q:=by
 refine h (fun i=>zc (w4 j) ?_) (fun i=>by rw[a,i];rfl);rw[i]at a;refine zk (fun c=>zk (fun d=>?_)<|fun d=>?_)<|fun c=>?_
 ·have d:B≠[48]:=by simpa using d
  have e:b=(!B==[(49:UInt8)]):=by
   rw[a,c,w4 d];by_cases h:B=[49]
   ·rw[h];rfl
   ·rw[w4 h];simp[h]
  rw[<-e];exact BR A B f b (fun _=>⟨k,fun _=>(Hd c).2⟩) g
 ·have d:B=[48]:=by simpa using d
  have e:b=false:=by rw[a,w8<|fun h=>h d];simp
  rw[e]at g;exact Cu A B f g
 ·have e:b=false:=by rw[a,c];simp
  rw[e]at g;exact Cu A B f g
theorem Ez(s:Rd):(AB s).length<=s.length/\(zu s).length<=s.length:=by
 unfold AB zu;cases s.findIdx? (fun x=>x==47)with
 |none=>simp
 |some i=>simp;omega
theorem XH(s:Rd):(A6 s).length<=s.length:=by
 unfold A6;split
 ·simp
 ·exact yx _
theorem ok[Srt]:Af Bb 61 FZ:=by
 refine BL mC<|fun(a:Rd) m=>?_;have m:a.length<=1000000:=w6 m;have l1:=XH a;obtain⟨l2,l3⟩:=Ez<|A6 a;have j:∀b,b=F5 a->∀ob,Ac FZ a (.dat i64<|E (AB<|A6 a) (zu<|A6 a) (Bw<|A6 a) b) ob:=by
  rintro b rfl ob;exact zx rfl rfl rfl
 have i:F5 a=(AV (AB<|A6 a)&&(!qy a||decide (AB (A6 a)≠[48]))&&(!Bw (A6 a)||(AV (zu<|A6 a)&&decide (zu (A6 a)≠[48])&&decide (zu (A6 a)≠[49])))):=rfl;refine zr (Aj a) (zc (Ad (w4 rfl)<|w4 m) (zc (Ad (w4 rfl)<|w4 ae) (zc (w4 ae) ?_)));generalize AB (A6 a)=A at*;generalize zu (A6 a)=B at*;generalize Bw (A6 a)=f at*;refine zk (fun c=>?_)<|fun c=>?_
 ·have l:=(Hd c).2;refine zk (fun d=>?_)<|fun d=>?_
  ·have g:F5 a=(!f||(AV B&&decide (B≠[48])&&decide (B≠[49]))):=by rw[i,c,d];rfl
   refine UE A B f ae l (F5 a) g (j _ rfl)<|fun n o=>zj (Am ..)<|zk n<|fun e=>?_;have q:=o e;exact Jq A B f ⟨l,fun h=>by rw[e]at h;cases h⟩<|j true q.symm
  ·by_cases k:A=[48]
   ·have g:F5 a=false:=by rw[i,d,w8<|fun h=>h k];simp
    have p:(!A==[(48:UInt8)])=false:=by rw[k];rfl
    rw[p];refine zj (AU ..) (zk (fun e=>zn rfl (Cu A B f<|j false g.symm))<|fun e=>BR A B f false (fun h=>by cases h)<|j false g.symm)
   ·have p:(!A==[(48:UInt8)])=true:=by simp[k]
    have g:F5 a=(!f||(AV B&&decide (B≠[48])&&decide (B≠[49]))):=by rw[i,c,d,w4 k];rfl
    rw[p];refine UE A B f ae l (F5 a) g (j _ rfl)<|fun n o=>zj (AU ..)<|zk (fun e=>zc rfl (n e))<|fun e=>?_;have q:=o e;exact BR A B f true (fun _=>⟨l,fun h=>by rw[e]at h;cases h⟩)<|j true q.symm
 ·have g:F5 a=false:=by rw[i,c];simp
  exact zj (BH ..)<|zk (fun e=>Cu A B f<|j false g.symm)<|fun e=>Cu A B f<|j false g.symm
end T61
theorem DT(c:UInt8)(r:Rd):AB (c::r)=if c=47 then[]else c::AB r:=by
 unfold AB;grind
namespace T104
theorem Aq[Srt]{Q:PV->Ob->Prop}(s:Rd)(j:s.length<=9223372036854775807):∀(r:Rd) (i:Nat),s.drop i=r->i<=s.length->(∀ob,Q (.dat i64 (((i+(AB r).length:Nat)):Int)) ob)->Ends Nn (L1 s i) Q
 |[],i,h,b,a=>by
  have e:i=s.length:=drop_nil h b;subst e;exact zj (Am ..) (zn (by simp)<|zg<|a _)
 |c::r,i,h,b,a=>by
  obtain⟨l,f,k⟩:=drop_cons (d:=0) h;have e3:zi .i64 ((i:Int)+1)=((i+1:Nat):Int):=by grind [wr]
  rw[DT]at a;refine zj (Am ..) (zc ah ?_);rw[zh,f,e3];refine zc ah<|zk (fun d=>?_)<|fun d=>?_
  ·have g:c=47:=by
    exact z7.1 ah
   simp_all
  ·have g:c≠47:=by rintro rfl;grind
   refine Aq s j r (i+1) k l<|fun ob=>?_;grind
theorem ok[Srt]:Af Bb 104 OM:=by
 refine BL EA<|fun(s:Rd) a=>?_;have a:s.length<=1000000:=w6 a;refine zr (Aj s) (Aq s ae s 0 rfl ae (fun ob=>zx rfl rfl ?_));rw[je];rfl
theorem okU[Srt]:Af Bb 104 Xd:=by
 refine BL EA<|fun(s:Rd) a=>?_;have a:s.length<=9223372036854775807:=w6 a;refine zr (Aj s) (Aq s a s 0 rfl ae (fun ob=>zx rfl rfl ?_));rw[je];rfl
end T104
namespace T105
theorem T6{s:Rd}{r:Rd}{c:UInt8}{i:Nat}(h:s.drop i=c::r):Al (s.drop i)=(BI c&&Al (s.drop<|i+1)):=by
 obtain⟨_,_,a⟩:=drop_cons (d:=0) h;rw[a,h];rfl
theorem Aq[Srt](s:Rd)(k:s.length<=9223372036854775807):∀(r:Rd) (i:Nat),s.drop i=r->i<=s.length->(∀ob,Q (.bl<|Al<|s.drop i) ob)->Ends Nn (L1 s s i) Q
 |[],i,h,f,a=>by
  have g:i=s.length:=drop_nil h f;rw[h]at a;subst g;exact zj (Am ..) (zn (by simp)<|zg<|a _)
 |c::r,i,h,f,a=>by
  obtain⟨m,j,l⟩:=drop_cons (d:=0) h;have e3:zi .i64 ((i:Int)+1)=((i+1:Nat):Int):=by grind [wr]
  rw[T6 h]at a;refine zj (Am ..) (zc ah ?_);rw[zh,j,e3];refine zc ah (zk (fun d=>?_) (fun d=>zc ah<|zk (fun e=>?_)<|fun e=>?_))
  ·grind [BI,zg]
  ·have b:BI c=false:=by unfold BI;grind
   simp_all
  ·have b:BI c=true:=by grind [BI]
   rw[b,yv]at a;exact Aq s k r (i+1) l m a
theorem A8[Srt](s:Rd)(k:s.length<=9223372036854775807):∀(r:Rd) (i:Nat),s.drop i=r->i<=s.length->(∀ob,Q (.bl<|Al<|s.drop i) ob)->Ends Nn (L2 s s i) Q
 |[],i,h,f,a=>by
  have g:i=s.length:=drop_nil h f;rw[h]at a;subst g;exact zj (AU ..) (zn (by simp)<|zg<|a _)
 |c::r,i,h,f,a=>by
  obtain⟨m,j,l⟩:=drop_cons (d:=0) h;have e3:zi .i64 ((i:Int)+1)=((i+1:Nat):Int):=by grind [wr]
  rw[T6 h]at a;refine zj (AU ..) (zc ah ?_);rw[zh,j,e3];refine zc ah (zk (fun d=>?_) (fun d=>zc ah<|zk (fun e=>?_)<|fun e=>?_))
  ·grind [BI,zg]
  ·have b:BI c=false:=by unfold BI;grind
   simp_all
  ·have b:BI c=true:=by grind [BI]
   rw[b,yv]at a;exact A8 s k r (i+1) l m a
theorem okU[Srt]:Af Bb 105 SU:=by
 refine BL EA<|fun(s:Rd) a=>?_;have a:s.length<=9223372036854775807:=w6 a;have f:∀b ob,b=AV s->Ac SU s (.bl b) ob:=fun b ob i=>zx rfl rfl i
 refine zr (Aj s) ?_;conv=>zeta
 cases s with
 |nil=>exact zc rfl (zg<|f _ _ rfl)
 |cons c r=>
  have j:(c::r).getD 0 0=c:=rfl;rw[j];refine zn (by rfl) (zk (fun d=>zc (by simp)<|zk (fun e=>zg<|f _ _ ?_)<|fun e=>?_)<|fun d=>?_)
  ·have g:c=48:=by
    exact z7.1 ah
   grind [AV]
  ·have g:c≠48:=by rintro rfl;grind
   refine Aq (c::r) a (c::r) 0 rfl ae (fun ob=>f _ _ ?_);grind [AV]
  ·have h:r=[]:=by
    grind
   subst h;refine A8 [c] a [c] 0 rfl ae (fun ob=>f _ _ ?_);grind [AV]
end T105
theorem mS[Srt]:Dn sP:=Aa T128.ok AO
namespace T109
theorem OB{v:Int}(a: -9223372036854775808<=v/\v<9223372036854775808):∃q d:Nat,Ag v=d+1000000000*q/\d<1000000000/\zi .i64 (Int.tdiv v 1000000000)=(if v<0 then -(q:Int)else q)/\Int.tmod v 1000000000=(if v<0 then -(d:Int)else d):=by
 refine⟨v.natAbs/1000000000,v.natAbs % 1000000000,by rw[Ai];omega,by omega,?_,?_⟩
 ·by_cases h:v<0
  ·have:=Int.neg_tdiv (-v) 1000000000;rw[Int.neg_neg]at this;rw[this,yd ae,wd h,wr _ ae ae];omega
  ·rw[yd ae,wc h,wr _ ae ae];omega
 ·by_cases h:v<0
  ·have:=Int.neg_tmod (-v) 1000000000;grind
  grind
theorem A8[Srt](neg:Bool)(D:Int)(h:∀(w:List Int) ob,Av zd w->ze zd w=D->Q (.agg [.dat .bool<|Cy neg w,.dat li<|Aw w]) ob):∀(f:Nat) (v:Int) (o1:List Int),Ag v<f->(-9223372036854775808<=v/\v<9223372036854775808)->o1.length<=100->(Ag v≠0->Ag v*1000000000^o1.length<=9223372036854775808)->Av zd o1->ze zd o1+(zd:Int)^o1.length*Ag v=D->Ends sP (L2 v o1.length neg o1) Q
 |0,v,o1,n,a,m,k,e,i=>by
  have:=AK v;omega
 |f+1,v,o1,n,a,m,k,e,i=>by
  obtain⟨q,d,s1,s2,s3,s4⟩:=OB a;by_cases h0:v=0
  ·subst h0;have r:Ag 0=0:=rfl;refine zj (AU ..)<|zn rfl ?_;grind [zc,zg]
  ·have l:Ag v≠0:=by rw[Ai];omega
   have b:o1.length<=10:=by
    rcases Nat.lt_or_ge 10 o1.length with g|g
    ·have j:(1000000000:Int)^11<=1000000000^o1.length:=AP af g;have o:=yh (show 1<=Ag v by omega) (show(0:Int)<=1000000000^o1.length by omega);omega
    omega
   have eq:Ag (if v<0 then -(q:Int)else q)=q:=by grind [Ai]
   have go:Ends sP (L2 (if v<0 then -(q:Int)else q) (jc o1.length 1) neg<|o1++[(d:Int)]) Q:=by
    have:=A8 neg D h f (if v<0 then -(q:Int)else q) (o1++[(d:Int)]) ae (by grind [Ai]) ah (fun _=>by
     rw[eq,zq];show(q:Int)*1000000000^(o1.length+1)<=_;rw[yo, <-qi,Int.mul_right_comm];have j:=yh (show(q:Int)*1000000000<=Ag v by omega) (show(0:Int)<=1000000000^o1.length from ah);omega) (Fb e ae) (by
     rw[eq,Ca,zq];show ze zd o1+(zd:Int)^o1.length*(d:Int)+(zd:Int)^(o1.length+1)*(q:Int)=D;grind)
    grind
   refine zj (AU ..) (zc ah<|zc rfl ?_);refine zk (fun c=>zc ah<|zc rfl ?_) (fun c=>zc ah<|zc rfl ?_)
   ·have p:zi .i64 (0 - -(d:Int))=(d:Int):=by grind [wr]
    grind
   grind
theorem ok[Srt]:Af Bb 109 Jw:=by
 refine BL mS<|fun(v:Int) a=>?_;have a:=Ff (n:=v) a;have fin:∀(w:List Int) ob,Av zd w->ze zd w=Ag v->Ac Jw v (.agg [.dat .bool<|Cy (decide (v<0)) w,.dat li<|Aw w]) ob:=by
  intro w ob g f;refine zx rfl rfl ?_;have:=LO (neg:=decide (v<0)) g f;have e:(if decide (v<0)=true then -Ag v else Ag v)=v:=by
   rw[Ai];grind
  rw[e]at this;exact this
 obtain⟨q,d,s1,s2,s3,s4⟩:=OB a;refine zr (Aj v) ?_;conv=>zeta
 by_cases h0:v=0
 ·subst h0;exact zj (Am ..) (zn rfl (zc rfl (zg<|fin [] _ (fun x b=>by cases b) rfl)))
 ·have eq:Ag (if v<0 then -(q:Int)else q)=q:=by grind [Ai]
  have go:Ends sP (L2 (if v<0 then -(q:Int)else q) 1 (decide (v<0)) [(d:Int)]) (Ac Jw v):=by
   refine A8 (decide (v<0)) (Ag v) fin (q+1) _ [(d:Int)] ae (by grind [Ai]) (by simp) (fun _=>?_) (fun x b=>by grind) ?_
   ·grind [Ai]
   grind [Ed]
  refine zj (Am ..) (zc ah<|zc rfl ?_);refine zk (fun c=>zc rfl (zc rfl ?_))<|fun c=>zc rfl (zc rfl ?_)
  ·have h:zi .i64 (0 - -(d:Int))=(d:Int):=by grind [wr]
   grind
  grind
end T109
theorem nI[Srt]:Dn XK3:=Aa T104.ok<|Aa T124.ok<|Aa T109.ok AO
theorem BE:∀(s:Rd),AB s=s.take (AB s).length/\(Bw s=true->(AB s).length<s.length/\zu s=s.drop ((AB s).length+1))/\(Bw s=false->AB s=s/\zu s=[])
 |[]=>⟨rfl,(fun h=>(by cases h)),fun _=>⟨rfl,rfl⟩⟩
 |c::r=>by
  obtain⟨f,d,e⟩:=BE r;have a:zu (c::r)=if c=47 then r else zu r:=by
   unfold zu;grind
  have b:Bw (c::r)=(decide (c=47)||Bw r):=by
   rfl
  rw[DT,a,b];grind
theorem T74.ok[Srt]:Af Bb 74 Nt:=by
 refine BL nI<|fun(a:Rd) d=>?_;have d:(C1 (AB a)&&C1 (zu a)&&decide (a.length<=5999))=true:=d;rw[zf,zf,w5]at d;obtain⟨⟨e,h⟩,i⟩:=d;obtain⟨c1,c2,c3⟩:=BE a;have es:AW a=((AB a).length:Int):=rfl;refine zr (T74.Aj a) (zc ah<|zk (fun c=>?_)<|fun c=>?_)
 ·have b:Bw a=false:=by
   grind
  obtain⟨f,g⟩:=c3 b;rw[f]at e;refine zc e<|zc rfl (zg<|zx rfl rfl ?_);show((E6 a,DL a),(false,Sp.rW 1))=((BF a,By a),(Bl a,Bh a));unfold BF By Bl Bh Bf AS E6 DL;rw[f,b];rfl
 ·have b:Bw a=true:=by
   grind
  obtain⟨f,g⟩:=c2 b;have e1:zi .i64 (((AB a).length:Int)+1)=(((AB a).length+1:Nat):Int):=by grind [wr]
  have e2:(a.drop<|(AB a).length+1).take (ym a.length<|(AB a).length+1)=a.drop ((AB a).length+1):=zm (by simp);rw[es,e1,zh,zh,e2, <-c1, <-g];refine zc ah (zc ah<|zc e<|zc h<|zg<|zx rfl rfl ?_);show((E6<|AB a,DL<|AB a),(E6<|zu a,DL<|zu a))=((BF a,By a),(Bl a,Bh a));grind [BF,By,Bl,Bh,Bf,AS,E6,DL]
theorem W4[Srt]:Dn UM:=Aa T104.okU (by grind [Aa,T105.okU,T74.ok,T106.ok,Nc])
namespace T48
theorem qF{g:Int}(h0:0<=g):BA g=[1]↔g=1:=by
 constructor
 ·intro h;have:=C3 (b:=zd) af h0;have h:Sp.dg zd g=[1]:=h;rw[h]at this;rw[<-this];rfl
 ·rintro rfl;rfl
theorem BR[Srt](s:Rd)(n:Al (AB s)=true)(b:Bw s=true->Al (zu s)=true)(r:(AB s).length<=600)(p:(zu s).length<=600)(w:s.length<=5999)
  (a:∀ob,Q (.dat i64<|if Bw s=true/\qj (AA 0<|AB s) (AA 0<|zu s)≠1 then 1 else 0) ob):Ends UM (L4 s<|AW s) Q:=by
 obtain⟨A,y,z⟩:=BE s;have es:AW s=((AB s).length:Int):=rfl;refine zj (CA ..) ?_;conv=>zeta
 refine zk (fun c=>?_)<|fun c=>?_
 ·have e:Bw s=true:=by
   grind
  have b:=b e;obtain⟨r1,r2⟩:=Ln n ae;obtain⟨r3,r4⟩:=Ln b ae;have f:=Bd n;have j:=Bd b;have l:∀k:Nat,(10:Int)^k<=(zd:Int)^k:=by
   intro k;induction k with
   |zero=>simp
   |succ k B=>
    grind
  have m:AA 0 (AB s)<(zd:Int)^600:=zt f.2 (Int.le_trans (l _)<|AP af r);have o:AA 0 (zu s)<(zd:Int)^600:=zt j.2 (Int.le_trans (l _) (AP af p));have e1:By s=BA (AA 0<|AB s):=by
   grind [By,Bf,Sp.rW,Ai]
  have e2:Bh s=BA (AA 0<|zu s):=by
   unfold Bh AS Sp.rW;rw[wd e,r4,show Ag (AA 0<|zu s)=AA 0 (zu s)by rw[Ai];omega]
  obtain⟨n1,_,v1,l1⟩:=Fp (k:=600) f.1 m af;obtain⟨n2,_,v2,l2⟩:=Fp (k:=600) j.1 o af;have rat:H5 s=true:=by
   grind [H5]
  rw[e1,e2];refine zc rat (zj (FO ..)<|zc ah ?_);have q:Cg (BA<|AA 0<|AB s) (BA<|AA 0<|zu s)=BA (qj (AA 0<|AB s)<|AA 0<|zu s):=by
   grind [Cg]
  rw[q];obtain⟨t,_⟩:=tA f.1 j.1 m o;generalize qj (AA 0<|AB s) (AA 0<|zu s)=g at*;have u:=qF t;by_cases h:g=1
  ·rw[wc ae]at a;rw[u.2 h];exact zj (Lr ..)<|zn rfl (zc rfl (zn rfl (zg<|a _)))
  ·rw[wd ⟨e,h⟩]at a;have i:BA g≠[1]:=ah;refine zj (Lr ..)<|zk (fun d=>zg<|a _)<|fun d=>?_;have d:(BA g).length=1:=by
    grind
   obtain⟨x,v⟩:=qn.1 d;rw[v]at i ⊢;exact zc rfl (by grind [zc,zg])
 ·rw[wc ah]at a;exact zg<|a _
theorem A8[Srt](s:Rd)(k:Al (AB s)=true)(h:s.length<=9223372036854775807)(a:∀ob,Q (.dat i64<|T61.E (AB s) (zu s) (Bw s)<|!Bw s||(AV (zu s)&&decide (zu s≠[48])&&decide (zu s≠[49]))) ob):Ends UM (L2 s<|AW s) Q:=by
 obtain⟨l,n,i⟩:=BE s;have es:AW s=((AB s).length:Int):=rfl;have g:=T61.Ez s;have big:(Bw s=true->Al (zu s)=true)->(∀ob,Q (.dat i64<|T61.E (AB s) (zu s) (Bw s) true) ob)->Ends UM (L3 s<|AW s) Q:=by
  intro j a;unfold T61.E at a;rw[wc af]at a;have b:s.length=(AB s).length+(if Bw s=true then 1+(zu s).length else 0):=by
   grind
  refine zj (BH ..) ?_;conv=>zeta
  rw[es,wr ((s.length:Int)-((AB s).length:Int)) ae ae,wr _ ae ae];refine zk (fun c=>?_)<|fun c=>zk (fun d=>?_)<|fun d=>?_
  ·have c:=w6 c;rw[wd<|ae]at a;exact zg<|a _
  ·have:600<(zu s).length:=ah
   rw[wd<|.inr this]at a;exact zg<|a _
  ·grind [BR]
 refine zj (AU ..) ?_;conv=>zeta
 cases m:Bw s with
 |false=>
  grind [zn]
 |true=>
  have e1:zi .i64 (((AB s).length:Int)+1)=(((AB s).length+1:Nat):Int):=by grind [wr]
  have bad:(!true||(AV (zu s)&&decide (zu s≠[48])&&decide (zu s≠[49])))=false->∀ob,Q (.dat i64 1) ob:=by
   grind [T61.E]
  refine zc ah (zc ah<|zc ah<|zk (fun d=>zg<|bad ?_ _)<|fun d=>zc ah (zk (fun e=>zg<|bad ?_ _)<|fun e=>zc ah<|zk (fun f=>zg<|bad ?_ _)<|fun f=>?_))
  ·grind
  ·grind
  ·grind
  grind [Hd]
theorem Aq[Srt](a s:Rd)(j:s=A6 a)(m:a.length<=9223372036854775807)(k:∀ob,Q (.dat i64<|AH a) ob):Ends UM (L1 a s) Q:=by
 obtain⟨g,p,n⟩:=BE s;have es:AW s=((AB s).length:Int):=rfl;have i:s.length<=a.length:=by grind [T61.XH]
 have l:AH a=T61.E (AB s) (zu s) (Bw s) (AV (AB s)&&(!qy a||decide (AB s≠[48]))&&(!Bw s||(AV (zu s)&&decide (zu s≠[48])&&decide (zu s≠[49])))):=by rw[j];rfl
 have tk:s.take (AB s).length=AB s:=g.symm;refine zj (Am ..) ?_;conv=>zeta
 rw[show AW s=((AB s).length:Int)from rfl,zh,tk];refine zc ah (zc ah<|zc ah<|zk (fun d=>?_)<|fun d=>?_)
 ·grind [zg,T61.E]
 ·have d:AV (AB s)=true:=ah
  have o:=(Hd d).2;have c:a.length≠0:=by
   grind [AV]
  refine zc ah (zk (fun e=>zc ah<|zk (fun f=>?_)<|fun f=>?_)<|fun e=>?_)
  ·have b:qy a=true:=by
    refine w4<|z7.1 ?_;grind
   grind [zg,T61.E]
  ·grind [A8]
  ·have b:qy a=false:=by
    refine w8<|fun h=>?_;rw[h]at e;grind
   grind [A8]
theorem okU[Srt]:Af Bb 48 Rp:=by
 refine BL W4<|fun(a:Rd) b=>?_;have b:a.length<=9223372036854775807:=w6 b;have e:∀ob,Ac Rp a (.dat i64<|AH a) ob:=fun ob=>zx rfl rfl rfl
 refine zr (Aj a) ?_;conv=>zeta
 cases a with
 |nil=>exact zn rfl (Aq [] [] rfl b e)
 |cons c r=>
  have g:(c::r).getD 0 0=c:=rfl;rw[g];refine zc (by simp) (zc (by simp)<|zk (fun d=>zc (by simp) ?_)<|fun d=>?_)
  ·have f:c=45:=by
    exact z7.1 ah
   simp_all [Aq,A6]
  ·have f:c≠45:=by rintro rfl;grind
   simp_all [Aq,A6]
theorem ok[Srt]:Af Bb 48 FZ:=by
 refine BL W4<|fun(a:Rd) f=>?_;have f:a.length<=1000000:=w6 f;have b:∀ob,Ac FZ a (.dat i64<|AH a) ob:=fun ob=>zx rfl rfl rfl
 refine zr (Aj a) ?_;conv=>zeta
 cases a with
 |nil=>exact zn rfl (Aq [] [] rfl ae b)
 |cons c r=>
  have h:(c::r).getD 0 0=c:=rfl;rw[h];refine zc (by simp) (zc (by simp)<|zk (fun d=>zc (by simp) ?_)<|fun d=>?_)
  ·have g:c=45:=by
    exact z7.1 ah
   have e:(ql 1 (c::r)).take (ym (c::r).length 1)=r:=by simp
   rw[e];exact Aq (c::r) r (by simp_all [A6]) ae b
  ·have g:c≠45:=by rintro rfl;grind
   exact Aq (c::r) (c::r) (by simp_all [A6]) ae b
end T48
theorem Gq[Srt]:Dn lU:=
 Aa T158.ok (Aa T157.ok<|Aa T173.ok<|Aa T117.ok<|Aa T97n.ok<|Aa T102.ok<|Aa T96.ok<|Aa T118.ok<|Aa T92.ok<|Aa T94.ok AO)
theorem EF{a:AF}(h:P7 a=true):Bi a=true/\Ag (zl a)<(Ao:Int)^4000:=by
 unfold P7 at h;rw[zf,w5]at h;refine⟨?_,Ia h.1 h.2 af⟩;unfold Bi;exact Ad h.1 (w4 ae)
theorem Ld{x y:Int}(a:Ag x<(Ao:Int)^4000)(d:Ag y<(Ao:Int)^4000):Ag (x*y)<(Ao:Int)^8000:=by
 rw[Jt];have h0:=AK x;have c:=Bc (b:=Ao) af 4000;have a1:=zo (z6 d) h0;have a2:=z8 a c;have a3:(Ao:Int)^4000*(Ao:Int)^4000=(Ao:Int)^8000:=(Int.pow_add _ 4000 4000).symm;rw[a3]at a2;exact qd a1 a2
theorem AcD{x:Int}(h:x<(Ao:Int)^8000):x<(Ao:Int)^9000:=zt h (AP af af)
theorem SB{x y:Int}(b:Ag x<(Ao:Int)^4000)(a:Ag y<(Ao:Int)^4000):Bi (CN<|x*y)=true:=DG<|AcD<|Ld b a
theorem Aan{a b:AF}(e:Bi a=true)(f:Bi b=true)(h:Ag (zl a+zl b)<(Ao:Int)^9000):Bi (Eg a b)=true:=by
 have d:=Sf e f;unfold Eg at d ⊢;split
 ·rename_i c;rw[wd c]at d;unfold Bi;exact Ad d rfl
 ·exact DG h
theorem rM(n:Nat):(2:Int)*(Ao:Int)^n<=(Ao:Int)^(n+1):=by
 rw[yo,zw];exact zo af (z6 (Bc (b:=Ao) af n))
theorem eQ{x y:Int}(d:Ag x<(Ao:Int)^8000)(c:Ag y<(Ao:Int)^8000):Ag (x+y)<(Ao:Int)^9000:=by
 have a:=rM 8000;have b:(Ao:Int)^8001<=(Ao:Int)^9000:=AP af af;have a:(2:Int)*(Ao:Int)^8000<=(Ao:Int)^8001:=a;generalize (Ao:Int)^8000=p at*;generalize (Ao:Int)^8001=q at*;generalize (Ao:Int)^9000=r at*;rw[Ai]at*;omega
theorem Uh(a:AF):decide (IZ a<0)=decide (zl a<0):=by
 unfold IZ UT;rw[qu,w5,w5];split
 ·omega
 ·split<;>omega
theorem YG{n d:AF}(h:JZ n d=true):Bi n=true/\Bi d=true/\zl d≠0:=by
 unfold JZ at h;rw[zf,zf,w5]at h;exact⟨h.1.1,h.1.2,h.2⟩
theorem T41.ok[Srt]:Af Bb 41 YE:=by
 refine BL Gq<|fun(a:Rd) b=>?_;have b:(C1 (AB a)&&C1 (zu a)&&decide (a.length<=5999))=true:=b;rw[zf,zf,w5]at b;obtain⟨⟨d,e⟩,f⟩:=b;refine zr (T41.Aj a) (zc (Ad (w4 rfl)<|w4 ae)<|zk (fun c=>zc d<|zc rfl (zg<|zx rfl rfl ?_))<|fun c=>zc d<|zc e<|zg<|zx rfl rfl ?_)
 ·have c:Bw a=false:=by simpa using c
  show((Dc<|AB a,Da<|AB a),((1:Int),BV 1))=((jQ a,jF a),(VI a,WN a));unfold VI WN AS;rw[c,NA];rfl
 ·have c:Bw a=true:=by simpa using c
  show((Dc<|AB a,Da<|AB a),(Dc<|zu a,Da<|zu a))=((jQ a,jF a),(VI a,WN a));unfold VI WN AS;rw[c];rfl
theorem T159.ok[Srt]:Af Bb 159 cIQ:=by
 refine BL Gq<|fun(i:(Int×List Int)×(Int×List Int)) hi=>?_;obtain⟨a,b⟩:=i;obtain⟨ha,hb,h0⟩:=YG (n:=a) (d:=b) hi;refine zr (T159.Aj a b)<|zc (B6 hb).1 ?_;rw[Uh];refine zk (fun c=>zc (B6 ha).1<|zc (B6 hb).1<|zj (T159.Am ..)<|zc ?_<|zg<|zx rfl rfl ?_)<|fun c=>zj (T159.Am ..)<|zc ?_<|zg<|zx rfl rfl ?_
 ·have c:zl b<0:=w6 c;have:=Ic b;exact Ad (Ad (U0 ha)<|U0 hb) (w4<|by show 0<zl (C0 b);omega)
 ·have c:zl b<0:=w6 c;show FI (C0 a) (C0 b)=Sp.iQ a b;unfold Sp.iQ;rw[wd c]
 ·have c:¬zl b<0:=w7 c;exact Ad (Ad ha hb) (w4<|by show 0<zl b;omega)
 ·have c:¬zl b<0:=w7 c;show FI a b=Sp.iQ a b;unfold Sp.iQ;rw[wc c]
theorem oZ[Srt]:Dn wH:=Aa T158.ok<|Aa T157.ok<|Aa T117.ok<|Aa T159.ok AO
theorem sS{n d:AF}(a:Bi d=true)(h0:zl d≠0):Bi (Sp.gR n d)=true/\zl (Sp.gR n d)=(yz (zl n) (zl d):Int)/\0<zl (Sp.gR n d):=by
 have e:zl (Sp.gR n d)=(yz (zl n) (zl d):Int):=by
  show zl (CL _,CH _)=_;rw[KN,FN]
 have f:0<yz (zl n) (zl d):=Int.gcd_pos_of_ne_zero_right _ h0;refine⟨FR<|DG ?_,e,by rw[e];omega⟩;rw[FN,Ai,qe];have c:=bounds a;rw[Ai]at c;have b:yz (zl n) (zl d)<=(zl d).natAbs:=Nat.gcd_le_right _ ae;omega
namespace T95
theorem Aq[Srt](g z2:Int)(n d:AF)(f:Bi n=true)(b:Bi d=true)(h0:zl d≠0)(a:∀ob,Q (.agg [.dat i64 (LI n d).1.1,.dat (.nlist u64) (LI n d).1.2,.dat i64 (LI n d).2.1,.dat (.nlist u64) (LI n d).2.2]) ob):
  Ends wH (L1 g z2 d.1 d.2 n.1 n.2) Q:=by
 obtain⟨h,_,l⟩:=sS (n:=n) b h0;have next:DQ d=false->Ends wH (.ite (Bi (n.1,n.2)&&Bi (d.1,d.2)) (L2 (ME (n.1,n.2) (d.1,d.2)) (MP (n.1,n.2) (d.1,d.2)) g z2 d.1 d.2 n.1 n.2) .fail) Q:=by
  intro j;unfold LI at a;rw[wc<|by rw[j];decide]at a;have k:∀x:AF,Bi x=true->JZ x (Sp.gR n d)=true:=fun x i=>by unfold JZ;exact Ad (Ad i h) (w4 ae)
  exact zc (Ad f b)<|zj (AU ..)<|zc (k n f)<|zc (k d b)<|zg<|a _
 refine zj (Am ..)<|zk (fun c=>zk (fun e=>zg ?_)<|fun e=>next ?_)<|fun c=>next ?_
 ·have c:d.2=[]:=by simpa using c
  have e:d.1=1:=by simpa using e
  unfold LI at a;rw[wd<|by unfold DQ;simp[c,e]]at a;exact a _
 ·unfold DQ;rw[Bool.and_eq_false_iff];right;simpa using e
 ·unfold DQ;rw[Bool.and_eq_false_iff];left;have:d.2≠[]:=by rintro k;rw[k]at c;simp at c
  simpa using this
theorem ok[Srt]:Af Bb 95 cV:=by
 refine BL oZ<|fun(i:(Int×List Int)×(Int×List Int)) hi=>?_;obtain⟨n,d⟩:=i;obtain⟨hn,hd,h0⟩:=YG (n:=n) (d:=d) hi;have vn:=Ic d;refine zr (Aj n d)<|zc (B6 hd).1 ?_;rw[Uh];refine zk (fun c=>zc (B6 hn).1<|zc (B6 hd).1<|Aq 0 0 (C0 n) (C0 d) (U0 hn) (U0 hd) ae<|fun ob=>zx rfl rfl ?_)<|fun c=>Aq 0 0 n d hn hd h0<|fun ob=>zx rfl rfl ?_
 ·have c:zl d<0:=w6 c;show LI (C0 n) (C0 d)=U5 n d;unfold U5;rw[wd c]
 ·have c:¬zl d<0:=w7 c;show LI n d=U5 n d;unfold U5;rw[wc c]
end T95
theorem T101.ok[Srt]:Af Bb 101 Um:=by
 refine BL Gq<|fun(a:(Int×List Int)×(Int×List Int)) _=>?_;refine zr (T101.Aj a)<|zk (fun c=>zg<|zx rfl rfl ?_)<|fun c=>zg<|zx rfl rfl ?_
 ·have c:a.2.2=[]:=by simpa using c
  show(a.2.1==(1:Int))=DQ a.2;unfold DQ;rw[w4 c,yv];rfl
 ·have c:a.2.2≠[]:=by rintro k;rw[k]at c;simp at c
  show false=DQ a.2;unfold DQ;rw[w8 c,Bool.false_and]
theorem T93.ok[Srt]:Af Bb 93 iV:=by
 refine BL Gq<|fun(a:Int×List Int) _=>?_;exact zr (T93.Aj a)<|zc rfl (zg<|zx rfl rfl rfl)
theorem T103.ok[Srt]:Af Bb 103 tV:=by
 refine BL Gq<|fun(a:(Int×List Int)×(Int×List Int)) h=>?_;exact zr (T103.Aj a)<|zc h<|zg<|zx rfl rfl rfl
theorem T64.ok[Srt]:Af Bb 64 fH:=by
 refine BL Gq<|fun(i:((Int×List Int)×(Int×List Int))×((Int×List Int)×(Int×List Int))) c=>?_;obtain⟨a,b⟩:=i;have c:((P7 a.1&&P7 a.2)&&(P7 b.1&&P7 b.2))=true:=c;rw[zf,zf,zf]at c;obtain⟨⟨a1,a2⟩,b1,b2⟩:=c;obtain⟨a1,la1⟩:=EF a1;obtain⟨a2,la2⟩:=EF a2;obtain⟨b1,lb1⟩:=EF b1;obtain⟨b2,lb2⟩:=EF b2;refine zr (T64.Aj a b)<|zc (Ad a1 b2)<|zc (Ad b1 a2)<|zc (Ad (SB la1 lb2)<|SB lb1 la2)<|zg<|zx rfl rfl ?_;show Cb (zl<|E3 a.1 b.2) (zl<|E3 b.1 a.2)=Cb _ _;rw[Dm,Dm]
theorem FD{a:Ah}(h:qz a=true):Bi a.1=true/\Bi a.2=true/\Ag (zl a.1)<(Ao:Int)^4000/\Ag (zl a.2)<(Ao:Int)^4000/\0<zl a.2:=by
 unfold qz Sp.D2 at h;rw[zf,zf,w5]at h;obtain⟨a1,b⟩:=EF h.1.1;obtain⟨a2,b2⟩:=EF h.1.2;exact⟨a1,a2,b,b2,h.2⟩
theorem Rq[Srt]:Dn xO:=Aa T101.ok<|Aa T93.ok<|Aa T102.ok<|Aa T96.ok<|Aa T95.ok AO
theorem SM{n d:AF}(b:Bi n=true)(a:Bi d=true)(h0:zl d≠0):JZ n d=true:=by
 unfold JZ;exact Ad (Ad b a)<|w4 h0
theorem Na{a b:AF}(c:Ag (zl a)<(Ao:Int)^4000)(d:Ag (zl b)<(Ao:Int)^4000):Bi (E3 a b)=true:=SB c d
theorem T42.ok[Srt]:Af Bb 42 Xf:=by
 refine BL Rq<|fun(i:((Int×List Int)×(Int×List Int))×((Int×List Int)×(Int×List Int))) c=>?_;obtain⟨a,b⟩:=i;have c:(qz a&&qz b)=true:=c;rw[zf]at c;obtain⟨a1,a2,la1,la2,a0⟩:=FD c.1;obtain⟨b1,b2,lb1,lb2,b0⟩:=FD c.2;have d:zl (E3 a.2 b.2)≠0:=by rw[Dm];exact yb<|qh a0 b0
 exact zr (T42.Aj a b)<|zc (Ad a1 b1)<|zc (Ad a2 b2)<|zc (SM (Na la1 lb1) (Na la2 lb2) d)<|zg<|zx rfl rfl rfl
namespace T46
theorem Aq[Srt](j z2:Int)(a b:Ah)(e:qz a=true)(k:qz b=true)(g:∀ob f,f=U5 (Eg (E3 a.1 b.2)<|E3 b.1 a.2) (E3 a.2 b.2)->Q (.agg [.dat i64 f.1.1,.dat (.nlist u64) f.1.2,.dat i64 f.2.1,.dat (.nlist u64) f.2.2]) ob):
  Ends xO (L1 j z2 b.1.1 b.1.2 b.2.1 b.2.2 a.1.1 a.1.2 a.2.1 a.2.2) Q:=by
 obtain⟨a1,a2,d,c,a0⟩:=FD e;obtain⟨b1,b2,lb1,lb2,b0⟩:=FD k;have h:zl (E3 a.2 b.2)≠0:=by rw[Dm];exact yb<|qh a0 b0
 have i:Bi (Eg (E3 a.1 b.2)<|E3 b.1 a.2)=true:=Aan (Na d lb2) (Na lb1 c) (by rw[Dm,Dm];exact eQ (Ld d lb2)<|Ld lb1 c);exact zj (Am ..)<|zc (Ad a1 b2)<|zc (Ad b1 a2)<|zc (Ad (Na d lb2)<|Na lb1 c)<|zc (Ad a2 b2)<|zc (SM i (Na c lb2) h)<|zg<|g _ _ rfl
theorem ok[Srt]:Af Bb 46 Q1:=by
 refine BL Rq<|fun(i:((Int×List Int)×(Int×List Int))×((Int×List Int)×(Int×List Int))) e=>?_;obtain⟨a,b⟩:=i;have e:(qz a&&qz b)=true:=e;rw[zf]at e;obtain⟨a1,a2,la1,la2,a0⟩:=FD e.1;obtain⟨b1,b2,lb1,lb2,b0⟩:=FD e.2;have g:¬(DQ a.2=true/\DQ b.2=true)->Ends xO (L1 0 0 b.1.1 b.1.2 b.2.1 b.2.2 a.1.1 a.1.2 a.2.1 a.2.2) (Ac Q1 (a,b)):=fun j=>
  Aq 0 0 a b e.1 e.2 (fun ob f h=>zx rfl rfl (by
   show f=Gt a b;unfold Gt;rw[wc j];exact h))
 refine zr (Aj a b) (zc rfl (zk (fun c=>zc rfl (zk (fun d=>zc (Ad a1 b1)<|zc rfl (zg<|zx rfl rfl ?_))<|fun d=>g (fun k=>by have:=k.2;rw[show DQ b.2=false from d]at this;cases this)))<|fun c=>g (fun k=>by have:=k.1;rw[show DQ a.2=false from c]at this;cases this)));show Sp.fWh (Eg a.1 b.1)=Gt a b;unfold Gt;rw[wd ⟨c,d⟩]
end T46
theorem T98.ok[Srt]:Af Bb 98 tD:=by
 refine BL Rq<|fun(a:(Int×List Int)×(Int×List Int)) b=>?_;have b:(qz a&&decide (zl a.1≠0))=true:=b;rw[zf,w5]at b;obtain⟨a1,a2,d,c,a0⟩:=FD b.1;exact zr (T98.Aj a)<|zc (SM a2 a1 b.2)<|zg<|zx rfl rfl rfl
theorem RT{a:AF}(h:Du a=true){k:Nat}(b:Ag (zl a)<(Ao:Int)^k):a.2.length<=k:=by
 rcases OY h with⟨h1,_⟩|h1
 ·rw[h1];exact Nat.zero_le _
 ·rw[<-h1];exact Mj (AK _) b
theorem Gi{a:AF}(h:Du a=true)(b:Ag (zl a)<(Ao:Int)^4000):P7 a=true:=by
 unfold P7;exact Ad h<|w4<|RT h b
theorem Yu{a:AF}(h:Du a=true)(b:Ag (zl a)<(Ao:Int)^9000):Bi a=true:=by
 unfold Bi;exact Ad h<|w4<|RT h b
structure Fc(f:Ah)(q:Rat):Prop where
 n:Du f.1=true
 d:Du f.2=true
 vn:zl f.1=q.num
 vd:zl f.2=(q.den:Int)
def Kw(k:Nat)(q:Rat):Prop:=Ag q.num<(Ao:Int)^k/\(q.den:Int)<(Ao:Int)^k
theorem Fc.den_pos{f:Ah}{q:Rat}(h:Fc f q):0<zl f.2:=by
 rw[h.vd];have:=q.den_pos;omega
theorem Fc.CZ{f:Ah}{q:Rat}(h:Fc f q)(a:Kw 4000 q):qz f=true:=by
 unfold qz Sp.D2;have b:Ag (zl f.2)=(q.den:Int):=by rw[h.vd,Ai,qe]
 exact Ad (Ad (Gi h.n<|by rw[h.vn];exact a.1)<|Gi h.d<|by rw[b];exact a.2)<|w4 h.den_pos
theorem Vf{x y:Int}:Ag (x/y)<=Ag x:=by
 rw[Ai,Ai];have a:=Int.natAbs_ediv_le_natAbs x y;omega
theorem eV{a b:AF}(d:0<zl b):zl (FI a b)=zl a/zl b:=by
 unfold FI;generalize k:zl a=x;generalize zl b=y at d;have g:=Int.mul_ediv_add_emod (Ag x) y;have i:=qt (Ag x)<|yb d;have j:=qc (Ag x) d;split
 ·next c=>
  rw[fF,Cm,E0];obtain⟨l,f⟩:=c;symm;rw[qo d];have e:Ag x= -x:=by rw[Ai];omega
  rw[e]at g i j f ⊢;generalize -x/y=q at*;generalize -x % y=r at*;rw[Int.sub_mul,Int.neg_mul,zw q y];generalize y*q=t at*;omega
 ·next c=>
  rw[Cm];unfold Sp.sg;split
  ·next n=>
   have n:x<0:=w6 n;have f:Ag x % y=0:=qf fun h=>c ⟨n,h⟩
   symm;rw[qo d];have e:Ag x= -x:=by rw[Ai];omega
   rw[f]at g;rw[e]at g ⊢;generalize -x/y=q at*;rw[Int.neg_mul,zw q y];generalize y*q=t at*;omega
  ·next n=>
   have n:¬x<0:=fun h=>n<|w4 h
   have e:Ag x=x:=by rw[Ai];omega
   rw[e]
theorem YN{a b:AF}(e:Bi a=true)(g:0<zl b):Du (FI a b)=true:=by
 have d:=bounds e;have h:Ag (zl a)/zl b<=Ag (zl a):=Int.ediv_le_self _<|AK _;have f:0<=Ag (zl a)/zl b:=Int.ediv_nonneg (AK _)<|z6 g;unfold FI;generalize Ag (zl a)/zl b=q at*;have c:Ag q<(Ao:Int)^9000:=by
  refine qd ?_ d;rw[Ai];omega
 split
 ·exact Sf (DG<|by rw[Ip];exact c) af
 ·refine(Nl (k:=9000) ?_ ae).1;unfold Sp.sg;split
  ·rw[Ip];exact c
  ·exact c
theorem uJ{a b:AF}(c:0<zl b):zl (Sp.iQ a b)=zl a/zl b:=by
 unfold Sp.iQ;rw[wc ae];exact eV c
theorem cG{a b:AF}(d:Bi a=true)(c:0<zl b):Du (Sp.iQ a b)=true:=by
 unfold Sp.iQ;rw[wc ae];exact YN d c
theorem Td{n d:AF}(f:Bi n=true)(b:Bi d=true)(h0:0<zl d):Fc (LI n d) (yf (zl n)<|zl d):=by
 have h:(zl d).sign=1:=qp h0;have e1:(yf (zl n)<|zl d).num=zl n/(yz (zl n) (zl d):Int):=by
  rw[qv,h,qg,jg]
 have e2:((yf (zl n)<|zl d).den:Int)=zl d/(yz (zl n) (zl d):Int):=by
  rw[qw,wc<|yb h0,jg,Int.natCast_ediv];rw[Int.natAbs_of_nonneg<|z6 h0]
 obtain⟨i,g,a⟩:=sS (n:=n) b<|yb h0;unfold LI;split
 ·next c=>
  unfold DQ at c;rw[zf,w5,w5]at c;have e:zl d=1:=by rw[BG c.1];exact c.2
  refine⟨(B6 f).1,(B6 b).1,?_,?_⟩
  ·rw[e1,e,Int.gcd_one];exact(jh _).symm
  ·rw[e2,e,Int.gcd_one];exact(jh _).symm
 ·refine⟨cG f a,cG b a,?_,?_⟩
  ·rw[uJ a,e1,g]
  ·rw[uJ a,e2,g]
theorem Kq{n d:AF}(f:Bi n=true)(b:Bi d=true)(h0:zl d≠0):Fc (U5 n d) (yf (zl n)<|zl d):=by
 unfold U5;split
 ·next c=>
  have h:=Td (U0 f) (U0 b) (by rw[Ic];omega);rw[Ic,Ic]at h;have e:=Rat.divInt_mul_right (n:=zl n) (d:=zl d) (a:= -1) af;rw[Int.mul_neg,yt,Int.mul_neg,yt]at e;rw[e]at h;exact h
 ·exact Td f b ae
theorem Kw.ZW{k:Nat}{f:Ah}{q:Rat}(h:Fc f q)(a:Kw k q):Ag (zl f.1)<(Ao:Int)^k/\Ag (zl f.2)<(Ao:Int)^k:=by
 rw[h.vn,h.vd];refine⟨a.1,?_⟩;rw[Ai,qe];exact a.2
theorem Fc.eqd{f:Ah}{q:Rat}(h:Fc f q):yf (zl f.1) (zl f.2)=q:=by
 rw[h.vn,h.vd];exact yr q
theorem Fc.neg{f:Ah}{q:Rat}(h:Fc f q)(b:Kw 4000 q):Fc (zF f) (-q):=by
 have a:=Kw.ZW h b;have c:=Wi (k:=4000) h.n ae ae<|RT h.n a.1;exact⟨c.1,h.d,by show zl (C0 f.1)=_;rw[Ic,h.vn,Rat.neg_num],by show zl f.2=_;rw[h.vd,Rat.neg_den]⟩
theorem Kw.neg{k:Nat}{q:Rat}(h:Kw k q):Kw k (-q):=by
 unfold Kw;rw[Rat.neg_num,Rat.neg_den,Ip];exact h
theorem Fc.mul{f g:Ah}{p q:Rat}(e:Fc f p)(c:Fc g q)(sp:Kw 4000 p)(i:Kw 4000 q):Fc (JD f g) (p*q):=by
 have a:=Kw.ZW e sp;have b:=Kw.ZW c i;have h:=Kq (n:=E3 f.1 g.1) (d:=E3 f.2 g.2) (Na a.1 b.1) (Na a.2 b.2) (by rw[Dm];exact yb<|qh e.den_pos c.den_pos);rw[Dm,Dm, <-Rat.divInt_mul_divInt,e.eqd,c.eqd]at h;exact h
theorem Fc.add{f g:Ah}{p q:Rat}(i:Fc f p)(e:Fc g q)(sp:Kw 4000 p)(m:Kw 4000 q):Fc (Gt f g) (p+q):=by
 have a:=Kw.ZW i sp;have b:=Kw.ZW e m;have r:=EF<|Gi i.n a.1;have l:=EF<|Gi e.n b.1;unfold Gt;split
 ·next c=>
  obtain⟨j,k⟩:=c;unfold DQ at j k;rw[zf,w5,w5]at j k;have e1:(p.den:Int)=1:=by rw[<-i.vd,BG j.1];exact j.2
  have e2:(q.den:Int)=1:=by rw[<-e.vd,BG k.1];exact k.2
  have o:yf p.num 1=p:=by have:=yr p;rw[e1]at this;exact this
  have eq:yf q.num 1=q:=by have:=yr q;rw[e2]at this;exact this
  have es:p+q=yf (p.num+q.num) 1:=by
   have h:=Rat.divInt_add_divInt p.num q.num (d₁:=1) (d₂:=1) af af;rw[o,eq,yt,yt,yt]at h;exact h
  refine⟨Sf r.1 l.1,by show Du (1,BV 1)=true;rw[NA];rfl,?_,?_⟩
  ·show zl (Eg f.1 g.1)=_;rw[WJ,i.vn,e.vn,es,qv];simp
  ·show zl (1,BV 1)=_;rw[NA,Cm,es,qw];simp
 ·have h:=Kq (n:=Eg (E3 f.1 g.2)<|E3 g.1 f.2) (d:=E3 f.2 g.2) (Aan (Na a.1 b.2) (Na b.1 a.2)<|by rw[Dm,Dm];exact eQ (Ld a.1 b.2)<|Ld b.1 a.2) (Na a.2 b.2) (by rw[Dm];exact yb<|qh i.den_pos e.den_pos);rw[WJ,Dm,Dm,Dm, <-Rat.divInt_add_divInt _ _ (yb i.den_pos) (yb e.den_pos),i.eqd,e.eqd]at h;exact h
theorem Fc.sub{f g:Ah}{p q:Rat}(c:Fc f p)(b:Fc g q)(sp:Kw 4000 p)(a:Kw 4000 q):Fc (Ta f g) (p-q):=by
 rw[Rat.sub_eq_add_neg];exact c.add (b.neg a) sp a.neg
theorem Fc.inv{f:Ah}{p:Rat}(b:Fc f p)(sp:Kw 4000 p)(h0:p≠0):Fc (Uj f) p⁻¹:=by
 have a:=Kw.ZW b sp;have c:=EF<|Gi b.n a.1;have e:=EF<|Gi b.d a.2;have h:=Kq e.1 c.1 (by rw[b.vn];exact fun h=>h0<|Rat.num_eq_zero.mp h);rw[<-Rat.inv_divInt,b.eqd]at h;exact h
end Go.Pe
namespace Go.Sp
open Go.Lib
theorem NG{P:Nat->Rd->Prop}(f:∀d,d<10->P d [yc<|48+d])(c:∀a d,0<a->d<10->P a (decDigits a)->P (10*a+d) (decDigits a++[yc<|48+d]))(n:Nat):P n (decDigits n):=by
 induction n using Nat.strongRecOn with
 |_ n b=>
  by_cases h:n<10
  ·rw[decDigits_one h];exact f n h
  ·have e:n=10*(n/10)+n % 10:=ae
   have:=c (n/10) (n % 10) ae (Nat.mod_lt _ af) (b (n/10) ae);rw[<-FC _ _ ae (Nat.mod_lt _ af), <-e]at this;exact this
theorem J7:∀d:Fin 10,(yc<|48+d.1).toNat=48+d.1:=af
theorem Kx{d:Nat}(h:d<10):BI (yc<|48+d)=true/\Kf (yc<|48+d)=d:=by
 have e:(yc<|48+d).toNat=48+d:=J7 ⟨d,h⟩;unfold BI Kf;rw[e];refine⟨?_,by omega⟩;rw[w4 ae,w4 ae];rfl
theorem gL{c:UInt8}(h:BI c=true):c=yc (48+(Kf c).toNat)/\(Kf c).toNat<10:=by
 obtain⟨d,b⟩:=EM h;have a:(Kf c).toNat<10:=ae
 refine⟨z7.1 ?_,a⟩;rw[J7 ⟨(Kf c).toNat,a⟩];show c.toNat=48+(Kf c).toNat;unfold Kf at*;omega
theorem Rn(n:Nat):decDigits n≠[]:=NG (P:=fun _ l=>l≠[]) (fun _ _=>by simp) (fun _ _ _ _ _=>by simp) n
theorem CQ(n:Nat):Al (decDigits n)=true:=by
 refine NG (P:=fun _ l=>Al l=true) (fun d h=>?_) (fun a d _ h b=>?_) n
 ·unfold Al;rw[ye,(Kx h).1];rfl
 ·unfold Al at*;rw[List.all_append,b,ye,(Kx h).1];rfl
theorem HL(n:Nat):AA 0 (decDigits n)=n:=by
 refine NG (P:=fun n l=>AA 0 l=n) (fun d h=>?_) (fun a d _ h b=>?_) n
 ·show 10*0+Kf (yc<|48+d)=d;rw[(Kx h).2];omega
 ·rw[CO,b];show 10*(a:Int)+Kf (yc<|48+d)=_;rw[(Kx h).2];omega
theorem bV(n:Nat)(h0:0<n):(decDigits n).getD 0 0≠48:=by
 refine NG (P:=fun n l=>0<n->l.getD 0 0≠48) (fun d h h0=>?_) (fun a d g _ i _=>?_) n h0
 ·show yc (48+d)≠48;intro e;have:=J7 ⟨d,h⟩;have e2:=wi UInt8.toNat e;rw[show(yc<|48+d).toNat=48+d from this]at e2;have:(48:UInt8).toNat=48:=rfl;omega
 ·have f:=i g;cases b:decDigits a with
  |nil=>exact wh b<|Rn a
  |cons c r=>rw[b]at f;exact f
theorem Tq(n:Nat):AV (decDigits n)=true:=by
 unfold AV;rw[CQ,w4<|Rn n];rcases Nat.eq_zero_or_pos n with rfl|h
 ·rw[decDigits_one af];rfl
 ·rw[w4<|bV n h];rfl
theorem FJ{s:Rd}(h:AV s=true):s≠[]/\Al s=true/\(s.getD 0 0≠48\/s=[48]):=by
 unfold AV at h;rw[zf,zf,w5,Bool.or_eq_true,w5,w5]at h;exact⟨h.1.1,h.1.2,h.2⟩
theorem IK{s:Rd}(h:AV s=true)(h0:s≠[48]):0<AA 0 s:=by
 obtain⟨d,a,b⟩:=FJ h;cases s with
 |nil=>exact wh rfl d
 |cons c r=>
  have k:(c::r).getD 0 0=c:=rfl;rw[k]at b;have g:c≠48:=by
   rcases b with x|x
   ·exact x
   ·exact wh x h0
  unfold Al at a;rw[ye,zf]at a;have i:=EM a.1;have f:Al r=true:=a.2;have m:=Bd f;show 0<AA (10*0+Kf c) r;rw[Ep];have j:(0:Int)<10^r.length:=Int.pow_pos af;have n:c.toNat≠48:=fun x=>g<|z7.1 x
  have e:0<10*0+Kf c:=by show 0<10*0+((c.toNat:Int)-48);have l:0<=((c.toNat:Int)-48):=i.1;omega
  have:=qh e j;omega
theorem PX{s:Rd}(h:AV s=true):s=decDigits (AA 0 s).toNat:=by
 generalize d:s.length=n;induction n generalizing s with
 |zero=>exact wh (zz.1 d) (FJ h).1
 |succ n m=>
  obtain⟨l,b,o⟩:=FJ h;obtain⟨t,c,rfl⟩:∃t c,s=t++[c]:=⟨_,_,(yy l).symm⟩;unfold Al at b;rw[List.all_append,zf,ye,zf]at b;obtain⟨h4,h5,_⟩:=b;obtain⟨b1,b2⟩:=gL h5;obtain⟨d1,_⟩:=EM h5;rw[CO];show t++[c]=decDigits (10*AA 0 t+Kf c).toNat;by_cases a:t=[]
  ·subst a;show[c]=decDigits (10*0+Kf c).toNat;rw[show(10*0+Kf c).toNat=(Kf c).toNat by omega,decDigits_one b2, <-b1]
  ·have g:(t++[c]).getD 0 0=t.getD 0 0:=by
    cases t with
    |nil=>exact wh rfl a
    |cons x r=>rfl
   have j:t.getD 0 0≠48:=by
    rcases o with x|x
    ·rw[g]at x;exact x
    ·have f:=wi List.length x;rw[zq]at f;have u:t.length+1=1:=f;exact wh (zz.1 ae) a
   have i:AV t=true:=by
    unfold AV Al;rw[w4 a,h4,w4 j];rfl
   have q:=IK i (fun k=>j (by rw[k];rfl));have p:=m i (by rw[zq]at d;simpa using d);have e:(10*AA 0 t+Kf c).toNat=10*(AA 0 t).toNat+(Kf c).toNat:=ae
   rw[e,FC _ _ ae b2, <-p, <-b1]
theorem wX:∀ {a:Rd},(∀c∈a,c≠47)->AB a=a/\AR a=[]/\Bw a=false:=by
 intro a h;have b:Bw a=false:=by
  unfold Bw;rw[List.any_eq_false];intro x d;simpa using h x d
 exact⟨((Go.Pe.BE a).2.2 b).1,((Go.Pe.BE a).2.2 b).2,b⟩
theorem qW:∀ {a:Rd} (b:Rd),(∀c∈a,c≠47)->AB (a++47::b)=a/\AR (a++47::b)=b/\Bw (a++47::b)=true:=by
 intro a b h;have d:Bw (a++47::b)=true:=by
  unfold Bw;rw[List.any_eq_true];exact⟨47,by simp,rfl⟩
 have f:∀ {a:Rd},(∀c∈a,c≠47)->AB (a++47::b)=a:=by
  intro a;induction a with
  |nil=>intro _;show AB (47::b)=[];rw[Go.Pe.DT,wd rfl]
  |cons x r g=>
   intro h;show AB (x::(r++47::b))=_;rw[Go.Pe.DT,wc (h x (by simp)),g<|fun c d=>h c<|List.mem_cons_of_mem _ d]
 have e:=f h;refine⟨e,?_,d⟩;rw[((Go.Pe.BE _).2.1 d).2,e];simp
theorem QQ{s:Rd}(h:Al s=true):∀c∈s,c≠47:=by
 intro c a e;unfold Al at h;rw[List.all_eq_true]at h;have:=h c a;rw[e]at this;exact wh this af
theorem Ew{s:Rd}(h:Al s=true):s.getD 0 0≠45:=by
 cases s with
 |nil=>decide
 |cons c r=>
  unfold Al at h;rw[ye,zf]at h;show c≠45;intro e;rw[e]at h;exact wh h.1 af
def AT(q:Rat):Rd:=if q.den=1 then itoa q.num else itoa q.num++47::decDigits q.den
def AJ(s:Rd):Rat:=yf (Bf s)<|AS s
theorem C9(n:Int):(∀c∈itoa n,c≠47)/\A6 (itoa n)=decDigits n.natAbs/\preB (itoa n)=decide (n<0)/\Bg (itoa n)=n:=by
 unfold itoa;by_cases h:n<0
 ·rw[wd h];refine⟨fun c a=>?_,rfl,(w4 h).symm,?_⟩
  ·rcases List.mem_cons.1 a with rfl|a
   ·decide
   ·exact QQ (CQ _) c a
  ·show -AA 0 (decDigits n.natAbs)=n;rw[HL];omega
 ·rw[wc h];have b:=Ew<|CQ n.toNat;have e:n.toNat=n.natAbs:=ae
  refine⟨QQ<|CQ _,?_,?_,?_⟩
  ·unfold A6;rw[wc b,e]
  ·unfold preB;rw[w8 b,w8 h]
  ·unfold Bg;rw[wc b,HL];omega
theorem D1(q:Rat):AB (AT q)=itoa q.num/\AR (AT q)=(if q.den=1 then[]else decDigits q.den)/\Bw (AT q)=decide (q.den≠1):=by
 unfold AT;have h:=(C9 q.num).1;by_cases a:q.den=1
 ·rw[wd a,wd a,w8<|not_not_intro a];exact wX h
 ·rw[wc a,wc a,w4 a];exact qW _ h
theorem J8(q:Rat):Bf (AT q)=q.num/\AS (AT q)=q.den:=by
 obtain⟨d,b,c⟩:=D1 q;unfold Bf AS;rw[d,b,c];refine⟨(C9 q.num).2.2.2,?_⟩;by_cases a:q.den=1
 ·rw[wc (by simpa using a),a];rfl
 ·rw[wd<|w4 a,wc a];unfold Bg;rw[wc<|Ew<|CQ _,HL]
theorem DY(q:Rat):AJ (AT q)=q:=by
 unfold AJ;rw[(J8 q).1,(J8 q).2];exact yr q
theorem Zy{p q:Rat}(h:AT p=AT q):p=q:=by
 rw[<-DY p,h,DY]
theorem RF(a:Rd):AB (A6 a)=A6 (AB a)/\AR (A6 a)=AR a/\Bw (A6 a)=Bw a/\preB (AB a)=preB a:=by
 unfold A6 preB;cases a with
 |nil=>exact⟨rfl,rfl,rfl,rfl⟩
 |cons c r=>
  have f:(c::r).getD 0 0=c:=rfl;rw[f,Go.Pe.DT];by_cases b:c=45
  ·subst b;have e:AR (45::r)=AR r:=by
    unfold AR;rw[List.findIdx?_cons];cases r.findIdx? (fun x=>x==47)<;>rfl
   exact⟨rfl,e.symm,rfl,rfl⟩
  ·rw[wc b];by_cases d:c=47
   ·subst d;exact⟨(Go.Pe.DT _ _),rfl,rfl,rfl⟩
   ·rw[wc d];have g:(c::AB r).getD 0 0=c:=rfl;rw[g,wc b];exact⟨by rw[Go.Pe.DT,wc d],rfl,rfl,rfl⟩
theorem VL{a:Rd}(h:AH a=0):F5 a=true/\(AB<|A6 a).length<=600/\(AR<|A6 a).length<=600/\(Bw (A6 a)=true->gI (nM a) (rH a)=1):=by
 unfold AH at h;cases b:F5 a with
 |false=>rw[wd b]at h;exact wh h af
 |true=>
  rw[wc<|by rw[b];decide]at h;split at h
  ·exact wh h af
  ·next c=>
   split at h
   ·exact wh h af
   ·next d=>exact⟨rfl,by omega,by omega,fun k=>qf fun g=>d ⟨k,g⟩⟩
def Fo(k:Nat)(q:Rat):Prop:=q.num.natAbs<10^k/\q.den<10^k
theorem Ou{n d:Int}(a:0<d)(h:yz n d=1):(yf n d).num=n/\((yf n d).den:Int)=d:=by
 have b:d.sign=1:=qp a;rw[qv,qw,wc<|yb a,b,qg,jg,h];refine⟨jh _,?_⟩;rw[Nat.div_one,Int.natAbs_of_nonneg<|z6 a]
theorem Pp{s:Rd}(h:Al s=true){k:Nat}(a:s.length<=k):(AA 0 s).toNat<10^k:=by
 have d:=Bd h;have b:(10:Int)^s.length<=10^k:=AP af a;have c:((10^k:Nat):Int)=(10:Int)^k:=by simp
 omega
theorem Oa(k:Nat)(h:k≠0):(1:Int).toNat<10^k:=Nat.one_lt_pow h af
theorem pE:decDigits (Int.toNat 1)=[49]:=by rw[show Int.toNat 1=1 from rfl,decDigits_one af];rfl
theorem LJ{s:Rd}(h:AH s=0):AT (AJ s)=s/\(AJ s).num=Bf s/\((AJ s).den:Int)=AS s/\Fo 600 (AJ s):=by
 obtain⟨l,l1,l2,i⟩:=VL h;obtain⟨p1,p2,p3,p4⟩:=RF s;unfold F5 at l;rw[zf,zf]at l;obtain⟨⟨fa,fm⟩,b⟩:=l;unfold nM rH at i;obtain⟨A,hA⟩:∃A,A=AB (A6 s):=⟨_,rfl⟩;obtain⟨B,hB⟩:∃B,B=AR (A6 s):=⟨_,rfl⟩;rw[<-hA]at fa fm l1 i;rw[<-hB]at b l2 i;rw[p3]at b i;have x:=(FJ fa).2.1;have u:=PX fa;have v0:=Bd x;have f:Bf s=(if preB s=true then -AA 0 A else AA 0 A)/\AB s=(if preB s=true then 45::A else A):=by
  have e1:A=A6 (AB s):=by rw[hA,p1]
  unfold Bf Bg;rw[<-p4];unfold preB;rw[e1];unfold A6;by_cases a:(AB s).getD 0 0=45
  ·rw[wd a,wd<|w4 a,wd a,wd<|w4 a];refine⟨rfl,?_⟩;cases y:AB s with
   |nil=>rw[y]at a;exact wh a af
   |cons c r=>
    rw[y]at a;have a:c=45:=a;rw[a];rfl
  ·rw[wc a,wc (by rw[w8 a];decide),wc a,wc<|by rw[w8 a];decide];exact⟨rfl,rfl⟩
 have p:(Bf s).natAbs=(AA 0 A).toNat:=by rw[f.1];split<;>omega
 have H:0<AS s/\(AS s).toNat<10^600/\yz (Bf s) (AS s)=1/\(Bw s=true->B=decDigits (AS s).toNat/\AS s≠1)/\(Bw s=false->AS s=1):=by
  unfold AS;rw[<-p2, <-hB];cases a:Bw s with
  |false=>
   rw[wc af];exact⟨by decide,Oa 600 af,Int.gcd_one,(fun k=>by cases k),fun _=>rfl⟩
  |true=>
   rw[a]at b;have b:(AV B&&decide (B≠[48])&&decide (B≠[49]))=true:=b;rw[zf,zf,w5,w5]at b;obtain⟨⟨j,J⟩,K⟩:=b;have w:=(FJ j).2.1;have C:=IK j J;have F:Bg B=AA 0 B:=by unfold Bg;rw[wc<|Ew w]
   rw[wd rfl,F];refine⟨C,Pp (k:=600) w l2,?_,fun _=>⟨PX j,?_⟩,(fun k=>by cases k)⟩
   ·have g:=i a;rw[FN]at g;have g:yz (AA 0 A) (AA 0 B)=1:=ae
    rw[f.1];split
    ·rw[Int.neg_gcd];exact g
    ·exact g
   ·intro e;have:=PX j;rw[e]at this;exact K<|this.trans pE
 obtain⟨z,D,E,M,G⟩:=H;obtain⟨r1,r2⟩:=Ou (n:=Bf s) z E;have r1:(AJ s).num=Bf s:=r1;have r2:((AJ s).den:Int)=AS s:=r2;have q:(AJ s).den=(AS s).toNat:=ae
 refine⟨?_,r1,r2,?_,?_⟩
 ·have S:itoa (Bf s)=AB s:=by
   rw[f.2];unfold itoa;by_cases d:preB s=true
   ·have o:A≠[48]:=by
     have m:preB s=true:=d;rw[m]at fm;simpa using fm
    have:=IK fa o;rw[f.1,wd d,wd d,wd ae,Int.natAbs_neg];rw[show(AA 0 A).natAbs=(AA 0 A).toNat by omega, <-u]
   ·rw[f.1,wc d,wc d,wc ae, <-u]
  unfold AT;rw[r1,q,S];obtain⟨v,I,N⟩:=Go.Pe.BE s;cases a:Bw s with
  |false=>
   rw[G a,wd<|show Int.toNat 1=1 from rfl];exact(N a).1
  |true=>
   obtain⟨L,T⟩:=M a;obtain⟨m1,m2⟩:=I a;rw[wc ae, <-L,hB,p2,m2];have O:s.drop (AB s).length=47::s.drop ((AB s).length+1):=by
    have h0:∀t:Rd,Bw t=true->t.drop (AB t).length=47::t.drop ((AB t).length+1):=by
     intro t;induction t with
     |nil=>intro h;cases h
     |cons c r R=>
      intro h;rw[Go.Pe.DT];by_cases e:c=47
      ·rw[wd e,e];rfl
      ·rw[wc e];have P:Bw r=true:=by
        unfold Bw at h ⊢;rw[List.any_cons]at h;simpa [e]using h
       exact R P
    exact h0 s a
   rw[<-O];conv=>lhs;rw[v]
   have:=yk (AB s).length s;rw[<-v]at this ⊢;exact this
 ·rw[r1,p];exact Pp (k:=600) x l1
 ·rw[q];exact D
def Cf(n:Int):Rd:=Lib.itoa n
end Go.Sp
namespace Go.Pe
open Go.Det
theorem Xi:∀(k u:Nat),u<10^(k+1)->Lib.nDigits u<=k+1
 |0,u,h=>by rw[Lib.nDigits_small ae];omega
 |k+1,u,h=>by
  by_cases c:u<10
  ·rw[Lib.nDigits_small c];omega
  ·rw[Lib.nDigits_big c];have:u/10<10^(k+1):=by rw[Nat.pow_succ]at h;omega
   have:=Xi k (u/10) this;omega
end Go.Pe
