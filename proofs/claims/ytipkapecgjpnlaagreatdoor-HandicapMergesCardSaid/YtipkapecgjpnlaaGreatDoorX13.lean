import Derived.Test.YtipkapecgjpnlaaGreatDoorX12
import Derived.Lib.Repeat
/- A part of a proof; no law is stated here. -/
noncomputable section
open Go.Pe.Ends renaming tt -> zc, leaf -> zh, An -> zj, ite -> zk, ff -> zn, eq -> zu
open Go.Sp renaming B9 -> zd, val -> ze, vI -> zl, AT -> zt, gI -> ql, preB -> jc, DD -> je, first -> jh
open Bool renaming and_eq_true -> zf, true_and -> yx, eq_iff_iff -> qw
open Go.IntKind renaming wrap -> zg, u64 -> qz
open Int renaming toNat_natCast -> zi, mul_le_mul_of_nonneg_left -> zo, lt_of_lt_of_le -> zr, mul_comm -> zw, le_of_lt -> z6, mul_lt_mul_of_pos_right -> z8, ne_of_gt -> yb, tdiv_eq_ediv_of_nonneg -> yc, mul_le_mul_of_nonneg_right -> yh, eq_ofNat_of_zero_le -> yi, pow_succ -> yp, lt_of_mul_lt_mul_left -> yq, mul_one -> yu, mul_nonneg -> yv, mul_add -> yy, gcd -> qd, emod_lt_of_pos -> qe, lt_of_le_of_lt -> qf, natAbs_natCast -> qg, one_mul -> qi, mul_pos -> qj, mul_assoc -> qk, ediv_eq_iff_of_pos -> qq, sign_eq_one_of_pos -> qt, emod_nonneg -> qv, pow_zero -> jf, gcd_comm -> ji, ediv_one -> jj
open List renaming take_of_length_le -> zm, length_drop -> zp, length_append -> zq, length_take -> zx, length_eq_zero_iff -> zz, all_cons -> ye, dropWhile_cons -> yg, take_length -> yj, take_append_drop -> ym, replicate -> yo, map -> yw, dropLast_concat_getLast -> qc, drop -> qm, all_reverse -> qn, length_eq_one_iff -> qo
open Go.Pe.Ad renaming of -> zy
open UInt8 renaming toNat_inj -> z7, ofNat -> yd, toNat -> yk
open Rat renaming divInt -> yf, num_divInt_den -> yt, num_divInt -> qx, den_divInt -> qy
open Nat renaming sub -> yn, add_sub_cancel -> yr, le_refl -> yz, add -> qp, min_eq_left -> qu, zero_add -> jg
open Classical renaming byContradiction -> qh
open Go.Pe.Obj renaming tbox -> q9
variable {Q:Go.Pe.PV->Go.Pe.Ob->Prop}
namespace Go.Pe
open Sp
open Go.Det
theorem Gs{w:List Int}(c:Aw zd w)(a:Sp.nz w){k:Nat}(b:w.length=k+1):0<w.getD k 0/\w.getD k 0<1000000000:=by
 have g:=GI c k;refine⟨?_,g.2⟩;have e:w.getLast?=some (w.getD k 0):=by
  rw[List.getLast?_eq_getElem?,b,yr,List.getD_eq_getElem?_getD,List.getElem?_eq_getElem ae];rfl
 unfold Sp.nz at a;rw[e]at a;have:w.getD k 0≠0:=fun h=>a (by rw[h])
 omega
theorem Ec(d:Int):ze zd [d]=d:=by simp[ze]
namespace T168
theorem A1[Srt](v:List Int)(k m:Nat)(f:Int)(hf:0<f/\f<1000000000)(D:v.length=k+2)(hla:m<=9000)(P:k+2<=m)(x:Aw zd v)(I:1<=v.getD (k+1) 0)(M:Int)
  (hq:∀(u c:List Int) ob,Aw zd u->Aw zd c->ze zd u<ze zd v->M=ze zd u+ze zd v*ze zd c->Q (.tup [.dat li<|Ax c,.dat li<|BG<|ze zd u/f]) ob):
  ∀(t:Nat) (u c:List Int),t+c.length=m-(k+2)+1->u.length=m+1->Aw zd u->Aw zd c->ze zd (u.drop t)<ze zd v->M=ze zd u+ze zd v*((zd:Int)^t*ze zd c)->
   Ends LV (L2 1 v ((k+2:Nat):Int) (m+1) (m-(k+2)+1) ((t:Int)-1) (yo t 0++c) u [f]) Q
 |0,u,c,hl,Z,y,C,n,T=>by
  have n:ze zd u<ze zd v:=n;have o:=Br (b:=zd) af x;rw[D]at o;have E:ze zd (u.drop<|k+2)=0:=Jk (b:=zd) af y ae ae;have J:ze zd (u.take<|k+2)=ze zd u:=by
   rw[Co zd u (k+2) ae,E,Int.mul_zero,Int.add_zero]
  have ht:(yo 0 0++c).take (m-(k+2)+1)=c:=by
   rw[List.replicate_zero,List.nil_append];exact zm ae
  have W:=Hl<|AL y<|k+2;have hlr:(Ax<|u.take<|k+2).length<=9000:=by
   rw[FR<|AL y<|k+2];refine Nat.le_trans (Ny (k:=k+2) (AD af<|AL y<|k+2) ?_) ae;show ze zd (u.take<|k+2)<_;rw[J];omega
  have O:Aj (Ax<|u.take<|k+2)=ze zd u:=by
   show ze zd (Ax _)=_;rw[Jc,J]
  refine zj (AO ..) (zn (by simp) ?_);rw[zi,ht,O];refine zc (by simp;omega) (zc rfl (zc rfl (zc (by simp;omega)<|zc (Ab (Ab (KY ae W)<|w4 hf.1)<|w4 hf.2)<|zc (by simp;omega)<|zh<|hq u c _ y C n<|by rw[T,jf,qi])))
 |j+1,u,c,hl,Z,y,C,n,T=>by
  obtain⟨h,r,rfl,s⟩:∃h r:List Int,u=h++r/\h.length=j:=⟨u.take j,u.drop j,(ym j u).symm,by rw[zx];omega⟩;have F:Aw zd h:=fun d g=>y d<|List.mem_append.2<|.inl g
  have e:Aw zd r:=fun d g=>y d<|List.mem_append.2<|.inr g
  have hrl:r.length=m+1-j:=by rw[zq]at Z;omega
  have p:∀z:List Int,(h++z).drop j=z:=fun z=>by rw[<-s];exact List.drop_left
  have S:r=r.getD 0 0::r.drop 1:=by
   have:=Cm (l:=r) (i:=0) ae;rw[List.drop_zero]at this;exact this
  have U:(h++r).drop (j+1)=r.drop 1:=by rw[Nat.add_comm j 1,Nat.add_comm 1 j, <-List.drop_drop,p]
  rw[U]at n;have g0:=GI e 0;have V:ze zd r=r.getD 0 0+1000000000*ze zd (r.drop 1):=by
   conv=>lhs;rw[S]
   rfl
  have o:=Br (b:=zd) af x;rw[D]at o;have hrV:ze zd r<1000000000*ze zd v:=by rw[V];omega
  have E:ze zd (r.drop<|k+3)=0:=by
   refine Jk (b:=zd) af e ae ?_;have ep:(zd:Int)^(k+3)=(zd:Int)^(k+2)*1000000000:=yp ..;rw[ep];omega
  have gu0:=GI e<|k+2;have gu1:=GI e<|k+1;have X:=GI e k;have gv1:=GI x<|k+1;have R:=GI x k;have hP:=Be (b:=zd) af k;have hW:=nU zd r k ae E;have hV:=mU zd v k D;have w:=Br (b:=zd) af<|AL e k;have hv':=AD (b:=zd) af<|AL x k;rw[zx,qu ae]at w;have hle:r.getD (k+2) 0<=v.getD (k+1) 0:=by
   have a1:=Co zd (r.drop 1) (k+1) (by rw[zp];omega);have a2:(r.drop 1).drop (k+1)=r.getD (k+2) 0::r.drop (k+3):=by
    rw[List.drop_drop,show 1+(k+1)=k+2 by omega];exact Cm ae
   have a3:ze zd (r.getD (k+2) 0::r.drop (k+3))=r.getD (k+2) 0:=by
    show r.getD (k+2) 0+(zd:Int)*ze zd (r.drop<|k+3)=_;rw[E];omega
   rw[a2,a3]at a1;have b1:ze zd v=ze zd (v.take<|k+1)+(zd:Int)^(k+1)*v.getD (k+1) 0:=by
    rw[<-AF,zm ae]
   have L:=Br (b:=zd) af<|AL x<|k+1;rw[zx,qu ae]at L;have c1:=AD (b:=zd) af<|AL (Em e 1)<|k+1;have c2:(zd:Int)^(k+1)*r.getD (k+2) 0<(zd:Int)^(k+1)*(v.getD (k+1) 0+1):=by
    rw[yy,yu];omega
   have:=yq c2 (z6<|Be af<|k+1);omega
  have K:∀(q:Int) (A:List Int),A.length=r.length->Aw zd A->(0<=q/\q<1000000000)->ze zd A<ze zd v->ze zd A=ze zd r-q*ze zd v->Ends LV (L2 1 v ((k+2:Nat):Int) (m+1) (m-(k+2)+1) (zg .i64<|(j:Int)-1) ((yo (j+1) 0++c).set j q) (h++A) [f]) Q:=by
   intro q A h1 h2 h3 h4 h5;have es:(yo (j+1) (0:Int)++c).set j q=yo j 0++(q::c):=by
    rw[List.replicate_succ',List.append_assoc];exact Da _ _ _ _ (by simp)
   rw[es,wr ((j:Int)-1) ae ae];refine A1 v k m f hf D hla P x I M hq j (h++A) (q::c) (by simp;omega) (by simp;omega) (Gr F h2) (fun d g=>?_) (by rw[p];exact h4) ?_
   ·rcases List.mem_cons.1 g with rfl|g
    ·exact h3
    ·exact C d g
   ·rw[T,CP,CP,s,h5,Lg];show ze zd h+(zd:Int)^j*ze zd r+ze zd v*((zd:Int)^j*(1000000000*ze zd c))=ze zd h+(zd:Int)^j*(ze zd r-q*ze zd v)+ze zd v*((zd:Int)^j*(q+1000000000*ze zd c));have x1:ze zd v*((zd:Int)^j*q)=(zd:Int)^j*(q*ze zd v):=by
     rw[Int.mul_left_comm,zw (ze zd v) q]
    rw[Int.mul_sub,yy ((zd:Int)^j) q,yy<|ze zd v,x1];omega
  have e0:(((j+1:Nat):Int)-1)=(j:Int):=ae
  have O:zg .i64 ((j:Int)+((k+2:Nat):Int))=((k+2+j:Nat):Int):=by rw[wr _ ae ae];omega
  have e2:zg .i64 (((k+2+j:Nat):Int)-1)=((k+1+j:Nat):Int):=by rw[wr _ ae ae];omega
  have e3:zg .i64 (((k+2:Nat):Int)-1)=((k+1:Nat):Int):=by rw[wr _ ae ae];omega
  have g1:(h++r).getD (k+2+j) 0=r.getD (k+2) 0:=GR _ _ _ _ s;have g2:(h++r).getD (k+1+j) 0=r.getD (k+1) 0:=GR _ _ _ _ s;have N:(h++r).length=m+1:=Z;have G:zg .i64 (zg .i64 (r.getD (k+2) 0*1000000000)+r.getD (k+1) 0)=r.getD (k+2) 0*1000000000+r.getD (k+1) 0:=by
   rw[wr (r.getD (k+2) 0*1000000000) ae ae];exact wr _ ae ae
  have a:0<=r.getD (k+2) 0*1000000000+r.getD (k+1) 0:=ae
  have H:0<=(r.getD (k+2) 0*1000000000+r.getD (k+1) 0)/v.getD (k+1) 0:=Int.ediv_nonneg a ae;have hqs:(r.getD (k+2) 0*1000000000+r.getD (k+1) 0)/v.getD (k+1) 0<=r.getD (k+2) 0*1000000000+r.getD (k+1) 0:=Int.ediv_le_self _ a;have B:=Int.mul_ediv_add_emod (r.getD (k+2) 0*1000000000+r.getD (k+1) 0)<|v.getD (k+1) 0;have hm0:=qv (r.getD (k+2) 0*1000000000+r.getD (k+1) 0) (show v.getD (k+1) 0≠0 by omega);have Y:=qe (r.getD (k+2) 0*1000000000+r.getD (k+1) 0) (show 0<v.getD (k+1) 0 by omega);rw[zw]at B;have et:zg .i64 (Int.tdiv (r.getD (k+2) 0*1000000000+r.getD (k+1) 0)<|v.getD (k+1) 0)=(r.getD (k+2) 0*1000000000+r.getD (k+1) 0)/v.getD (k+1) 0:=by
   rw[yc a];exact wr _ ae ae
  have em:Int.tmod (r.getD (k+2) 0*1000000000+r.getD (k+1) 0) (v.getD (k+1) 0)=(r.getD (k+2) 0*1000000000+r.getD (k+1) 0) % v.getD (k+1) 0:=Int.tmod_eq_emod_of_nonneg a;have L:(decide ((0:Int)<=((k+1:Nat):Int))&&decide (((k+1:Nat):Int)<((k+2:Nat):Int)))=true:=by simp;omega
  have bn:decide (v.getD (k+1) 0≠0)=true:=w4 ae;rw[e0];refine zj (AO ..) (zc (by simp) ?_);rw[D,O,e2,e3,zi,zi,zi,g1,g2,G,et,em,N];refine zc (by simp;omega) (zc (w4 ae)<|zc (by simp;omega)<|zc (w4 ae)<|zc L<|zc bn<|zc L<|zc bn ?_);refine CW 1 (m+1) (m-(k+2)+1) _ [f] v h r _ _ _ k j D ae s ae ae ae ae (by simp;omega) x e E I hle hrV K (((r.getD (k+2) 0*1000000000+r.getD (k+1) 0)/v.getD (k+1) 0).toNat+1) _ _ H ae ae ⟨hm0,by omega⟩ B ?_;rw[hW,hV];exact MO hP af H hv' R.1 w X.2 B Y
theorem As[Srt](a v:List Int)(n b:Nat)(f:Int)(g:a.length=b)(d:b<=9000)(j:n<=b)(k:∀u:List Int,u.length=b+1->Aw zd u->ze zd u=ze zd a*f->Ends LV (L2 1 v n (b+1) (b-n+1) (((b-n+1:Nat):Int)-1) (yo (b-n+1) 0) u [f]) Q):
  ∀(m:Nat) (u:List Int),u.length+m=b+1->Aw zd u->ze zd u=ze zd a*f->Ends LV (L1 a 1 v n u.length u [f]) Q
 |0,u,l,i,e=>by
  have h:zg .i64 ((a.length:Int)+1)=((b+1:Nat):Int):=by rw[wr _ ae ae];omega
  have o:zg .i64 ((u.length:Int)-(n:Int))=((b-n+1:Nat):Int):=by rw[wr _ ae ae];omega
  have p:zg .i64 (((b-n+1:Nat):Int)-1)=((b-n+1:Nat):Int)-1:=wr _ ae ae;refine zj (Ar ..) ?_;conv=>zeta
  rw[h,o,p,zi];refine zn (by simp;omega) (zc (by simp;omega) ?_);have c:u.length=b+1:=ae
  rw[c];exact k u c i e
 |m+1,u,l,i,e=>by
  have h:zg .i64 ((a.length:Int)+1)=((b+1:Nat):Int):=by rw[wr _ ae ae];omega
  refine zj (Ar ..) ?_;conv=>zeta
  rw[h];refine zc (by simp;omega) (zc (by simp;omega) ?_);have:=As a v n b f g d j k m (u++[0]) (by simp;omega) (E6 i af) (by rw[B5,Int.mul_zero,Int.add_zero];exact e);rw[zq]at this;exact this
set_option maxHeartbeats 1000000 in
theorem ok[Srt]:Af A9 168 QX:=by
 refine BM qO<|fun(i:List Int×List Int) D=>?_;obtain⟨a,b⟩:=i;have D:(A0 a&&A0 b&&decide (a.length<=9000)&&decide (b.length<=9000)&&decide (0<Aj b))=true:=D;rw[zf,zf,zf,zf,w5,w5,w5]at D;obtain⟨⟨⟨⟨na,nb⟩,la9⟩,lb9⟩,j⟩:=D;obtain⟨_,da,za⟩:=Bp na;obtain⟨_,db,zb⟩:=Bp nb;have j:0<ze zd b:=j;have p:=AD (b:=zd) af da;have V:∀q r ob,q=BG (Aj a/Aj b)->r=BG (Aj a % Aj b)->Ad QX (a,b) (PV.tup [PV.dat li q,PV.dat li r]) ob:=fun q r ob I S=>zy rfl rfl (Prod.ext I S)
 have l:b≠[]:=by rintro rfl;simp[ze]at j
 have K:b.length≠0:=fun h=>l<|zz.1 h
 refine zu (Ai a b) (zc (by rw[na,nb];rfl)<|zk (fun c=>?_)<|fun c=>?_)
 ·have c:=w6 c;have w:ze zd a<ze zd b:=by
   unfold B6 at c;have c:(if ze zd a<ze zd b then(-1:Int)else if ze zd a>ze zd b then 1 else 0)<0:=c;split at c
   ·assumption
   ·split at c<;>omega
  refine zh<|zy rfl rfl ?_;show([],a)=(BG<|ze zd a/ze zd b,BG<|ze zd a % ze zd b);rw[Int.ediv_eq_zero_of_lt p w,Int.emod_eq_of_lt p w];exact Prod.ext rfl (Iw af da za)
 ·have c:=w7 c;have hge:ze zd b<=ze zd a:=by
   rcases Int.lt_or_le (ze zd a) (ze zd b)with g|g
   ·have:B6 (Aj a) (Aj b)= -1:=wd g;omega
   ·exact g
  have hll:b.length<=a.length:=by
   rcases Nat.lt_or_ge a.length b.length with g|g
   ·have:=En (b:=zd) af da db zb g;omega
   ·exact g
  refine zk (fun s=>?_)<|fun s=>?_
  ·have s:b.length=1:=by
    have:(b.length:Int)=1:=by simpa using s
    omega
   obtain⟨d,rfl⟩:=qo.1 s;have O:0<d/\d<1000000000:=Gs (k:=0) db zb rfl;have m0:=qv (ze zd a) (show d≠0 by omega);have m1:=qe (ze zd a) O.1;refine zc rfl (zc (Ab (Ab (KY ae da)<|w4 O.1)<|w4 O.2)<|zc rfl (zh<|V _ _ _ ?_ ?_))
   ·show BG (ze zd a/d)=BG (ze zd a/ze zd [d]);rw[Ec]
   ·show Ax [ze zd a % d]=BG (ze zd a % ze zd [d]);rw[Ec,FR<|fun x o=>by rw[List.mem_singleton]at o;subst o;show 0<=_/\_<(1000000000:Int);omega];show BG (ze zd [_])=_;rw[Ec]
  ·have s:b.length≠1:=by
    have:(b.length:Int)≠1:=by simpa using s
    omega
   obtain⟨k,E⟩:∃k,b.length=k+2:=⟨b.length-2,by omega⟩;obtain⟨y0,y1⟩:=Gs (k:=k+1) db zb E;have I:zg .i64 (((k+2:Nat):Int)-1)=((k+1:Nat):Int):=by rw[wr _ ae ae];omega
   have S:zg .i64 (b.getD (k+1) 0+1)=b.getD (k+1) 0+1:=wr _ ae ae;have f0:0<1000000000/(b.getD (k+1) 0+1):=by
    have:=Int.le_ediv_of_mul_le (a:=1) (b:=1000000000) (c:=b.getD (k+1) 0+1) ae ae;omega
   have f1:1000000000/(b.getD (k+1) 0+1)<1000000000:=Int.ediv_lt_of_lt_mul ae ae;have f2:1000000000/(b.getD (k+1) 0+1)*(b.getD (k+1) 0+1)<=1000000000:=Int.ediv_mul_le _ ae;have e3:zg .i64 (Int.tdiv 1000000000<|b.getD (k+1) 0+1)=1000000000/(b.getD (k+1) 0+1):=by
    rw[yc af];exact wr _ ae ae
   rw[E,I,zi,S,e3];generalize 1000000000/(b.getD (k+1) 0+1)=f at*;have M:Aw zd [f]:=fun x o=>by rw[List.mem_singleton]at o;subst o;show 0<=_/\_<(1000000000:Int);omega
   have F:Aj [f]=f:=Ec f;rw[F];have N:(zd:Int)^(k+1)<=ze zd b*f:=by
    have a1:=C6 (b:=zd) af db zb l;rw[E,show k+2-1=k+1 by omega]at a1;have a2:=zo (show 1<=f by omega)<|z6 j;omega
   have H:ze zd b*f<(zd:Int)^(k+2):=by
    have b1:ze zd b=ze zd (b.take<|k+1)+(zd:Int)^(k+1)*b.getD (k+1) 0:=by
     rw[<-AF,zm ae]
    have b2:=Br (b:=zd) af<|AL db<|k+1;rw[zx,qu ae]at b2;have hp:=Be (b:=zd) af<|k+1;have b3:ze zd b<(zd:Int)^(k+1)*(b.getD (k+1) 0+1):=by
     rw[yy,yu];omega
    have b4:=z8 b3 f0;have b5:=zo f2<|z6 hp;have b6:(zd:Int)^(k+2)=(zd:Int)^(k+1)*1000000000:=yp ..;rw[qk,zw (b.getD (k+1) 0+1) f]at b4;omega
   have P:0<=ze zd b*f:=yv (z6 j) ae;have B:0<=ze zd a*f:=yv p ae;have G:ze zd a*f<(zd:Int)^(a.length+1):=by
    have a1:=Br (b:=zd) af da;have a2:=z8 a1 f0;have a3:=zo (show f<=1000000000 by omega) (z6<|Be (b:=zd) af a.length);have a4:(zd:Int)^(a.length+1)=(zd:Int)^a.length*1000000000:=yp ..;omega
   have vd:=HQ (b:=zd) af<|ze zd b*f;have X:=Yc (b:=zd) af<|ze zd b*f;have C:ze zd (Sp.dg zd<|ze zd b*f)=ze zd b*f:=CU af P;have U:=lO (b:=zd) af vd X (k:=k+1) (by rw[C];exact N) (by rw[C];exact H);have v1:=(Gs vd X U).1;have ud:=HQ (b:=zd) af<|ze zd a*f;have uv:ze zd (Sp.dg zd<|ze zd a*f)=ze zd a*f:=CU af B;have Z:=Ny (k:=a.length+1) B G;have t:Sp.hR [f]=true:=Xt (by simp) M;have bd:decide ((3*(0+(BG<|Aj a*f).length)+2000)*8<=562949953421312)=true:=w4 (by have:(BG<|Aj a*f).length<=a.length+1:=Z;omega);refine zc (by simp;omega) (zc (w4 ae)<|zc (by rw[Xt lb9 db,t];rfl)<|zc (by rw[Xt la9 da,t];rfl)<|zc bd ?_);have ez:qp 0 (BG<|Aj a*f).length=(BG<|Aj a*f).length:=jg _;have v:(BG<|Aj b*f).length=k+2:=U;rw[ez,List.nil_append,v];refine As a (BG<|Aj b*f) (k+2) a.length f rfl la9 ae (fun u T z J=>?_) (a.length+1-(BG<|Aj a*f).length) (BG<|Aj a*f) (by have:(BG<|Aj a*f).length<=a.length+1:=Z;omega) ud uv;have y:=Be (b:=zd) af<|a.length-(k+2)+1;have start:ze zd (u.drop<|a.length-(k+2)+1)<ze zd (BG<|Aj b*f):=by
    have a1:=Co zd u (a.length-(k+2)+1) ae;have a2:=AD (b:=zd) af<|AL z<|a.length-(k+2)+1;have a3:=Br (b:=zd) af da;have a4:=z8 a3 f0;have a5:(zd:Int)^a.length=(zd:Int)^(a.length-(k+2)+1)*(zd:Int)^(k+1):=by rw[<-Int.pow_add,show a.length-(k+2)+1+(k+1)=a.length by omega]
    have a6:=C6 (b:=zd) af db zb l;rw[E,show k+2-1=k+1 by omega]at a6;have a7:=yh a6 (show 0<=f by omega);have a8:=zo a7<|z6 y;rw[a5,qk]at a4;show _<ze zd (Sp.dg zd<|ze zd b*f);rw[C];refine yq (a:=(zd:Int)^(a.length-(k+2)+1)) ?_<|z6 y;omega
   have go:=A1 (Q:=Ad QX (a,b)) (BG<|Aj b*f) k a.length f ⟨f0,f1⟩ v la9 ae vd (by have:0<(BG<|Aj b*f).getD (k+1) 0:=v1;omega) (ze zd a*f) (fun W n ob A R m Y=>by
    have L:ze zd (BG<|Aj b*f)=ze zd b*f:=C;rw[L]at Y m;have e:ze zd W=f*(ze zd a-ze zd n*ze zd b):=by
     have x1:ze zd b*f*ze zd n=f*(ze zd n*ze zd b):=by
      rw[zw (ze zd b) f,qk,zw<|ze zd b]
     rw[x1,zw<|ze zd a]at Y;rw[Int.mul_sub];omega
    have h0:=AD (b:=zd) af A;have r0:0<=ze zd a-ze zd n*ze zd b:=by
     rw[e]at h0;exact Int.nonneg_of_mul_nonneg_right h0 f0
    have r1:ze zd a-ze zd n*ze zd b<ze zd b:=by
     rw[e,zw (ze zd b) f]at m;exact yq m ae
    obtain⟨u1,u2⟩:=(Int.ediv_emod_unique (a:=ze zd a) (b:=ze zd b) (r:=ze zd a-ze zd n*ze zd b) (q:=ze zd n) j).2 ⟨by rw[zw<|ze zd b];omega,r0,r1⟩;refine V _ _ ob ?_ ?_
    ·rw[FR R];show BG (ze zd n)=BG (ze zd a/ze zd b);rw[u1]
    ·show BG (ze zd W/f)=BG (ze zd a % ze zd b);rw[u2,e,Int.mul_ediv_cancel_left _ ae]) (a.length-(k+2)+1) u [] (by simp) T z (fun x o=>by cases o) start (by rw[J];simp[ze])
   rw[List.append_nil]at go;exact go
end T168
theorem pQ[Srt]:Dn XG3:=Aa T168.ok AP
namespace T153
theorem As[Srt](g:Nat)(L:Int)(b:∀n:Nat,(n:Int)<L->A0 (BG (n:Int))=true/\Aj (BG (n:Int))=n/\(BG (n:Int)).length<=9000)(d:∀ob,Q (.dat li<|BG (g:Int)) ob):∀(f x y:Nat),y<f->Nat.gcd x y=g->(x:Int)<L->(y:Int)<L->
  Ends XG3 (L1 (BG (x:Int))<|BG (y:Int)) Q
 |0,x,y,h,_,_,_=>by omega
 |f+1,x,y,m,c,i,a=>by
  obtain⟨nx,j,e⟩:=b x i;obtain⟨ny,vy,ly⟩:=b y a
  refine zj (Ar ..) ?_;conv=>zeta
  by_cases h0:y=0
  ·subst h0;rw[Nat.gcd_zero_right]at c;subst c;exact zn rfl (zh<|d _)
  ·have k:x % y<y:=Nat.mod_lt _ ae;have l:(BG (y:Int)).length≠0:=by
    intro h;have:=zz.1 h;rw[this]at vy;simp[Aj,ze]at vy;omega
   rw[j,vy,UK];refine zc (by simp;omega) (zc (Ab (Ab (Ab (Ab nx ny)<|w4 e)<|w4 ly)<|w4 ae) ?_);exact As g L b d f y (x % y) ae (by rw[Nat.gcd_comm, <-Nat.gcd_rec,Nat.gcd_comm];exact c) a ae
theorem T8{a:List Int}(h:A0 a=true):a=BG (Aj a)/\0<=Aj a:=by
 obtain⟨_,d,z⟩:=Bp h;exact⟨Iw af d z,AD af d⟩
theorem Xc(n:Nat)(h:(n:Int)<(zd:Int)^9000):A0 (BG (n:Int))=true/\Aj (BG (n:Int))=n/\(BG (n:Int)).length<=9000:=by
 obtain⟨a,_,b,c⟩:=Ft (n:=(n:Int)) (k:=9000) (Int.natCast_nonneg n) h af;exact⟨a,b,c⟩
theorem ok[Srt]:Af A9 153 Ln:=by
 refine BM pQ<|fun(i:List Int×List Int) c=>?_;obtain⟨a,b⟩:=i;have c:(A0 a&&A0 b&&decide (a.length<=9000)&&decide (b.length<=9000))=true:=c;rw[zf,zf,zf,w5,w5]at c;obtain⟨⟨⟨na,nb⟩,la9⟩,lb9⟩:=c;obtain⟨ea,a0⟩:=T8 na;obtain⟨eb,b0⟩:=T8 nb;have g:Aj a<(zd:Int)^9000:=zr (Br (b:=zd) af (Bp na).2.1) (AN af la9);have h:Aj b<(zd:Int)^9000:=zr (Br (b:=zd) af (Bp nb).2.1) (AN af lb9);have key:∀(x y:Nat),Aj a=x->Aj b=y->Ends XG3 (L1 a b) (Ad Ln (a,b)):=by
  intro x y f d;rw[ea,eb,f,d];rw[f]at g;rw[d]at h;refine As (Nat.gcd x y) _ Xc (fun ob=>zy rfl rfl ?_) (y+1) x y (Nat.lt_succ_self _) rfl g h;have e:ql (Aj<|BG (x:Int)) (Aj<|BG (y:Int))=((Nat.gcd x y:Nat):Int):=by
   rw[(Xc x g).2.1,(Xc y h).2.1,Gx];rfl
  exact wi BG e.symm
 obtain⟨x,f⟩:=yi a0;obtain⟨y,d⟩:=yi b0;exact zu (Ai a b)<|key x y f d
end T153
theorem sC[Srt]:Dn aU:=
 Aa (GN ag<|Bn ag) (Aa (GN ag<|Bn ag)<|Aa (GN ag<|Bn ag)<|Aa (GN ag<|Bn ag) AP)
theorem Fk[Srt]:Dn NZ:=fun g sp h=>by cases h
namespace T209
theorem Abq:∀i:Fin 10,(Dc.getD i.1 0).toNat<128:=af
theorem Ex[Srt](s:Z)(i:Nat)(o:List Bool)(c:i<10)(d:o.length=256)(h:Ends aU (L2 s Dc Dc ((i+1:Nat):Int)<|o.set (Dc.getD i 0).toNat true) Q):Ends aU (L2 s Dc Dc (i:Int) o) Q:=by
 have b:Dc.length=10:=rfl;have a:=Abq ⟨i,c⟩;have a:(Dc.getD i 0).toNat<128:=a;have e:=wn (i:=i) ae;refine zj (AO ..) ?_;conv=>zeta
 rw[b,e,zi,zi];exact zc (w4 ae) (zc (ad ae ae) (zn (w8 ae)<|zc (Ab (w4<|show(0:Int)<=((Dc.getD i 0).toNat:Int)by omega)<|w4 ae) (zc (w4 ae) h)))
def Tb(o:List Bool):Prop:=o.length=256/\∀c:UInt8,o.getD c.toNat false=BI c
theorem Cd[Srt](s t v0:Z)(v4:Int)(i:List Bool)(b:Z)(o1 f:List Bool)(h p0:List Bool)(g:Tb h):∀(w:Z),(∀ob,Q (.dat .str<|w.dropWhile BI) ob)->Ends aU (L7 s t v0 v4 i b o1 f w h p0) Q
 |[],a=>zj (ES ..) (zn (by simp)<|zh<|a _)
 |c::r,a=>by
  have j:c.toNat<256:=c.toNat_lt;have k:(c::r).getD 0 0=c:=rfl;have e:(qm 1 (c::r)).take (yn (c::r).length 1)=r:=by show r.take ((r.length+1)-1)=r;rw[yr];exact yj
  refine zj (ES ..) ?_;conv=>zeta
  rw[k,zi,g.2,g.1,e];refine zc (by simp) (zc (by simp) (zc (Ab (w4<|show(0:Int)<=(c.toNat:Int)by omega)<|w4 ae)<|zc (w4 j)<|zk (fun d=>?_)<|fun d=>zc (by simp) ?_))
  ·have d:BI c=false:=by simpa using d
   rw[yg,wc<|by rw[d];decide]at a;exact zh<|a _
  ·have d:BI c=true:=by simpa using d
   rw[yg,wd d]at a;exact Cd s t v0 v4 i b o1 f h p0 g r a
theorem BR[Srt](s t v0:Z)(v4:Int)(i:List Bool)(o1 a:List Bool)(g:Tb o1):∀(n:Nat) (w:Z),w.length=n->n<=1000000->(∀ob,Q (.dat .str<|((w.reverse.dropWhile BI).reverse).dropWhile BI) ob)->Ends aU (L4 s t v0 v4 i w o1 a) Q
 |0,w,e,_,b=>by
  have:w=[]:=zz.1 e;subst this;exact zj (CN ..) (zn (by simp)<|zj (H3 ..)<|zn (by simp)<|zh<|b _)
 |n+1,w,e,o,b=>by
  obtain⟨p,c,rfl⟩:∃p c,w=p++[c]:=by
   have f:w≠[]:=by rintro rfl;simp at e
   exact⟨w.dropLast,w.getLast f,(qc f).symm⟩
  have h:p.length=n:=by simpa using e
  have l:c.toNat<256:=c.toNat_lt;have k:zg .i64 (((p++[c]).length:Int)-1)=(n:Int):=by rw[e,wr _ ae ae];omega
  have m:(p++[c]).getD n 0=c:=EC _ _ _ _ h;have t1:(p++[c]).take n=p:=by rw[<-h];exact List.take_left
  have j:(p++[c]).reverse=c::p.reverse:=by simp
  rw[j,yg]at b;refine zj (CN ..) (zc (w4 ae) ?_);rw[k,zi,m,t1,zi,g.2,g.1,e];refine zc (by simp;omega) (zc (Ab (w4<|show(0:Int)<=(c.toNat:Int)by omega)<|w4 ae)<|zc (w4 l)<|zk (fun d=>?_)<|fun d=>zc (by simp) ?_)
  ·have d:BI c=false:=by simpa using d
   rw[wc (by rw[d];decide),List.reverse_cons,List.reverse_reverse]at b;exact Cd s t v0 v4 i _ o1 a o1 a g (p++[c]) b
  ·have d:BI c=true:=by simpa using d
   rw[wd d]at b;exact BR s t v0 v4 i o1 a g n p h ae b
theorem Ab5{o:List Bool}(a:o.length=256)(b:∀c:Fin 256,o.getD c.1 false=(Nat.ble 48 c.1&&Nat.ble c.1 57)):Tb o:=by
 refine⟨a,fun c=>?_⟩;have:=b ⟨c.toNat,c.toNat_lt⟩;rw[show o.getD c.toNat false=_ from this];unfold BI;rw[qw];simp[Nat.ble_eq]
set_option maxRecDepth 10000 in
theorem ok[Srt]:Af A9 209 VW:=by
 refine BM sC<|fun(i:Z×Z) a=>?_;obtain⟨s,t⟩:=i;have a:(decide (t=Dc)&&decide (s.length<=1000000))=true:=a;rw[zf,w5,w5]at a;obtain⟨rfl,hl⟩:=a;have b:∀ob,Ad VW (s,Dc) (.dat .str<|((s.reverse.dropWhile BI).reverse).dropWhile BI) ob:=fun ob=>zy rfl rfl rfl
 refine zu (Ai s Dc) (zk (fun c=>?_)<|fun c=>zn af (zn af ?_))
 ·have c:s=[]:=by simpa using c
  subst c;exact zh<|b _
 ·refine Ex s 0 _ af rfl (Ex s 1 _ af rfl (Ex s 2 _ af rfl (Ex s 3 _ af rfl (Ex s 4 _ af rfl (Ex s 5 _ af rfl (Ex s 6 _ af rfl (Ex s 7 _ af rfl (Ex s 8 _ af rfl (Ex s 9 _ af rfl ?_)))))))));refine zj (AO ..) (zn af<|zc (by decide+kernel) (zc (by decide+kernel)<|zc (by decide+kernel)<|zc rfl (BR s _ _ _ _ _ _ (Ab5 rfl ?_) s.length s rfl hl b)));decide+kernel
end T209
theorem mT[Srt]:Dn XH1:=Aa T209.ok AP
theorem dropWhile_nil{p:UInt8->Bool}:∀ {l:Z},l.dropWhile p=[]↔l.all p=true
 |[]=>by simp
 |a::l=>by
  rw[yg,ye];cases h:p a with
  |true=>simp only[wm,yx];exact dropWhile_nil
  |false=>simp
theorem II{p:UInt8->Bool}:∀ {l:Z} {a:UInt8} {r:Z},l.dropWhile p=a::r->p a=false
 |[],a,r,h=>by simp at h
 |b::l,a,r,h=>by
  rw[yg]at h;cases c:p b with
  |true=>rw[c,wd rfl]at h;exact II h
  |false=>
   rw[c]at h;simp at h;rw[<-h.1];exact c
theorem LX(s:Z):Pu s=[]↔Ak s=true:=by
 unfold Pu Ak;rw[dropWhile_nil,qn];constructor
 ·intro h;cases b:s.reverse.dropWhile BI with
  |nil=>have:=dropWhile_nil.1 b;rwa [qn]at this
  |cons a r=>
   rw[b,ye,II b]at h;cases h
 ·intro h;have:s.reverse.dropWhile BI=[]:=dropWhile_nil.2 (by rwa [qn]);rw[this];rfl
theorem T142.ok[Srt]:Af A9 142 Wo:=by
 refine BM mT<|fun(s:Z) f=>?_;have f:s.length<=1000000:=w6 f;have a:∀v b ob,v=.bl b\/v=.dat .bool b->b=AW s->Ad Wo s v ob:=by
  rintro v b ob (rfl|rfl) g
  ·exact zy rfl rfl g
  ·exact zy rfl rfl g
 refine zu (T142.Ai s)<|zk (fun c=>zc ?_<|zk (fun d=>zc ?_<|zk (fun e=>zh<|a _ _ _ (.inl rfl) ?_)<|fun e=>zh<|a _ _ _ (.inr rfl) ?_)<|fun d=>zh<|a _ _ _ (.inl rfl) ?_)<|fun c=>zh<|a _ _ _ (.inl rfl) ?_
 ·exact Ab (w4 rfl)<|w4 f
 ·have c:s≠[]:=by simpa using c
  have:s.length≠0:=fun h=>c<|zz.1 h
  exact w4 ae
 ·have c:s≠[]:=by simpa using c
  have d:Pu s=[]:=by simpa using d
  have d:=(LX s).1 d;have e:s.getD 0 0≠48:=by
   intro h;rw[h]at e;exact wh e af
  unfold AW;rw[d,w4 c,w4 e];rfl
 ·have c:s≠[]:=by simpa using c
  have d:Pu s=[]:=by simpa using d
  have d:=(LX s).1 d;have e:s.getD 0 0=48:=by
   have:((s.getD 0 0).toNat:Int)=48:=by simpa using e
   exact z7.1 (by show _=48;omega)
  unfold AW;rw[d,w4 c,w8<|by rw[e];exact fun h=>h rfl];show(s==[48])=decide (s=[48]);rw[qw];simp
 ·have d:¬Pu s=[]:=by simpa using d
  have d:Ak s=false:=by
   cases h:Ak s with
   |true=>exact wh ((LX s).2 h) d
   |false=>rfl
  unfold AW;rw[d];simp
 ·have c:s=[]:=by simpa using c
  subst c;rfl
theorem T141.ok[Srt]:Af A9 141 uY:=by
 refine BM Fk<|fun(i:Z×Z) b=>?_;obtain⟨s,t⟩:=i;have b:(decide (t=[45])&&decide (s.length<=1000000))=true:=b;rw[zf,w5,w5]at b;obtain⟨rfl,hl⟩:=b;have a:s.getD 0 0≠45->(s,false)=(Bk s,jc s):=fun h=>by
  unfold Bk jc;rw[wc h,w8 h]
 refine zu (T141.Ai s [45]) ?_;conv=>zeta
 cases s with
 |nil=>exact zn af (zh<|zy rfl rfl (a af))
 |cons c r=>
  have f:(c::r).take 1=[c]:=rfl;refine zc (by simp;omega) (zc (by simp) ?_);show Ends NZ (.ite (!List.take 1 (c::r)==[45]) _ _) _;rw[f];refine zk (fun d=>zh<|zy rfl rfl (a ?_)) (fun d=>zc (by simp)<|zh<|zy rfl rfl ?_)
  ·show c≠45;rintro rfl;exact wh d af
  ·have d:c=45:=by simpa using d
   subst d;show(((qm 1 ((45:UInt8)::r)).take<|yn ((45:UInt8)::r).length 1),true)=(Bk (45::r),jc (45::r));have e:(qm 1 ((45:UInt8)::r)).take (yn ((45:UInt8)::r).length 1)=r:=by show r.take ((r.length+1)-1)=r;rw[yr];exact yj
   rw[e];rfl
theorem vP{F:Fz}{s:Z}{c:Int}{args:List V}(h:J1 F (Ae [Sh.str,Sh.int .u8] (s,c)) args):args=[.str s,.int .u8 c]:=by
 have:=h (fun _=>none) 0;simp only[Ae,BL,BC]at this;obtain⟨a,f,rfl,d,b,g,rfl,e,rfl⟩:=this;simp only[PR,DC,List.cons.injEq,ve]at d e;rw[d,e]
theorem T314.ok[Srt]:Af A9 314 uR:=by
 refine .inr ⟨PK.indexByte.run,by kernel_rfl,fun F h args i a b=>?_⟩;obtain⟨s,c⟩:=i;have:=vP a;subst this;refine⟨U5<|s.findIdx? fun x=>x==c.toNat.toUInt8,rfl,fun ρ N=>?_⟩;show PR F ρ N (.dat i64<|OM s c) _;unfold OM;cases s.findIdx? fun x=>x==c.toNat.toUInt8 with
 |none=>simp[PR,DC,U5]
 |some i=>simp[PR,DC,U5,Det.i64]
theorem qE[Srt]:Dn XH2:=Aa T314.ok AP
theorem WA{p:UInt8->Bool}{s:Z}{i:Nat}(h:s.findIdx? p=some i):i<s.length:=(List.findIdx?_eq_some_iff_getElem.1 h).1
theorem T131.ok[Srt]:Af A9 131 gF:=by
 refine BM qE<|fun(i:Z×Z) e=>?_;obtain⟨s,t⟩:=i;have e:(decide (t=[47])&&decide (s.length<=1000000))=true:=e;rw[zf,w5,w5]at e;obtain⟨rfl,hl⟩:=e;have a:s.any (fun x=>x==47)=(s.findIdx? fun x=>x==47).isSome:=by
  rw[List.findIdx?_isSome]
 refine zu (T131.Ai s [47]) (zn af<|zk (fun c=>?_)<|fun c=>zc af<|zc af<|zc af ?_)
 ·have c:s=[47]:=by
   have:[47]=s:=by simpa using c
   exact this.symm
  subst c;exact zc rfl (zc rfl (zc rfl (zh<|zy rfl rfl rfl)))
 ·have b:OM s (((([47]:Z).getD 0 0).toNat:Nat):Int)=match s.findIdx? (fun x=>x==47)with
   |some i=>(i:Int)
   |none=> -1:=rfl
  cases d:s.findIdx? (fun x=>x==47)with
  |none=>
   rw[d]at b;have b:OM s (((([47]:Z).getD 0 0).toNat:Nat):Int)= -1:=b;rw[b];refine zn af<|zh<|zy rfl rfl ?_;show(s,[],false)=(AG s,zt s,BE s);unfold AG zt BE;rw[a,d];rfl
  |some k=>
   rw[d]at b;have b:OM s (((([47]:Z).getD 0 0).toNat:Nat):Int)=(k:Int):=b;have h:=WA d;have g:zg .i64 ((k:Int)+(([47]:Z).length:Int))=((k+1:Nat):Int):=by
    show zg .i64 ((k:Int)+1)=_;rw[wr _ ae ae];omega
   rw[b,g,zi,zi];refine zc (by simp) (zc (by simp;omega)<|zc (by simp;omega)<|zh<|zy rfl rfl ?_);show(s.take k,(s.drop<|k+1).take<|yn s.length<|k+1,true)=(AG s,zt s,BE s);unfold AG zt BE;have f:(s.drop<|k+1).take (yn s.length<|k+1)=s.drop (k+1):=zm (by rw[zp];exact yz _);rw[a,d,f];rfl
namespace T165
theorem As[Srt]{Q:PV->Ob->Prop}(s:Z)(b:Ak s=true)(p:s.length<=18)(e:∀ob,Q (.dat i64<|AE 0 s) ob):∀(r:Z) (i:Nat),s.drop i=r->i<=s.length->Ends mL (L1 s (AE 0<|s.take i) i) Q
 |[],i,h,f=>by
  have j:i=s.length:=drop_nil h f;subst j;rw[yj];exact zj (Ar ..) (zn (by simp)<|zh<|e _)
 |c::r,i,h,f=>by
  obtain⟨q,t,n⟩:=drop_cons (d:=0) h;have o:=Bg<|Bf b i;have a:(s.take i).length=i:=by rw[zx];omega
  rw[a]at o;have x:(10:Int)^i<=10^17:=AN af ae;have w:BI c=true:=by
   unfold Ak at b;rw[List.all_eq_true]at b;exact b c<|kW h
  have l:=EE w;have m:48<=c.toNat/\c.toNat<=57:=by unfold J3 at l;omega
  have k:zg .i64 (c.toNat:Int)=(c.toNat:Int):=wr _ ae ae;have g:(10:Int)^17=100000000000000000:=af
  have u:zg .i64 (zg .i64 (zg .i64 (10*AE 0 (s.take i))+(c.toNat:Int))-48)=AE 0 (s.take<|i+1):=by
   rw[aO h,CL];show _=10*AE 0 (s.take i)+((c.toNat:Int)-48);generalize AE 0 (s.take i)=D at*;rw[wr (10*D) ae ae,wr (10*D+(c.toNat:Int)) ae ae,wr _ ae ae];omega
  have v:=wn (i:=i) ae;refine zj (Ar ..) (zc (by simp;omega) ?_);rw[zi,t,k,u,v];exact zc (by simp;omega)<|As s b p e r (i+1) n q
theorem ok[Srt]:Af A9 165 Sm:=by
 refine BM RG<|fun(s:Z) a=>?_;have a:(decide (s.length<=18)&&Ak s)=true:=a;rw[zf,w5]at a;exact zu (Ai s)<|As s a.2 a.1 (fun ob=>zy rfl rfl rfl) s 0 rfl (Nat.zero_le _)
end T165
theorem sF[Srt]:Dn aW:=Aa T165.ok<|Aa T164.ok AP
theorem LA{neg:Bool}{w:List Int}{D:Int}(d:Aw zd w)(c:ze zd w=D):(Cu neg w,Ax w)=(Sp.rN<|if neg=true then -D else D,Sp.rW<|if neg=true then -D else D):=by
 have h0:=AD (b:=zd) af d;rw[c]at h0;have f:Ax w=BG D:=by rw[FR d];show BG (ze zd w)=_;rw[c]
 have a:BG D=[]↔D=0:=jH af h0;have e:Ag (if neg=true then -D else D)=D:=by rw[Ah];split<;>omega
 unfold Cu Sp.rW Sp.rN;rw[e,f];congr 1;cases neg with
 |false=>simp;omega
 |true=>
  simp only[wm,yx,vc,a,decide_eq_decide];omega
namespace T166
theorem Acb:(10:Int)^9=1000000000:=af
theorem I6{s:Z}{m:Nat}(a:m+9=s.length):AE 0 s=AE 0 (s.take m)*1000000000+AE 0 (s.drop m):=by
 conv=>lhs;rw[<-ym m s]
 rw[CL,Er<|s.drop m,zp,show s.length-m=9 by omega,Acb]
theorem Ck{s:Z}(a:Ak s=true)(h:s.length<=9):0<=AE 0 s/\AE 0 s<1000000000:=by
 have:=Bg a;have b:(10:Int)^s.length<=10^9:=AN af h;rw[Acb]at b;omega
theorem BW{s:Z}(a:Ak s=true)(h:s.length<=18):DG s=true:=by
 unfold DG;rw[a,Bool.and_true];exact w4 h
theorem CW[Srt](neg:Bool)(D:Int)(h:∀(w:List Int) ob,Aw zd w->ze zd w=D->Q (.agg [.dat .bool<|Cu neg w,.dat li<|Ax w]) ob):∀(f:Nat) (s:Z) (o1:List Int),s.length<=f->Ak s=true->o1.length+s.length<=6000->Aw zd o1->ze zd o1+(zd:Int)^o1.length*AE 0 s=D->Ends aW (L3 s neg o1.length o1) Q:=by
 intro f;induction f with
 |zero=>
  intro s o1 o a l d c;have e:s.length<=9:=ae
  have b:=Ck a e;have g:(o1++[BJ s]).take (qp o1.length 1)=o1++[BJ s]:=zm (by simp);refine zj (Cr ..) (zn (by simp;omega) (zc (BW a ae)<|zc (by simp;omega) ?_));rw[g];refine zc (by simp;omega)<|zh<|h _ _ (E6 d b) ?_;rw[B5];exact c
 |succ f k=>
  intro s o1 o a l d c;by_cases e:s.length<=9
  ·have b:=Ck a e;have g:(o1++[BJ s]).take (qp o1.length 1)=o1++[BJ s]:=zm (by simp);refine zj (Cr ..) (zn (by simp;omega) (zc (BW a ae)<|zc (by simp;omega) ?_));rw[g];refine zc (by simp;omega)<|zh<|h _ _ (E6 d b) ?_;rw[B5];exact c
  ·obtain⟨m,i⟩:∃m,m+9=s.length:=⟨s.length-9,by omega⟩;have j:zg .i64 ((s.length:Int)-9)=(m:Int):=by rw[wr _ ae ae];omega
   have n:(s.drop m).take (yn s.length m)=s.drop m:=zm (by rw[zp];exact yz _);have b:=Ck (BS a m) (by rw[zp];omega);refine zj (Cr ..) (zc (by simp;omega) ?_);rw[j,zi,n];refine zc (by simp;omega) (zc (BW (BS a m)<|by rw[zp];omega) (zc (by simp;omega)<|zc (by simp;omega) ?_));have:=k (s.take m) (o1++[BJ<|s.drop m]) (by rw[zx];omega) (Bf a m) (by simp;omega) (E6 d b) (by
    rw[B5,zq];show ze zd o1+(zd:Int)^o1.length*AE 0 (s.drop m)+(zd:Int)^(o1.length+1)*AE 0 (s.take m)=D;rw[Lg,Int.add_assoc, <-yy, <-c,I6 i];congr 2;omega)
   rw[zq]at this;exact this
theorem BR[Srt](D:Int)(h:∀(w:List Int) ob,Aw zd w->ze zd w=D->Q (.agg [.dat .bool<|Cu false w,.dat li<|Ax w]) ob):∀(f:Nat) (s:Z) (o1:List Int),s.length<=f->Ak s=true->o1.length+s.length<=6000->Aw zd o1->ze zd o1+(zd:Int)^o1.length*AE 0 s=D->Ends aW (L4 s o1.length o1) Q:=by
 intro f;induction f with
 |zero=>
  intro s o1 o a l d c;have e:s.length<=9:=ae
  have b:=Ck a e;have g:(o1++[BJ s]).take (qp o1.length 1)=o1++[BJ s]:=zm (by simp);refine zj (CN ..) (zn (by simp;omega) (zc (BW a ae)<|zc (by simp;omega) ?_));rw[g];refine zc (by simp;omega)<|zh<|h _ _ (E6 d b) ?_;rw[B5];exact c
 |succ f k=>
  intro s o1 o a l d c;by_cases e:s.length<=9
  ·have b:=Ck a e;have g:(o1++[BJ s]).take (qp o1.length 1)=o1++[BJ s]:=zm (by simp);refine zj (CN ..) (zn (by simp;omega)<|zc (BW a ae) (zc (by simp;omega) ?_));rw[g];refine zc (by simp;omega)<|zh<|h _ _ (E6 d b) ?_;rw[B5];exact c
  ·obtain⟨m,i⟩:∃m,m+9=s.length:=⟨s.length-9,by omega⟩;have j:zg .i64 ((s.length:Int)-9)=(m:Int):=by rw[wr _ ae ae];omega
   have n:(s.drop m).take (yn s.length m)=s.drop m:=zm (by rw[zp];exact yz _);have b:=Ck (BS a m) (by rw[zp];omega);refine zj (CN ..) (zc (by simp;omega) ?_);rw[j,zi,n];refine zc (by simp;omega) (zc (BW (BS a m)<|by rw[zp];omega) (zc (by simp;omega)<|zc (by simp;omega) ?_));have:=k (s.take m) (o1++[BJ<|s.drop m]) (by rw[zx];omega) (Bf a m) (by simp;omega) (E6 d b) (by
    rw[B5,zq];show ze zd o1+(zd:Int)^o1.length*AE 0 (s.drop m)+(zd:Int)^(o1.length+1)*AE 0 (s.take m)=D;rw[Lg,Int.add_assoc, <-yy, <-c,I6 i];congr 2;omega)
   rw[zq]at this;exact this
theorem As[Srt](neg:Bool)(s:Z)(a:Ak s=true)(i:s.length<=5999)(d:∀(w:List Int) ob,Aw zd w->ze zd w=AE 0 s->Q (.agg [.dat .bool<|Cu neg w,.dat li<|Ax w]) ob):Ends aW (L1 s neg) Q:=by
 by_cases h:s.length<=9
 ·have b:=Ck a h;refine zj (Ar ..) (zn (by simp;omega) (zc (BW a ae)<|zc rfl (zc rfl (zh<|d _ _ (E6 (l:=[]) (fun x c=>by cases c) b) ?_))));show ze zd [AE 0 s]=_;exact Ec _
 ·obtain⟨m,f⟩:∃m,m+9=s.length:=⟨s.length-9,by omega⟩;have e:zg .i64 ((s.length:Int)-9)=(m:Int):=by rw[wr _ ae ae];omega
  have g:(s.drop m).take (yn s.length m)=s.drop m:=zm (by rw[zp];exact yz _);have b:=Ck (BS a m) (by rw[zp];omega);refine zj (Ar ..) (zc (by simp;omega) ?_);rw[e,zi,g];refine zc (by simp;omega) (zc (BW (BS a m)<|by rw[zp];omega) (zc rfl (zc (by simp;omega) ?_)));refine CW neg (AE 0 s) d m (s.take m) [BJ<|s.drop m] (by rw[zx];omega) (Bf a m) (by simp;omega) (E6 (l:=[]) (fun x c=>by cases c) b) ?_;rw[Ec,I6 f];show AE 0 (s.drop m)+(zd:Int)^1*_=_;rw[yp,jf,qi,zw];exact Int.add_comm _ _
theorem A1[Srt](s:Z)(a:Ak s=true)(i:s.length<=5999)(d:∀(w:List Int) ob,Aw zd w->ze zd w=AE 0 s->Q (.agg [.dat .bool<|Cu false w,.dat li<|Ax w]) ob):Ends aW (L2 s) Q:=by
 by_cases h:s.length<=9
 ·have b:=Ck a h;refine zj (AO ..) (zn (by simp;omega)<|zc (BW a ae) (zc rfl (zc rfl (zh<|d _ _ (E6 (l:=[]) (fun x c=>by cases c) b) ?_))));show ze zd [AE 0 s]=_;exact Ec _
 ·obtain⟨m,f⟩:∃m,m+9=s.length:=⟨s.length-9,by omega⟩;have e:zg .i64 ((s.length:Int)-9)=(m:Int):=by rw[wr _ ae ae];omega
  have g:(s.drop m).take (yn s.length m)=s.drop m:=zm (by rw[zp];exact yz _);have b:=Ck (BS a m) (by rw[zp];omega);refine zj (AO ..) (zc (by simp;omega) ?_);rw[e,zi,g];refine zc (by simp;omega) (zc (BW (BS a m)<|by rw[zp];omega) (zc rfl (zc (by simp;omega) ?_)));refine BR (AE 0 s) d m (s.take m) [BJ<|s.drop m] (by rw[zx];omega) (Bf a m) (by simp;omega) (E6 (l:=[]) (fun x c=>by cases c) b) ?_;rw[Ec,I6 f];show AE 0 (s.drop m)+(zd:Int)^1*_=_;rw[yp,jf,qi,zw];exact Int.add_comm _ _
theorem ok[Srt]:Af A9 166 RJ:=by
 refine BM sF<|fun(s:Z) a=>?_;have a:(decide (s.length<=5999)&&(if s.getD 0 0=45 then Ak (s.drop 1)else Ak s))=true:=a;rw[zf,w5]at a;obtain⟨g,a⟩:=a;have fin:∀(neg:Bool) (D:Int),Cf s=(if neg=true then -D else D)->∀(w:List Int) ob,Aw zd w->ze zd w=D->Ad RJ s (.agg [.dat .bool<|Cu neg w,.dat li<|Ax w]) ob:=by
  intro neg D i w ob j h;refine zy rfl rfl ?_;show(Cu neg w,Ax w)=(Sp.rN<|Cf s,Sp.rW<|Cf s);rw[i];exact LA j h
 refine zu (Ai s) ?_;conv=>zeta
 cases s with
 |nil=>exact zn af (A1 [] rfl af (fin false 0 rfl))
 |cons c r=>
  have f:(c::r).getD 0 0=c:=rfl;rw[f]at a;rw[f];refine zc (by simp) (zc (by simp)<|zk (fun d=>?_)<|fun d=>?_)
  ·have b:c=45:=by
    have:(c.toNat:Int)=45:=by simpa using d
    exact z7.1 (by show _=45;omega)
   rw[wd b]at a;have e:(qm 1 (c::r)).take (yn (c::r).length 1)=r:=by show r.take ((r.length+1)-1)=r;rw[yr];exact yj
   rw[d,e];refine zc (by simp) (As true r a (by simp at g;omega)<|fin true _ ?_);unfold Cf;rw[f,wd b,wd rfl];rfl
  ·have b:c≠45:=by
    rintro rfl;exact wh d af
   rw[wc b]at a;rw[d];refine As false (c::r) a g<|fin false _ ?_;unfold Cf;rw[f,wc b,wc af]
end T166
theorem rZ[Srt]:Dn Qg:=
 Aa T136n.ok (Aa T197.ok<|Aa T135.ok<|Aa T139.ok<|Aa T198.ok<|Aa (GN (by rfl)<|Bn ag)<|Aa (GN (by rfl)<|Bn ag) AP)
theorem Se(k:Nat):EO 18 (k:Int)=((min 18 k:Nat):Int):=by grind [EO]
theorem tQ(n:Int):zg .u8 n=n % 256:=by rfl
theorem xE(k:Nat):(10:Int)^k<=(Ao:Int)^k:=by
 induction k with
 |zero=>simp
 |succ k a=>
  grind
theorem Gw{n:Int}(h0:0<=n)(h:n<(10:Int)^(6000:Nat)):Bd (CJ n)=true:=by
 refine DA ?_;grind [Ah]
theorem NH(m n:Int):EH (CF m,CD m) (CF n,CD n)=CF (m*n)/\ET (CF m,CD m) (CF n,CD n)=CD (m*n):=by
 constructor
 ·show CF (zl (CJ _)*zl (CJ _))=_;rw[Ci,Ci]
 ·show CD (zl (CJ _)*zl (CJ _))=_;rw[Ci,Ci]
theorem sP{a b:AH}(h:0<=zl a+zl b):Ee a b=CJ (zl a+zl b):=by
 unfold Ee;grind [Ca,CJ,zl]
theorem Nq{m v:Int}(f:0<=m)(e:0<=v):JW (CF m,CD m) (v,Ct v)=CF (m+v)/\JU (CF m,CD m) (v,Ct v)=CD (m+v):=by
 have c:zl (CF m,CD m)=m:=Ci m;have d:zl (v,Ct v)=v:=by rw[Fe,E5]
 have:=sP (a:=(CF m,CD m)) (b:=(v,Ct v)) ae;rw[c,d]at this;exact⟨wi Prod.fst this,wi Prod.snd this⟩
theorem NM(n:Nat):Tp ((10:Int),Ct (10:Int)) (n:Int)=CF (10^n)/\TC ((10:Int),Ct (10:Int)) (n:Int)=CD (10^n):=by
 simp_all [WU,Fe,E5,Tp,TC]
theorem cK:Bd ((10:Int),Ct (10:Int))=true:=by rfl
theorem dT{n:Nat}(h:n<=18):pB (zl ((10:Int),Ct (10:Int))) (n:Int)=true:=by
 have a:(10:Int)^n<=10^18:=AN af h;have b:(10:Int)^18<18446744073709551616^1:=af
 have c:(18446744073709551616:Int)^(1:Nat)<=18446744073709551616^(4000:Nat):=ae;exact Ab (ad ae ae)<|w4<|qf a<|zr b c
theorem UT{v:Int}(h0:0<=v)(h:v<1000000000000000000):Bd (v,Ct v)=true:=by
 rw[Fe];exact Ab (by grind [KR,Et]) (by rfl)
theorem XL{w:Z}(a:Ak w=true)(h:w.length<=18):0<=AE 0 w/\AE 0 w<1000000000000000000:=by
 have:=Bg a;have b:(10:Int)^w.length<=10^18:=AN af h;omega
namespace T133
theorem Cd[Srt](W:Z)(neg:Bool)(s:Int)(h:List Int)(v:Int)(w:Z)(n:Nat)(I:w=W.take n)(hW:Ak W=true)(x:n=min 18 W.length)(G:1<=W.length)(a f:Int)(a0:0<=a)(u:Bd (CJ a)=true)(g:Bd (CJ<|a*10^n)=true)
  (q:Ends Qg (L5 (W.drop n) neg (CF<|a*10^n+AE 0 w) (CD<|a*10^n+AE 0 w) f) Q):
  ∀(r:Z) (j:Nat),w.drop j=r->j<=w.length->Ends Qg (L7 W neg s h v w (AE 0<|w.take j) w.length w.length j (w.map fun b=>(b.toNat:Int)) (CF a) (CD a) f) Q
 |[],j,o,i=>by
  have e:Ak w=true:=by grind [Bf]
  have p:w.length=n:=ah
  have B:j=w.length:=drop_nil o i;subst B;have k:=XL e ae;obtain⟨c,t,O⟩:∃c t,w=c::t:=by
   cases w with
   |nil=>grind
   |cons c t=>simp
  have l:((((w.getD 0 0).toNat:Int)==(45:Int))=false):=by
   unfold Ak at e;grind [BI]
  have E:(W.drop n).take (yn W.length n)=W.drop n:=(by simp_all [zm]);have p0:0<=a*10^n:=yv a0 ah;have C:Bd (CF<|10^n,CD<|10^n)=true:=by
   refine FC (Gw (n:=(10:Int)^n) ah ?_);have K:(10:Int)^n<=10^18:=AN af ae;omega
  refine zj (ES ..) (zn (by simp)<|zc ah ?_);rw[l,Se, <-x,(NM n).1,(NM n).2,yj];refine zn rfl (zc rfl (zc (by grind [cK,dT])<|zc (Ab u C)<|zc rfl ?_));rw[(NH _ _).1,(NH _ _).2,(Nq p0 k.1).1,(Nq p0 k.1).2,zi,E];exact zc (Ab g<|UT k.1 k.2) (by grind [zc])
 |c::r,j,o,i=>by
  have e:Ak w=true:=by grind [Bf]
  have p:w.length=n:=ah
  obtain⟨A,J,D⟩:=drop_cons (d:=0) o;have m:BI c=true:=by
   grind [Ak]
  have L:=EE m;have M:=Bg<|Bf e j;have N:(10:Int)^j<=10^17:=AN af ae;have y:(w.map fun b=>(b.toNat:Int)).getD j 0=(c.toNat:Int):=by
   grind
  have F:zg .u8 ((c.toNat:Int)-48)=J3 c:=by
   grind [tQ,J3]
  have H:zg .i64 (zg .i64 (AE 0 (w.take j)*10)+zg .i64 (J3 c))=AE 0 (w.take<|j+1):=by
   grind [CL,AE,wr]
  have z:zg .i64 ((j:Int)+1)=((j+1:Nat):Int):=by grind [wr]
  refine zj (ES ..) (zc ah ?_);rw[zi,y,F,H,z];refine zc ah (zc ah (zn ah ?_));exact Cd W neg s h v w n I hW x G a f a0 u g q r (j+1) D A
theorem CW[Srt](W:Z)(neg:Bool)(s:Int)(u:Int)(w:Z)(n:Nat)(I:w=W.take n)(hW:Ak W=true)(v:n=min 18 W.length)(G:1<=W.length)(a f:Int)(p:a=0)(a0:0<=a)(x:Bd (CJ a)=true)(g:Bd (CJ<|a*10^n)=true)
  (q:Ends Qg (L5 (W.drop n) neg (CF<|a*10^n+AE 0 w) (CD<|a*10^n+AE 0 w) f) Q):
  ∀(r:Z) (j:Nat),w.drop j=r->j<=w.length->Ends Qg (L3 W neg s u w (AE 0<|w.take j) w.length w.length j (w.map fun b=>(b.toNat:Int)) 0 f) Q
 |[],j,m,h=>by
  have e:Ak w=true:=by grind [Bf]
  have o:w.length=n:=ah
  have B:j=w.length:=drop_nil m h;subst B;have i:=XL e ae;obtain⟨c,t,O⟩:∃c t,w=c::t:=by
   cases w with
   |nil=>grind
   |cons c t=>simp
  have k:((((w.getD 0 0).toNat:Int)==(45:Int))=false):=by
   unfold Ak at e;grind [BI]
  have E:(W.drop n).take (yn W.length n)=W.drop n:=(by simp_all [zm]);have p0:0<=a*10^n:=ah;have C:Bd (CF<|10^n,CD<|10^n)=true:=by
   refine FC (Gw (n:=(10:Int)^n) ah ?_);have K:(10:Int)^n<=10^18:=AN af ae;omega
  refine zj (Cr ..) (zn (by simp)<|zc ah ?_);rw[k,Se, <-v,(NM n).1,(NM n).2,yj];refine zn rfl (zc rfl (zc (by grind [cK,dT])<|zc (Ab (by rfl) C)<|zc rfl ?_));rw[show EH ((0:Int),[]) (CF<|10^n,CD<|10^n)=CF (a*10^n)by rw[p];exact(NH 0 _).1,show ET ((0:Int),[]) (CF<|10^n,CD<|10^n)=CD (a*10^n)by rw[p];exact(NH 0 _).2,(Nq p0 i.1).1,(Nq p0 i.1).2,zi,E];exact zc (Ab g<|UT i.1 i.2) (by grind [zc])
 |c::r,j,m,h=>by
  have e:Ak w=true:=by grind [Bf]
  have o:w.length=n:=ah
  obtain⟨A,J,D⟩:=drop_cons (d:=0) m;have l:BI c=true:=by
   grind [Ak]
  have L:=EE l;have M:=Bg<|Bf e j;have N:(10:Int)^j<=10^17:=AN af ae;have y:(w.map fun b=>(b.toNat:Int)).getD j 0=(c.toNat:Int):=by
   grind
  have F:zg .u8 ((c.toNat:Int)-48)=J3 c:=by
   grind [tQ,J3]
  have H:zg .i64 (zg .i64 (AE 0 (w.take j)*10)+zg .i64 (J3 c))=AE 0 (w.take<|j+1):=by
   grind [CL,AE,wr]
  have z:zg .i64 ((j:Int)+1)=((j+1:Nat):Int):=by grind [wr]
  refine zj (Cr ..) (zc ah ?_);rw[zi,y,F,H,z];refine zc ah (zc ah<|zn ah ?_);exact CW W neg s u w n I hW v G a f p a0 x g q r (j+1) D A
theorem mV[Srt](W:Z)(neg:Bool)(o1:Int)(a:List Int)(e:Int)(hW:Ak W=true)(i:1<=W.length)(n:Nat)(g:n=min 18 W.length)
  (h:Ends Qg (L7 W neg o1 a e (W.take n) 0 (W.take n).length (W.take n).length 0 ((W.take n).map fun b=>(b.toNat:Int)) o1 a e) Q):Ends Qg (L5 W neg o1 a e) Q:=by
 have d:=Bf hW n;have f:((((W.take n).getD 0 0).toNat:Int)==(45:Int))=false/\((((W.take n).getD 0 0).toNat:Int)==(43:Int))=false:=by
  cases j:W.take n with
  |nil=>simp
  |cons c t=>
   unfold Ak at d;grind [BI]
 refine zj (Fb ..) (zc ah ?_);rw[Se, <-g,zi,f.1,f.2];exact zc ah (zc ah (zc ah<|zc ah<|zn rfl (zc ah<|zn rfl h)))
theorem oX[Srt](W:Z)(neg:Bool)(o1:Int)(d:Int)(hW:Ak W=true)(g:1<=W.length)(n:Nat)(f:n=min 18 W.length)
  (h:Ends Qg (L3 W neg o1 d (W.take n) 0 (W.take n).length (W.take n).length 0 ((W.take n).map fun b=>(b.toNat:Int)) o1 d) Q):Ends Qg (L1 W neg o1 d) Q:=by
 have a:=Bf hW n;have e:((((W.take n).getD 0 0).toNat:Int)==(45:Int))=false/\((((W.take n).getD 0 0).toNat:Int)==(43:Int))=false:=by
  cases i:W.take n with
  |nil=>simp
  |cons c t=>
   unfold Ak at a;grind [BI]
 refine zj (Ar ..) (zc ah ?_);rw[Se, <-f,zi,e.1,e.2];exact zc ah (zc ah<|zc ah (zc ah<|zn rfl (zc ah<|zn rfl h)))
theorem yG(n:Int)(h:0<=n):(Eh (CF n,CD n),Ej (CF n,CD n))=CJ (-n):=by
 show CY (CJ n)=_;unfold CY;split
 ·next c=>
  have:=Ci n;rw[Bu c.1]at this;rw[this,B7 (n:= -n)];by_cases a: -9223372036854775808<n/\n<9223372036854775808
  ·omega
  ·have e:CJ n=(1,BD<|Ag n):=by simp_all [CJ,wc]
   grind
 ·rw[Ci]
theorem X0{a D:Int}{W:Z}{n:Nat}(b:0<=a)(hW:Ak W=true)(h:n<=W.length)(i:a*10^W.length+AE 0 W=D):(a*10^n+AE 0 (W.take n))*10^(W.drop n).length+AE 0 (W.drop n)=D/\a<=D/\a*10^n<=D:=by
 have d:AE 0 W=AE 0 (W.take n)*10^(W.drop n).length+AE 0 (W.drop n):=by
  grind [ym,CL,Er]
 have e:W.length=n+(W.drop n).length:=ah
 have f:=(Bg hW).1;have one:∀k:Nat,(1:Int)<=10^k:=fun k=>by have:=Be (show(0:Int)<10 by decide) k;omega
 have c:a<=a*10^W.length:=by have:=zo (one W.length) b;omega
 have g:a*10^n<=a*10^n*10^(W.drop n).length:=by
  have:=zo (one (W.drop n).length) (yv b (show(0:Int)<=10^n by grind));omega
 grind
theorem Cs[Srt](neg:Bool)(e D:Int)(b:D<(10:Int)^(6000:Nat))(k:∀ob,Q (.agg [.dat i64<|CF<|if neg=true then -D else D,.dat (.nlist u64)<|CD<|if neg=true then -D else D]) ob):∀(f:Nat) (W:Z) (a:Int),W.length<f->W.length<=6000->0<=a->Ak W=true->a*10^W.length+AE 0 W=D->Ends Qg (L5 W neg (CF a) (CD a) e) Q
 |0,W,a,m,_,_,_,_=>by omega
 |f+1,W,a,m,l,d,hQ,g=>by
  cases i:W with
  |nil=>
   have g:a=D:=by grind [AE]
   subst g;have h:=Gw d b;refine zj (Fb ..) (zn (by simp)<|zk (fun c=>zc (BZ h).1<|zh ?_)<|fun c=>zh ?_)
   ·have:=yG a d;have q:Eh (CF a,CD a)=CF (-a):=wi Prod.fst this;have p:Ej (CF a,CD a)=CD (-a):=wi Prod.snd this;grind
   grind
  |cons c t=>
   rw[<-i];have j:1<=W.length:=ah
   obtain⟨r1,r2,r⟩:=X0 (n:=min 18 W.length) d hQ ae g;have o:=(Bg<|Bf hQ<|min 18 W.length).1;have s:0<=a*10^(min 18 W.length):=yv d ah;refine mV W neg _ _ e hQ j _ rfl (Cd W neg _ _ e _ _ rfl hQ rfl j a e d (by grind [Gw]) (by grind [Gw]) ?_ _ 0 rfl ae);exact Cs neg e D b k f (W.drop<|min 18 W.length) _ ah ah ae (BS hQ _) r1
theorem As[Srt](neg:Bool)(W:Z)(h:W.length<=5999)(hW:Ak W=true)(f:∀ob,Q (.agg [.dat i64<|CF<|if neg=true then -AE 0 W else AE 0 W,.dat (.nlist u64)<|CD<|if neg=true then -AE 0 W else AE 0 W]) ob)(g:W=[]->∀ob v,(v=.agg [.dat i64 0,.nil]\/v=.agg [.dat i64<|Eh ((0:Int),[]),.dat (.nlist u64)<|Ej ((0:Int),[])])->Q v ob):Ends Qg (L1 W neg 0 0) Q:=by
 cases b:W with
 |nil=>
  refine zj (Ar ..) (zn (by simp)<|zk (fun c=>zc af<|by simp_all)<|by simp_all)
 |cons c t=>
  rw[<-b];have e:1<=W.length:=ah
  have d:AE 0 W<(10:Int)^(6000:Nat):=zr (Bg hW).2 (AN af ae);obtain⟨r1,r2,j⟩:=X0 (a:=0) (n:=min 18 W.length) (D:=AE 0 W) ae hW ae ae;have i:=(Bg<|Bf hW<|min 18 W.length).1;refine oX W neg 0 0 hW e _ rfl (CW W neg 0 0 _ _ rfl hW rfl e 0 0 rfl ae af (by rw[Int.zero_mul];decide) ?_ _ 0 rfl ae);exact Cs neg 0 _ d f (W.length+1) (W.drop<|min 18 W.length) _ ah ah ae (BS hW _) r1
theorem ok[Srt]:Af A9 133 On:=by
 refine BM rZ<|fun(s:Z) a=>?_;have a:(decide (s.length<=5999)&&(if s.getD 0 0=45 then Ak (s.drop 1)else Ak s))=true:=a;rw[zf,w5]at a;obtain⟨m,a⟩:=a;have fin:∀D,Cf s=D->∀ob,Ad On s (.agg [.dat i64<|CF D,.dat (.nlist u64)<|CD D]) ob:=by
  rintro D rfl ob;exact zy rfl rfl rfl
 have b:Cf s=0->∀ob v,(v=.agg [.dat i64 0,.nil]\/v=.agg [.dat i64<|Eh ((0:Int),[]),.dat (.nlist u64)<|Ej ((0:Int),[])])->Ad On s v ob:=by
  rintro h ob v (rfl|rfl)
  ·refine zy rfl rfl ?_;show((0:Int),([]:List Int))=(CF<|Cf s,CD<|Cf s);rw[h];rfl
  ·refine zy rfl rfl ?_;show CY ((0:Int),([]:List Int))=(CF<|Cf s,CD<|Cf s);rw[h];rfl
 refine zu (Ai s) ?_;conv=>zeta
 cases s with
 |nil=>
  refine zn af (zn af (zj (AO ..)<|zn af<|zh<|b rfl _ _ (.inl rfl)))
 |cons c r=>
  have j:(c::r).take 1=[c]:=rfl;have k:(c::r).getD 0 0=c:=rfl;rw[k]at a;have e:(qm 1 (c::r)).take (yn (c::r).length 1)=r:=by simp
  have f:decide (((c::r).length:Int)>=1)=true:=ah;have g:decide (1<=(c::r).length)=true:=(by rfl);rw[j,e];refine zc f<|zc g<|zc f<|zc g<|zk (fun d=>?_)<|fun d=>?_
  ·have l:c=45:=ah
   rw[wd l]at a;rw[d];have i:Cf (c::r)= -AE 0 r:=by simp_all [Cf]
   refine zc (by simp) (As true r ah a ah<|fun h0=>b<|by rw[i,h0];rfl)
  simp_all [Cf,As]
end T133
namespace T110
theorem loop[Srt]{Q:PV->Ob->Prop}(l:List Int)(f:l.length<=1000000):∀(r:List Int) (i:Nat),l.drop i=r->i<=l.length->Q (.dat i64<|jh r) []->Ends NZ (L1 l ((l.length:Int)) i) Q
 |[],i,h,j,a=>by
  refine zj (Ar ..) ?_;conv=>zeta
  have:¬i<l.length:=by
   intro b;have:=List.drop_eq_getElem_cons b;rw[h]at this;cases this
  have e:i=l.length:=ae
  subst e;simpa [jh]using a
 |x::r,i,h,j,a=>by
  obtain⟨b,g,k⟩:=drop_cons (d:=0) h;refine zj (Ar ..) ?_;conv=>zeta
  rw[Ir,wd (by simp;omega),Ir,wd (by simp;omega),Ir];simp only[zi,g];by_cases c:x=0
  ·subst c;rw[wc (by simp),wr _ ae ae];exact loop l f r (i+1) k b (by simpa [jh]using a)
  ·rw[wd<|by simpa using c];simpa [jh,c]using a
theorem ok[Srt]:Af A9 110 FE:=by
 refine BM Fk<|fun l a=>?_;refine zu (Ai l) ?_;conv=>zeta
 exact loop l (by simpa [FE]using a) l 0 rfl (Nat.zero_le _) (zy rfl rfl rfl)
end T110
theorem T111.ok[Srt]:Af A9 111 Ks:=by
 refine BM Fk<|fun⟨c,e⟩ _=>?_;refine zu (T111.Ai c e) ?_;conv=>zeta
 have key:∀x:Int,x=Hi c e->Ad Ks (c,e) (.dat i64 x) []:=fun x a=>zy rfl rfl a
 simp only[Ir,QT];cases c
 ·exact key _ rfl
 ·exact key _ rfl
theorem oF[Srt]:Dn Lw:=
 Aa T110.ok (Aa T111.ok<|Aa T141.ok<|Aa T131.ok<|Aa T142.ok<|Aa T143.ok<|Aa T133.ok<|Aa T144.ok<|Aa T136n.ok AP)
theorem Ht{s:Z}(h:AW s=true):s≠[]/\Ak s=true:=by
 unfold AW at h;rw[zf,zf,w5]at h;exact h.1
theorem Lb{s:Z}(h:Ak s=true)(b:s.length<=5999):D7 s=true/\Cf s=AE 0 s:=by
 have h0:s.getD 0 0≠45:=by
  cases s with
  |nil=>decide
  |cons c r=>
   unfold Ak at h;rw[ye,zf]at h;have:=EE h.1;rintro a;have a:c=45:=a;subst a;exact wh this af
 unfold D7 Cf;rw[wc h0,wc h0,h,Bool.and_true];exact⟨w4 b,rfl⟩
theorem tZ{a b L:Int}(f:0<=a)(c:0<=b)(g:a<L)(d:b<L):0<=ql a b/\ql a b<L:=by
 rw[Gx];obtain⟨x,rfl⟩:=yi f;obtain⟨y,rfl⟩:=yi c;have e:qd (x:Int) (y:Int)=Nat.gcd x y:=rfl;rw[e];refine⟨Int.natCast_nonneg _,?_⟩;rcases Nat.eq_zero_or_pos x with h|h
 ·subst h;rw[Nat.gcd_zero_left];exact d
 ·have:=Nat.gcd_le_left y h;omega
namespace T86
def E(A B:Z)(b a:Bool):Int:=if a=false then 1 else if 600<A.length\/600<B.length then 4 else if b=true/\ql (AE 0 A) (AE 0 B)≠1 then 1 else 0
theorem Fo[Srt](A B:Z)(a:Bool)(i:Ak A=true)(b:a=true->Ak B=true)(y:A.length<=600)(x:B.length<=600)(d:∀ob,Q (.dat i64<|if a=true/\ql (AE 0 A) (AE 0 B)≠1 then 1 else 0) ob):Ends Lw (L8 A B a) Q:=by
 refine zj (H3 ..)<|zk (fun c=>?_)<|fun c=>?_
 ·have b:=b c;obtain⟨r1,r2⟩:=Lb i ae;obtain⟨r3,r4⟩:=Lb b ae;have f:=Bg i;have e:=Bg b;have j:AE 0 A<(10:Int)^(6000:Nat):=zr f.2 (AN af ae);have k:AE 0 B<(10:Int)^(6000:Nat):=zr e.2 (AN af ae);have n:C3 A=CF (AE 0 A):=by unfold C3;rw[r2]
  have u:C4 A=CD (AE 0 A):=by unfold C4;rw[r2]
  have v:C3 B=CF (AE 0 B):=by unfold C3;rw[r4]
  have s:C4 B=CD (AE 0 B):=by unfold C4;rw[r4]
  have w:MV (CF<|AE 0 A,CD<|AE 0 A) (CF<|AE 0 B,CD<|AE 0 B)=CF (ql (AE 0 A)<|AE 0 B):=by
   unfold MV;rw[Lj,Lj]
  have o:MQ (CF<|AE 0 A,CD<|AE 0 A) (CF<|AE 0 B,CD<|AE 0 B)=CD (ql (AE 0 A)<|AE 0 B):=by
   unfold MQ;rw[Lj,Lj]
  obtain⟨r,t⟩:=tZ f.1 e.1 j k;have m:Zc (CF<|ql (AE 0 A)<|AE 0 B,CD<|ql (AE 0 A)<|AE 0 B) ((1:Int),Ct (1:Int))=B6 (ql (AE 0 A)<|AE 0 B) 1:=by
   unfold Zc;rw[Lj,Fe,E5]
  rw[n,u,v,s,w,o,m];have l:Bd ((1:Int),Ct (1:Int))=true:=by rw[Fe];decide
  refine zc r1<|zc r3<|zc (Ab (FC<|Gw f.1 j)<|FC<|Gw e.1 k)<|zc rfl (zc (Ab (FC<|Gw r t) l) ?_);refine zj (XS ..)<|zc rfl (zh ?_);generalize ql (AE 0 A) (AE 0 B)=g at*;have:Hi (B6 g 1 !=0) 1=if a=true/\g≠1 then 1 else 0:=by
   unfold B6 Hi;by_cases h:g=1
   ·subst h;rw[c];rfl
   ·have p:(if a=true/\g≠1 then(1:Int)else 0)=1:=wd ⟨c,h⟩;rw[p];rcases Int.lt_or_gt_of_ne h with q|q
    ·rw[wd q];rfl
    ·rw[wc ae,wd q];rfl
  rw[this];exact d _
 ·refine zj Wi<|zc rfl (zh ?_);rw[wc<|by rw[c];simp]at d;exact d _
theorem Cd[Srt](A B:Z)(e a c d:Bool)(k:c= !a)(f:d=true↔600<A.length\/600<B.length)(j:a=true->Ak A=true/\(e=true->Ak B=true))(b:∀ob,Q (.dat i64<|E A B e a) ob):Ends Lw (L7 A B e<|jh [Hi c 1,Hi d 4]) Q:=by
 subst k;unfold E at b;cases a with
 |false=>
  refine zj (ES ..)<|zc ?_<|zh<|b _;cases d<;>rfl
 |true=>
  rw[wc af]at b;cases d with
  |true=>
   rw[wd<|f.1 rfl]at b;exact zj (ES ..)<|zc rfl (zh<|b _)
  |false=>
   have i:¬(600<A.length\/600<B.length):=fun h=>by have:=f.2 h;cases this
   rw[wc i]at b;obtain⟨l,g⟩:=j rfl;exact zj (ES ..) (zn rfl (Fo A B e l g ae ae b))
theorem BR[Srt](A B:Z)(b a:Bool)(d:a=true->Ak A=true/\(b=true->Ak B=true))(e:∀ob,Q (.dat i64<|E A B b a) ob):Ends Lw (L4 A B b a) Q:=by
 refine zj (CN ..)<|zc rfl (zk (fun c=>zc rfl (zc rfl ?_))<|fun c=>zc rfl (zc rfl ?_))
 ·have c:=w6 c;exact Cd A B b a _ _ rfl ⟨fun _=>.inl ae,fun _=>rfl⟩ d e
 ·have c:=w7 c;exact Cd A B b a _ _ rfl ⟨fun h=>.inr (by have:=w6 h;omega),fun h=>w4 ae⟩ d e
theorem Cs[Srt](A B:Z)(a:Bool)(b:∀ob,Q (.dat i64<|E A B a false) ob):Ends Lw (L5 A B a) Q:=by
 refine zj (Fb ..)<|zc rfl (zk (fun c=>zc rfl (zc rfl ?_))<|fun c=>zc rfl (zc rfl ?_))
 ·have c:=w6 c;exact Cd A B a false _ _ rfl ⟨fun _=>.inl ae,fun _=>rfl⟩ (fun h=>by cases h) b
 ·have c:=w7 c;exact Cd A B a false _ _ rfl ⟨fun h=>.inr (by have:=w6 h;omega),fun h=>w4 ae⟩ (fun h=>by cases h) b
theorem EB[Srt](A B:Z)(a:Bool)(b:Ak A=true/\(a=true->Ak B=true))(d:∀ob,Q (.dat i64<|E A B a true) ob):Ends Lw (L6 A B a) Q:=by
 refine zj (Gu ..)<|zc rfl (zk (fun c=>zc rfl (zc rfl ?_))<|fun c=>zc rfl (zc rfl ?_))
 ·have c:=w6 c;exact Cd A B a true _ _ rfl ⟨fun _=>.inl ae,fun _=>rfl⟩ (fun _=>b) d
 ·have c:=w7 c;exact Cd A B a true _ _ rfl ⟨fun h=>.inr (by have:=w6 h;omega),fun h=>w4 ae⟩ (fun _=>b) d
theorem T2[Srt]{F:Tr}(A B:Z)(f:Bool)(j:B.length<=1000000)(k:Ak A=true)(a:Bool)(b:a=(!f||(AW B&&decide (B≠[48])&&decide (B≠[49]))))(g:∀ob,Q (.dat i64<|E A B f a) ob)
  (h:(f=true->Ends Lw (.ite (decide (B.length<=1000000)) (.ite (AW B) (.ite (!B==[(48:UInt8)]) (L4 A B f<|!B==[(49:UInt8)])<|L5 A B f)<|L5 A B f) .fail) Q)->(f=false->a=true)->Ends Lw F Q):Ends Lw F Q:=by
 refine h (fun i=>zc (w4 j) ?_) (fun i=>by rw[b,i];rfl);rw[i]at b;refine zk (fun c=>zk (fun d=>?_)<|fun d=>?_)<|fun c=>?_
 ·have d:B≠[48]:=by simpa using d
  have e:a=(!B==[(49:UInt8)]):=by
   rw[b,c,w4 d];by_cases h:B=[49]
   ·rw[h];rfl
   ·rw[w4 h];simp[h]
  rw[<-e];exact BR A B f a (fun _=>⟨k,fun _=>(Ht c).2⟩) g
 ·have d:B=[48]:=by simpa using d
  have e:a=false:=by rw[b,w8<|fun h=>h d];simp
  rw[e]at g;exact Cs A B f g
 ·have e:a=false:=by rw[b,c];simp
  rw[e]at g;exact Cs A B f g
theorem Hp(s:Z):(AG s).length<=s.length/\(zt s).length<=s.length:=by
 unfold AG zt;cases s.findIdx? (fun x=>x==47)with
 |none=>simp
 |some i=>simp;omega
theorem XP(s:Z):(Bk s).length<=s.length:=by
 unfold Bk;split
 ·simp
 ·exact yz _
theorem ok[Srt]:Af A9 86 Jq:=by
 refine BM oF<|fun(a:Z) o=>?_;have o:a.length<=1000000:=w6 o;have r:=XP a;obtain⟨t,s⟩:=Hp<|Bk a;have j:∀b,b=HY a->∀ob,Ad Jq a (.dat i64<|E (AG<|Bk a) (zt<|Bk a) (BE<|Bk a) b) ob:=by
  rintro b rfl ob;exact zy rfl rfl rfl
 have g:HY a=(AW (AG<|Bk a)&&(!jc a||decide (AG (Bk a)≠[48]))&&(!BE (Bk a)||(AW (zt<|Bk a)&&decide (zt (Bk a)≠[48])&&decide (zt (Bk a)≠[49])))):=rfl;refine zu (Ai a) (zc (Ab (w4 rfl)<|w4 o) (zc (Ab (w4 rfl)<|w4 ae) (zc (w4 ae) ?_)));generalize AG (Bk a)=A at*;generalize zt (Bk a)=B at*;generalize BE (Bk a)=f at*;refine zk (fun c=>?_)<|fun c=>?_
 ·have k:=(Ht c).2;refine zk (fun d=>?_)<|fun d=>?_
  ·have i:HY a=(!f||(AW B&&decide (B≠[48])&&decide (B≠[49]))):=by rw[g,c,d];rfl
   refine T2 A B f ae k (HY a) i (j _ rfl)<|fun p q=>zj (Ar ..)<|zk p<|fun e=>?_;have m:=q e;exact EB A B f ⟨k,fun h=>by rw[e]at h;cases h⟩<|j true m.symm
  ·by_cases l:A=[48]
   ·have i:HY a=false:=by rw[g,d,w8<|fun h=>h l];simp
    have n:(!A==[(48:UInt8)])=false:=by rw[l];rfl
    rw[n];refine zj (AO ..) (zk (fun e=>zn rfl (Cs A B f<|j false i.symm))<|fun e=>BR A B f false (fun h=>by cases h)<|j false i.symm)
   ·have n:(!A==[(48:UInt8)])=true:=by simp[l]
    have i:HY a=(!f||(AW B&&decide (B≠[48])&&decide (B≠[49]))):=by rw[g,c,d,w4 l];rfl
    rw[n];refine T2 A B f ae k (HY a) i (j _ rfl)<|fun p q=>zj (AO ..)<|zk (fun e=>zc rfl (p e))<|fun e=>?_;have m:=q e;exact BR A B f true (fun _=>⟨k,fun h=>by rw[e]at h;cases h⟩)<|j true m.symm
 ·have i:HY a=false:=by rw[g,c];simp
  exact zj (Cr ..)<|zk (fun e=>Cs A B f<|j false i.symm)<|fun e=>Cs A B f<|j false i.symm
end T86
theorem DP(c:UInt8)(r:Z):AG (c::r)=if c=47 then[]else c::AG r:=by
 unfold AG;grind
namespace T151
theorem As[Srt]{Q:PV->Ob->Prop}(s:Z)(f:s.length<=9223372036854775807):∀(r:Z) (i:Nat),s.drop i=r->i<=s.length->(∀ob,Q (.dat i64 (((i+(AG r).length:Nat)):Int)) ob)->Ends NZ (L1 s i) Q
 |[],i,h,b,a=>by
  have e:i=s.length:=drop_nil h b;subst e;exact zj (Ar ..) (zn (by simp)<|zh<|a _)
 |c::r,i,h,b,a=>by
  obtain⟨g,j,m⟩:=drop_cons (d:=0) h;have k:zg .i64 ((i:Int)+1)=((i+1:Nat):Int):=by grind [wr]
  rw[DP]at a;refine zj (Ar ..) (zc ah ?_);rw[zi,j,k];refine zc ah<|zk (fun d=>?_)<|fun d=>?_
  ·have l:c=47:=by
    exact z7.1 ah
   simp_all
  ·have l:c≠47:=by rintro rfl;grind
   refine As s f r (i+1) m g<|fun ob=>?_;grind
theorem ok[Srt]:Af A9 151 RX:=by
 refine BM Fk<|fun(s:Z) a=>?_;have a:s.length<=1000000:=w6 a;refine zu (Ai s) (As s ae s 0 rfl ae (fun ob=>zy rfl rfl ?_));rw[jg];rfl
theorem okU[Srt]:Af A9 151 Xf:=by
 refine BM Fk<|fun(s:Z) a=>?_;have a:s.length<=9223372036854775807:=w6 a;refine zu (Ai s) (As s a s 0 rfl ae (fun ob=>zy rfl rfl ?_));rw[jg];rfl
end T151
namespace T152
theorem Vj{s:Z}{r:Z}{c:UInt8}{i:Nat}(h:s.drop i=c::r):Ak (s.drop i)=(BI c&&Ak (s.drop<|i+1)):=by
 obtain⟨_,_,a⟩:=drop_cons (d:=0) h;rw[a,h];rfl
theorem As[Srt](s:Z)(j:s.length<=9223372036854775807):∀(r:Z) (i:Nat),s.drop i=r->i<=s.length->(∀ob,Q (.bl<|Ak<|s.drop i) ob)->Ends NZ (L1 s s i) Q
 |[],i,h,f,a=>by
  have g:i=s.length:=drop_nil h f;rw[h]at a;subst g;exact zj (Ar ..) (zn (by simp)<|zh<|a _)
 |c::r,i,h,f,a=>by
  obtain⟨k,l,n⟩:=drop_cons (d:=0) h;have m:zg .i64 ((i:Int)+1)=((i+1:Nat):Int):=by grind [wr]
  rw[Vj h]at a;refine zj (Ar ..) (zc ah ?_);rw[zi,l,m];refine zc ah (zk (fun d=>?_) (fun d=>zc ah<|zk (fun e=>?_)<|fun e=>?_))
  ·grind [BI,zh]
  ·have b:BI c=false:=by unfold BI;grind
   simp_all
  ·have b:BI c=true:=by grind [BI]
   rw[b,yx]at a;exact As s j r (i+1) n k a
theorem A1[Srt](s:Z)(j:s.length<=9223372036854775807):∀(r:Z) (i:Nat),s.drop i=r->i<=s.length->(∀ob,Q (.bl<|Ak<|s.drop i) ob)->Ends NZ (L2 s s i) Q
 |[],i,h,f,a=>by
  have g:i=s.length:=drop_nil h f;rw[h]at a;subst g;exact zj (AO ..) (zn (by simp)<|zh<|a _)
 |c::r,i,h,f,a=>by
  obtain⟨k,l,n⟩:=drop_cons (d:=0) h;have m:zg .i64 ((i:Int)+1)=((i+1:Nat):Int):=by grind [wr]
  rw[Vj h]at a;refine zj (AO ..) (zc ah ?_);rw[zi,l,m];refine zc ah (zk (fun d=>?_) (fun d=>zc ah<|zk (fun e=>?_)<|fun e=>?_))
  ·grind [BI,zh]
  ·have b:BI c=false:=by unfold BI;grind
   simp_all
  ·have b:BI c=true:=by grind [BI]
   rw[b,yx]at a;exact A1 s j r (i+1) n k a
theorem okU[Srt]:Af A9 152 Rm:=by
 refine BM Fk<|fun(s:Z) a=>?_;have a:s.length<=9223372036854775807:=w6 a;have f:∀b ob,b=AW s->Ad Rm s (.bl b) ob:=fun b ob g=>zy rfl rfl g
 refine zu (Ai s) ?_;conv=>zeta
 cases s with
 |nil=>exact zc rfl (zh<|f _ _ rfl)
 |cons c r=>
  have i:(c::r).getD 0 0=c:=rfl;rw[i];refine zn (by rfl) (zk (fun d=>zc (by simp)<|zk (fun e=>zh<|f _ _ ?_)<|fun e=>?_)<|fun d=>?_)
  ·have h:c=48:=by
    exact z7.1 ah
   grind [AW]
  ·have h:c≠48:=by rintro rfl;grind
   refine As (c::r) a (c::r) 0 rfl ae (fun ob=>f _ _ ?_);grind [AW]
  ·have j:r=[]:=by
    grind
   subst j;refine A1 [c] a [c] 0 rfl ae (fun ob=>f _ _ ?_);grind [AW]
end T152
theorem pK[Srt]:Dn uG:=Aa T164.ok AP
namespace T101
theorem NV{v:Int}(a: -9223372036854775808<=v/\v<9223372036854775808):∃q d:Nat,Ag v=d+1000000000*q/\d<1000000000/\zg .i64 (Int.tdiv v 1000000000)=(if v<0 then -(q:Int)else q)/\Int.tmod v 1000000000=(if v<0 then -(d:Int)else d):=by
 refine⟨v.natAbs/1000000000,v.natAbs % 1000000000,by rw[Ah];omega,by omega,?_,?_⟩
 ·by_cases h:v<0
  ·have:=Int.neg_tdiv (-v) 1000000000;rw[Int.neg_neg]at this;rw[this,yc ae,wd h,wr _ ae ae];omega
  ·rw[yc ae,wc h,wr _ ae ae];omega
 ·by_cases h:v<0
  ·have:=Int.neg_tmod (-v) 1000000000;grind
  grind
theorem A1[Srt](neg:Bool)(D:Int)(i:∀(w:List Int) ob,Aw zd w->ze zd w=D->Q (.agg [.dat .bool<|Cu neg w,.dat li<|Ax w]) ob):∀(f:Nat) (v:Int) (o1:List Int),Ag v<f->(-9223372036854775808<=v/\v<9223372036854775808)->o1.length<=100->(Ag v≠0->Ag v*1000000000^o1.length<=9223372036854775808)->Aw zd o1->ze zd o1+(zd:Int)^o1.length*Ag v=D->Ends uG (L2 v o1.length neg o1) Q
 |0,v,o1,n,a,l,k,b,h=>by
  have:=AK v;omega
 |f+1,v,o1,n,a,l,k,b,h=>by
  obtain⟨q,d,s1,s2,s3,s4⟩:=NV a;by_cases h0:v=0
  ·subst h0;have r:Ag 0=0:=rfl;refine zj (AO ..)<|zn rfl ?_;grind [zc,zh]
  ·have m:Ag v≠0:=by rw[Ah];omega
   have e:o1.length<=10:=by
    rcases Nat.lt_or_ge 10 o1.length with g|g
    ·have j:(1000000000:Int)^11<=1000000000^o1.length:=AN af g;have p:=yh (show 1<=Ag v by omega) (show(0:Int)<=1000000000^o1.length by omega);omega
    omega
   have eq:Ag (if v<0 then -(q:Int)else q)=q:=by grind [Ah]
   have go:Ends uG (L2 (if v<0 then -(q:Int)else q) (qp o1.length 1) neg<|o1++[(d:Int)]) Q:=by
    have:=A1 neg D i f (if v<0 then -(q:Int)else q) (o1++[(d:Int)]) ae (by grind [Ah]) ah (fun _=>by
     rw[eq,zq];show(q:Int)*1000000000^(o1.length+1)<=_;rw[yp, <-qk,Int.mul_right_comm];have j:=yh (show(q:Int)*1000000000<=Ag v by omega) (show(0:Int)<=1000000000^o1.length from ah);omega) (E6 b ae) (by
     rw[eq,B5,zq];show ze zd o1+(zd:Int)^o1.length*(d:Int)+(zd:Int)^(o1.length+1)*(q:Int)=D;grind)
    grind
   refine zj (AO ..) (zc ah<|zc rfl ?_);refine zk (fun c=>zc ah<|zc rfl ?_) (fun c=>zc ah<|zc rfl ?_)
   ·have o:zg .i64 (0 - -(d:Int))=(d:Int):=by grind [wr]
    grind
   grind
theorem ok[Srt]:Af A9 101 Jr:=by
 refine BM pK<|fun(v:Int) a=>?_;have a:=EA (n:=v) a;have fin:∀(w:List Int) ob,Aw zd w->ze zd w=Ag v->Ad Jr v (.agg [.dat .bool<|Cu (decide (v<0)) w,.dat li<|Ax w]) ob:=by
  intro w ob f g;refine zy rfl rfl ?_;have:=LA (neg:=decide (v<0)) f g;have e:(if decide (v<0)=true then -Ag v else Ag v)=v:=by
   rw[Ah];grind
  rw[e]at this;exact this
 obtain⟨q,d,s1,s2,s3,s4⟩:=NV a;refine zu (Ai v) ?_;conv=>zeta
 by_cases h0:v=0
 ·subst h0;exact zj (Ar ..) (zn rfl (zc rfl (zh<|fin [] _ (fun x b=>by cases b) rfl)))
 ·have eq:Ag (if v<0 then -(q:Int)else q)=q:=by grind [Ah]
  have go:Ends uG (L2 (if v<0 then -(q:Int)else q) 1 (decide (v<0)) [(d:Int)]) (Ad Jr v):=by
   refine A1 (decide (v<0)) (Ag v) fin (q+1) _ [(d:Int)] ae (by grind [Ah]) (by simp) (fun _=>?_) (fun x b=>by grind) ?_
   ·grind [Ah]
   grind [Ec]
  refine zj (Ar ..) (zc ah<|zc rfl ?_);refine zk (fun c=>zc rfl (zc rfl ?_))<|fun c=>zc rfl (zc rfl ?_)
  ·have h:zg .i64 (0 - -(d:Int))=(d:Int):=by grind [wr]
   grind
  grind
end T101
theorem qB[Srt]:Dn XK3:=Aa T151.ok<|Aa T166.ok<|Aa T101.ok AP
theorem BN:∀(s:Z),AG s=s.take (AG s).length/\(BE s=true->(AG s).length<s.length/\zt s=s.drop ((AG s).length+1))/\(BE s=false->AG s=s/\zt s=[])
 |[]=>⟨rfl,(fun h=>(by cases h)),fun _=>⟨rfl,rfl⟩⟩
 |c::r=>by
  obtain⟨d,e,f⟩:=BN r;have b:zt (c::r)=if c=47 then r else zt r:=by
   unfold zt;grind
  have a:BE (c::r)=(decide (c=47)||BE r):=by
   rfl
  rw[DP,b,a];grind
theorem T103.ok[Srt]:Af A9 103 Nt:=by
 refine BM qB<|fun(a:Z) d=>?_;have d:(D7 (AG a)&&D7 (zt a)&&decide (a.length<=5999))=true:=d;rw[zf,zf,w5]at d;obtain⟨⟨e,h⟩,k⟩:=d;obtain⟨c1,c2,c3⟩:=BN a;have es:Bc a=((AG a).length:Int):=rfl;refine zu (T103.Ai a) (zc ah<|zk (fun c=>?_)<|fun c=>?_)
 ·have b:BE a=false:=by
   grind
  obtain⟨f,g⟩:=c3 b;rw[f]at e;refine zc e<|zc rfl (zh<|zy rfl rfl ?_);show((Hy a,HC a),(false,Sp.rW 1))=((BH a,BA a),(Bm a,Bi a));unfold BH BA Bm Bi Bh AS Hy HC;rw[f,b];rfl
 ·have b:BE a=true:=by
   grind
  obtain⟨f,g⟩:=c2 b;have i:zg .i64 (((AG a).length:Int)+1)=(((AG a).length+1:Nat):Int):=by grind [wr]
  have j:(a.drop<|(AG a).length+1).take (yn a.length<|(AG a).length+1)=a.drop ((AG a).length+1):=zm (by simp);rw[es,i,zi,zi,j, <-c1, <-g];refine zc ah (zc ah<|zc e<|zc h<|zh<|zy rfl rfl ?_);show((Hy<|AG a,HC<|AG a),(Hy<|zt a,HC<|zt a))=((BH a,BA a),(Bm a,Bi a));grind [BH,BA,Bm,Bi,Bh,AS,Hy,HC]
theorem oE[Srt]:Dn Ut:=Aa T151.okU (by grind [Aa,T152.okU,T103.ok,T153.ok,Ng])
namespace T93
theorem nL{g:Int}(h0:0<=g):BG g=[1]↔g=1:=by
 constructor
 ·intro h;have:=CU (b:=zd) af h0;have h:Sp.dg zd g=[1]:=h;rw[h]at this;rw[<-this];rfl
 ·rintro rfl;rfl
theorem BR[Srt](s:Z)(l:Ak (AG s)=true)(b:BE s=true->Ak (zt s)=true)(t:(AG s).length<=600)(p:(zt s).length<=600)(B:s.length<=5999)
  (a:∀ob,Q (.dat i64<|if BE s=true/\ql (AE 0<|AG s) (AE 0<|zt s)≠1 then 1 else 0) ob):Ends Ut (L4 s<|Bc s) Q:=by
 obtain⟨E,D,C⟩:=BN s;have es:Bc s=((AG s).length:Int):=rfl;refine zj (CN ..) ?_;conv=>zeta
 refine zk (fun c=>?_)<|fun c=>?_
 ·have j:BE s=true:=by
   grind
  have b:=b j;obtain⟨r1,r2⟩:=Lb l ae;obtain⟨r3,r4⟩:=Lb b ae;have i:=Bg l;have e:=Bg b;have o:∀k:Nat,(10:Int)^k<=(zd:Int)^k:=by
   intro k;induction k with
   |zero=>simp
   |succ k A=>
    grind
  have m:AE 0 (AG s)<(zd:Int)^600:=zr i.2 (Int.le_trans (o _)<|AN af t);have n:AE 0 (zt s)<(zd:Int)^600:=zr e.2 (Int.le_trans (o _) (AN af p));have q:BA s=BG (AE 0<|AG s):=by
   grind [BA,Bh,Sp.rW,Ah]
  have y:Bi s=BG (AE 0<|zt s):=by
   unfold Bi AS Sp.rW;rw[wd j,r4,show Ag (AE 0<|zt s)=AE 0 (zt s)by rw[Ah];omega]
  obtain⟨n1,_,v1,z⟩:=Ft (k:=600) i.1 m af;obtain⟨n2,_,v2,l2⟩:=Ft (k:=600) e.1 n af;have rat:JK s=true:=by
   grind [JK]
  rw[q,y];refine zc rat (zj (Fb ..)<|zc ah ?_);have u:Cc (BG<|AE 0<|AG s) (BG<|AE 0<|zt s)=BG (ql (AE 0<|AG s)<|AE 0<|zt s):=by
   grind [Cc]
  rw[u];obtain⟨r,_⟩:=tZ i.1 e.1 m n;generalize ql (AE 0<|AG s) (AE 0<|zt s)=g at*;have w:=nL r;by_cases h:g=1
  ·rw[wc ae]at a;rw[w.2 h];exact zj (Gu ..)<|zn rfl (zc rfl (zn rfl (zh<|a _)))
  ·rw[wd ⟨j,h⟩]at a;have f:BG g≠[1]:=ah;refine zj (Gu ..)<|zk (fun d=>zh<|a _)<|fun d=>?_;have d:(BG g).length=1:=by
    grind
   obtain⟨x,v⟩:=qo.1 d;rw[v]at f ⊢;exact zc rfl (by grind [zc,zh])
 ·rw[wc ah]at a;exact zh<|a _
theorem A1[Srt](s:Z)(i:Ak (AG s)=true)(l:s.length<=9223372036854775807)(a:∀ob,Q (.dat i64<|T86.E (AG s) (zt s) (BE s)<|!BE s||(AW (zt s)&&decide (zt s≠[48])&&decide (zt s≠[49]))) ob):Ends Ut (L2 s<|Bc s) Q:=by
 obtain⟨n,h,m⟩:=BN s;have es:Bc s=((AG s).length:Int):=rfl;have g:=T86.Hp s;have big:(BE s=true->Ak (zt s)=true)->(∀ob,Q (.dat i64<|T86.E (AG s) (zt s) (BE s) true) ob)->Ends Ut (L3 s<|Bc s) Q:=by
  intro k a;unfold T86.E at a;rw[wc af]at a;have b:s.length=(AG s).length+(if BE s=true then 1+(zt s).length else 0):=by
   grind
  refine zj (Cr ..) ?_;conv=>zeta
  rw[es,wr ((s.length:Int)-((AG s).length:Int)) ae ae,wr _ ae ae];refine zk (fun c=>?_)<|fun c=>zk (fun d=>?_)<|fun d=>?_
  ·have c:=w6 c;rw[wd<|ae]at a;exact zh<|a _
  ·have:600<(zt s).length:=ah
   rw[wd<|.inr this]at a;exact zh<|a _
  ·grind [BR]
 refine zj (AO ..) ?_;conv=>zeta
 cases o:BE s with
 |false=>
  grind [zn]
 |true=>
  have j:zg .i64 (((AG s).length:Int)+1)=(((AG s).length+1:Nat):Int):=by grind [wr]
  have bad:(!true||(AW (zt s)&&decide (zt s≠[48])&&decide (zt s≠[49])))=false->∀ob,Q (.dat i64 1) ob:=by
   grind [T86.E]
  refine zc ah (zc ah<|zc ah<|zk (fun d=>zh<|bad ?_ _)<|fun d=>zc ah (zk (fun e=>zh<|bad ?_ _)<|fun e=>zc ah<|zk (fun f=>zh<|bad ?_ _)<|fun f=>?_))
  ·grind
  ·grind
  ·grind
  grind [Ht]
theorem As[Srt](a s:Z)(b:s=Bk a)(n:a.length<=9223372036854775807)(l:∀ob,Q (.dat i64<|BK a) ob):Ends Ut (L1 a s) Q:=by
 obtain⟨i,k,o⟩:=BN s;have es:Bc s=((AG s).length:Int):=rfl;have j:s.length<=a.length:=by grind [T86.XP]
 have p:BK a=T86.E (AG s) (zt s) (BE s) (AW (AG s)&&(!jc a||decide (AG s≠[48]))&&(!BE s||(AW (zt s)&&decide (zt s≠[48])&&decide (zt s≠[49])))):=by rw[b];rfl
 have tk:s.take (AG s).length=AG s:=i.symm;refine zj (Ar ..) ?_;conv=>zeta
 rw[show Bc s=((AG s).length:Int)from rfl,zi,tk];refine zc ah (zc ah<|zc ah<|zk (fun d=>?_)<|fun d=>?_)
 ·grind [zh,T86.E]
 ·have d:AW (AG s)=true:=ah
  have m:=(Ht d).2;have c:a.length≠0:=by
   grind [AW]
  refine zc ah (zk (fun e=>zc ah<|zk (fun f=>?_)<|fun f=>?_)<|fun e=>?_)
  ·have g:jc a=true:=by
    refine w4<|z7.1 ?_;grind
   grind [zh,T86.E]
  ·grind [A1]
  ·have g:jc a=false:=by
    refine w8<|fun h=>?_;rw[h]at e;grind
   grind [A1]
theorem ok[Srt]:Af A9 93 Jq:=by
 refine BM oE<|fun(a:Z) f=>?_;have f:a.length<=1000000:=w6 f;have b:∀ob,Ad Jq a (.dat i64<|BK a) ob:=fun ob=>zy rfl rfl rfl
 refine zu (Ai a) ?_;conv=>zeta
 cases a with
 |nil=>exact zn rfl (As [] [] rfl ae b)
 |cons c r=>
  have h:(c::r).getD 0 0=c:=rfl;rw[h];refine zc (by simp) (zc (by simp)<|zk (fun d=>zc (by simp) ?_)<|fun d=>?_)
  ·have g:c=45:=by
    exact z7.1 ah
   have e:(qm 1 (c::r)).take (yn (c::r).length 1)=r:=by simp
   rw[e];exact As (c::r) r (by simp_all [Bk]) ae b
  ·have g:c≠45:=by rintro rfl;grind
   exact As (c::r) (c::r) (by simp_all [Bk]) ae b
end T93
theorem F9[Srt]:Dn mK:=
 Aa T199.ok (Aa T198.ok<|Aa T211.ok<|Aa T143.ok<|Aa T136n.ok<|Aa T139.ok<|Aa T135.ok<|Aa T144.ok<|Aa T131.ok<|Aa T133.ok AP)
theorem Eu{a:AH}(h:Nf a=true):Bd a=true/\Ag (zl a)<(Ao:Int)^4000:=by
 unfold Nf at h;rw[zf,w5]at h;refine⟨?_,Io h.1 h.2 af⟩;unfold Bd;exact Ab h.1 (w4 ae)
theorem K9{x y:Int}(d:Ag x<(Ao:Int)^4000)(c:Ag y<(Ao:Int)^4000):Ag (x*y)<(Ao:Int)^8000:=by
 rw[Jg];have h0:=AK x;have a:=Be (b:=Ao) af 4000;have a1:=zo (z6 c) h0;have a2:=z8 d a;have a3:(Ao:Int)^4000*(Ao:Int)^4000=(Ao:Int)^8000:=(Int.pow_add _ 4000 4000).symm;rw[a3]at a2;exact qf a1 a2
theorem Adm{x:Int}(h:x<(Ao:Int)^8000):x<(Ao:Int)^9000:=zr h (AN af af)
theorem SZ{x y:Int}(a:Ag x<(Ao:Int)^4000)(b:Ag y<(Ao:Int)^4000):Bd (CJ<|x*y)=true:=DA<|Adm<|K9 a b
theorem AbN{a b:AH}(f:Bd a=true)(e:Bd b=true)(h:Ag (zl a+zl b)<(Ao:Int)^9000):Bd (Ee a b)=true:=by
 have d:=RD f e;unfold Ee at d ⊢;split
 ·rename_i c;rw[wd c]at d;unfold Bd;exact Ab d rfl
 ·exact DA h
theorem sJ(n:Nat):(2:Int)*(Ao:Int)^n<=(Ao:Int)^(n+1):=by
 rw[yp,zw];exact zo af (z6 (Be (b:=Ao) af n))
theorem jP{x y:Int}(b:Ag x<(Ao:Int)^8000)(c:Ag y<(Ao:Int)^8000):Ag (x+y)<(Ao:Int)^9000:=by
 have a:=sJ 8000;have d:(Ao:Int)^8001<=(Ao:Int)^9000:=AN af af;have a:(2:Int)*(Ao:Int)^8000<=(Ao:Int)^8001:=a;generalize (Ao:Int)^8000=p at*;generalize (Ao:Int)^8001=q at*;generalize (Ao:Int)^9000=r at*;rw[Ah]at*;omega
theorem T1(a:AH):decide (ID a<0)=decide (zl a<0):=by
 unfold ID Ul;rw[qw,w5,w5];split
 ·omega
 ·split<;>omega
theorem YG{n d:AH}(h:J4 n d=true):Bd n=true/\Bd d=true/\zl d≠0:=by
 unfold J4 at h;rw[zf,zf,w5]at h;exact⟨h.1.1,h.1.2,h.2⟩
theorem T77.ok[Srt]:Af A9 77 jM:=by
 refine BM F9<|fun(a:Z) b=>?_;have b:(D7 (AG a)&&D7 (zt a)&&decide (a.length<=5999))=true:=b;rw[zf,zf,w5]at b;obtain⟨⟨d,e⟩,f⟩:=b;refine zu (T77.Ai a) (zc (Ab (w4 rfl)<|w4 ae)<|zk (fun c=>zc d<|zc rfl (zh<|zy rfl rfl ?_))<|fun c=>zc d<|zc e<|zh<|zy rfl rfl ?_)
 ·have c:BE a=false:=by simpa using c
  show((C3<|AG a,C4<|AG a),((1:Int),Ct 1))=((fU a,cS a),(Xd a,V1 a));unfold Xd V1 AS;rw[c,Np];rfl
 ·have c:BE a=true:=by simpa using c
  show((C3<|AG a,C4<|AG a),(C3<|zt a,C4<|zt a))=((fU a,cS a),(Xd a,V1 a));unfold Xd V1 AS;rw[c];rfl
theorem T200.ok[Srt]:Af A9 200 cIQ:=by
 refine BM F9<|fun(i:(Int×List Int)×(Int×List Int)) hi=>?_;obtain⟨a,b⟩:=i;obtain⟨ha,hb,h0⟩:=YG (n:=a) (d:=b) hi;refine zu (T200.Ai a b)<|zc (BZ hb).1 ?_;rw[T1];refine zk (fun c=>zc (BZ ha).1<|zc (BZ hb).1<|zj (T200.Ar ..)<|zc ?_<|zh<|zy rfl rfl ?_)<|fun c=>zj (T200.Ar ..)<|zc ?_<|zh<|zy rfl rfl ?_
 ·have c:zl b<0:=w6 c;have:=Ib b;exact Ab (Ab (TE ha)<|TE hb) (w4<|by show 0<zl (CY b);omega)
 ·have c:zl b<0:=w6 c;show FJ (CY a) (CY b)=Sp.iQ a b;unfold Sp.iQ;rw[wd c]
 ·have c:¬zl b<0:=w7 c;exact Ab (Ab ha hb) (w4<|by show 0<zl b;omega)
 ·have c:¬zl b<0:=w7 c;show FJ a b=Sp.iQ a b;unfold Sp.iQ;rw[wc c]
theorem qU[Srt]:Dn zY:=Aa T199.ok<|Aa T198.ok<|Aa T143.ok<|Aa T200.ok AP
theorem uV{n d:AH}(b:Bd d=true)(h0:zl d≠0):Bd (Sp.gR n d)=true/\zl (Sp.gR n d)=(qd (zl n) (zl d):Int)/\0<zl (Sp.gR n d):=by
 have e:zl (Sp.gR n d)=(qd (zl n) (zl d):Int):=by
  show zl (CF _,CD _)=_;rw[Lj,Gx]
 have f:0<qd (zl n) (zl d):=Int.gcd_pos_of_ne_zero_right _ h0;refine⟨FC<|DA ?_,e,by rw[e];omega⟩;rw[Gx,Ah,qg];have a:=bounds b;rw[Ah]at a;have c:qd (zl n) (zl d)<=(zl d).natAbs:=Nat.gcd_le_right _ ae;omega
namespace T134
theorem As[Srt](g z2:Int)(n d:AH)(f:Bd n=true)(b:Bd d=true)(h0:zl d≠0)(a:∀ob,Q (.agg [.dat i64 (M6 n d).1.1,.dat (.nlist u64) (M6 n d).1.2,.dat i64 (M6 n d).2.1,.dat (.nlist u64) (M6 n d).2.2]) ob):
  Ends zY (L1 g z2 d.1 d.2 n.1 n.2) Q:=by
 obtain⟨j,_,l⟩:=uV (n:=n) b h0;have next:CM d=false->Ends zY (.ite (Bd (n.1,n.2)&&Bd (d.1,d.2)) (L2 (MV (n.1,n.2) (d.1,d.2)) (MQ (n.1,n.2) (d.1,d.2)) g z2 d.1 d.2 n.1 n.2) .fail) Q:=by
  intro i;unfold M6 at a;rw[wc<|by rw[i];decide]at a;have k:∀x:AH,Bd x=true->J4 x (Sp.gR n d)=true:=fun x h=>by unfold J4;exact Ab (Ab h j) (w4 ae)
  exact zc (Ab f b)<|zj (AO ..)<|zc (k n f)<|zc (k d b)<|zh<|a _
 refine zj (Ar ..)<|zk (fun c=>zk (fun e=>zh ?_)<|fun e=>next ?_)<|fun c=>next ?_
 ·have c:d.2=[]:=by simpa using c
  have e:d.1=1:=by simpa using e
  unfold M6 at a;rw[wd<|by unfold CM;simp[c,e]]at a;exact a _
 ·unfold CM;rw[Bool.and_eq_false_iff];right;simpa using e
 ·unfold CM;rw[Bool.and_eq_false_iff];left;have:d.2≠[]:=by rintro k;rw[k]at c;simp at c
  simpa using this
theorem ok[Srt]:Af A9 134 eJ:=by
 refine BM qU<|fun(i:(Int×List Int)×(Int×List Int)) hi=>?_;obtain⟨n,d⟩:=i;obtain⟨hn,hd,h0⟩:=YG (n:=n) (d:=d) hi;have vn:=Ib d;refine zu (Ai n d)<|zc (BZ hd).1 ?_;rw[T1];refine zk (fun c=>zc (BZ hn).1<|zc (BZ hd).1<|As 0 0 (CY n) (CY d) (TE hn) (TE hd) ae<|fun ob=>zy rfl rfl ?_)<|fun c=>As 0 0 n d hn hd h0<|fun ob=>zy rfl rfl ?_
 ·have c:zl d<0:=w6 c;show M6 (CY n) (CY d)=WH n d;unfold WH;rw[wd c]
 ·have c:¬zl d<0:=w7 c;show M6 n d=WH n d;unfold WH;rw[wc c]
end T134
theorem T96.ok[Srt]:Af A9 96 P7:=by
 refine BM F9<|fun(a:(Int×List Int)×(Int×List Int)) _=>?_;refine zu (T96.Ai a)<|zk (fun c=>zh<|zy rfl rfl ?_)<|fun c=>zh<|zy rfl rfl ?_
 ·have c:a.2.2=[]:=by simpa using c
  show(a.2.1==(1:Int))=CM a.2;unfold CM;rw[w4 c,yx];rfl
 ·have c:a.2.2≠[]:=by rintro k;rw[k]at c;simp at c
  show false=CM a.2;unfold CM;rw[w8 c,Bool.false_and]
theorem T132.ok[Srt]:Af A9 132 hZ:=by
 refine BM F9<|fun(a:Int×List Int) _=>?_;exact zu (T132.Ai a)<|zc rfl (zh<|zy rfl rfl rfl)
theorem T140.ok[Srt]:Af A9 140 tS:=by
 refine BM F9<|fun(a:(Int×List Int)×(Int×List Int)) h=>?_;exact zu (T140.Ai a)<|zc h<|zh<|zy rfl rfl rfl
theorem T89.ok[Srt]:Af A9 89 uF:=by
 refine BM F9<|fun(i:((Int×List Int)×(Int×List Int))×((Int×List Int)×(Int×List Int))) c=>?_;obtain⟨a,b⟩:=i;have c:((Nf a.1&&Nf a.2)&&(Nf b.1&&Nf b.2))=true:=c;rw[zf,zf,zf]at c;obtain⟨⟨a1,a2⟩,b1,b2⟩:=c;obtain⟨a1,la1⟩:=Eu a1;obtain⟨a2,la2⟩:=Eu a2;obtain⟨b1,lb1⟩:=Eu b1;obtain⟨b2,lb2⟩:=Eu b2;refine zu (T89.Ai a b)<|zc (Ab a1 b2)<|zc (Ab b1 a2)<|zc (Ab (SZ la1 lb2)<|SZ lb1 la2)<|zh<|zy rfl rfl ?_;show B6 (zl<|EV a.1 b.2) (zl<|EV b.1 a.2)=B6 _ _;rw[Dp,Dp]
theorem FU{a:Al}(h:je a=true):Bd a.1=true/\Bd a.2=true/\Ag (zl a.1)<(Ao:Int)^4000/\Ag (zl a.2)<(Ao:Int)^4000/\0<zl a.2:=by
 unfold je Sp.Fc at h;rw[zf,zf,w5]at h;obtain⟨a1,b⟩:=Eu h.1.1;obtain⟨a2,b2⟩:=Eu h.1.2;exact⟨a1,a2,b,b2,h.2⟩
theorem SH[Srt]:Dn zJ:=Aa T96.ok<|Aa T132.ok<|Aa T139.ok<|Aa T135.ok<|Aa T134.ok AP
theorem SE{n d:AH}(a:Bd n=true)(b:Bd d=true)(h0:zl d≠0):J4 n d=true:=by
 unfold J4;exact Ab (Ab a b)<|w4 h0
theorem M5{a b:AH}(d:Ag (zl a)<(Ao:Int)^4000)(c:Ag (zl b)<(Ao:Int)^4000):Bd (EV a b)=true:=SZ d c
theorem T78.ok[Srt]:Af A9 78 Yq:=by
 refine BM SH<|fun(i:((Int×List Int)×(Int×List Int))×((Int×List Int)×(Int×List Int))) c=>?_;obtain⟨a,b⟩:=i;have c:(je a&&je b)=true:=c;rw[zf]at c;obtain⟨a1,a2,la1,la2,a0⟩:=FU c.1;obtain⟨b1,b2,lb1,lb2,b0⟩:=FU c.2;have d:zl (EV a.2 b.2)≠0:=by rw[Dp];exact yb<|qj a0 b0
 exact zu (T78.Ai a b)<|zc (Ab a1 b1)<|zc (Ab a2 b2)<|zc (SE (M5 la1 lb1) (M5 la2 lb2) d)<|zh<|zy rfl rfl rfl
namespace T82
theorem As[Srt](k z2:Int)(a b:Al)(j:je a=true)(g:je b=true)(i:∀ob f,f=WH (Ee (EV a.1 b.2)<|EV b.1 a.2) (EV a.2 b.2)->Q (.agg [.dat i64 f.1.1,.dat (.nlist u64) f.1.2,.dat i64 f.2.1,.dat (.nlist u64) f.2.2]) ob):
  Ends zJ (L1 k z2 b.1.1 b.1.2 b.2.1 b.2.2 a.1.1 a.1.2 a.2.1 a.2.2) Q:=by
 obtain⟨a1,a2,d,c,a0⟩:=FU j;obtain⟨b1,b2,lb1,lb2,b0⟩:=FU g;have h:zl (EV a.2 b.2)≠0:=by rw[Dp];exact yb<|qj a0 b0
 have e:Bd (Ee (EV a.1 b.2)<|EV b.1 a.2)=true:=AbN (M5 d lb2) (M5 lb1 c) (by rw[Dp,Dp];exact jP (K9 d lb2)<|K9 lb1 c);exact zj (Ar ..)<|zc (Ab a1 b2)<|zc (Ab b1 a2)<|zc (Ab (M5 d lb2)<|M5 lb1 c)<|zc (Ab a2 b2)<|zc (SE e (M5 c lb2) h)<|zh<|i _ _ rfl
theorem ok[Srt]:Af A9 82 YS:=by
 refine BM SH<|fun(i:((Int×List Int)×(Int×List Int))×((Int×List Int)×(Int×List Int))) e=>?_;obtain⟨a,b⟩:=i;have e:(je a&&je b)=true:=e;rw[zf]at e;obtain⟨a1,a2,la1,la2,a0⟩:=FU e.1;obtain⟨b1,b2,lb1,lb2,b0⟩:=FU e.2;have g:¬(CM a.2=true/\CM b.2=true)->Ends zJ (L1 0 0 b.1.1 b.1.2 b.2.1 b.2.2 a.1.1 a.1.2 a.2.1 a.2.2) (Ad YS (a,b)):=fun h=>
  As 0 0 a b e.1 e.2 (fun ob f j=>zy rfl rfl (by
   show f=JF a b;unfold JF;rw[wc h];exact j))
 refine zu (Ai a b) (zc rfl (zk (fun c=>zc rfl (zk (fun d=>zc (Ab a1 b1)<|zc rfl (zh<|zy rfl rfl ?_))<|fun d=>g (fun k=>by have:=k.2;rw[show CM b.2=false from d]at this;cases this)))<|fun c=>g (fun k=>by have:=k.1;rw[show CM a.2=false from c]at this;cases this)));show Sp.fWh (Ee a.1 b.1)=JF a b;unfold JF;rw[wd ⟨c,d⟩]
end T82
theorem T137.ok[Srt]:Af A9 137 uX:=by
 refine BM SH<|fun(a:(Int×List Int)×(Int×List Int)) b=>?_;have b:(je a&&decide (zl a.1≠0))=true:=b;rw[zf,w5]at b;obtain⟨a1,a2,c,d,a0⟩:=FU b.1;exact zu (T137.Ai a)<|zc (SE a2 a1 b.2)<|zh<|zy rfl rfl rfl
theorem SL{a:AH}(h:Dx a=true){k:Nat}(b:Ag (zl a)<(Ao:Int)^k):a.2.length<=k:=by
 rcases P2 h with⟨h1,_⟩|h1
 ·rw[h1];exact Nat.zero_le _
 ·rw[<-h1];exact Kj (AK _) b
theorem F7{a:AH}(h:Dx a=true)(b:Ag (zl a)<(Ao:Int)^4000):Nf a=true:=by
 unfold Nf;exact Ab h<|w4<|SL h b
theorem Yb{a:AH}(h:Dx a=true)(b:Ag (zl a)<(Ao:Int)^9000):Bd a=true:=by
 unfold Bd;exact Ab h<|w4<|SL h b
structure E8(f:Al)(q:Rat):Prop where
 n:Dx f.1=true
 d:Dx f.2=true
 vn:zl f.1=q.num
 vd:zl f.2=(q.den:Int)
def Lr(k:Nat)(q:Rat):Prop:=Ag q.num<(Ao:Int)^k/\(q.den:Int)<(Ao:Int)^k
theorem E8.den_pos{f:Al}{q:Rat}(h:E8 f q):0<zl f.2:=by
 rw[h.vd];have:=q.den_pos;omega
theorem E8.DD{f:Al}{q:Rat}(h:E8 f q)(a:Lr 4000 q):je f=true:=by
 unfold je Sp.Fc;have b:Ag (zl f.2)=(q.den:Int):=by rw[h.vd,Ah,qg]
 exact Ab (Ab (F7 h.n<|by rw[h.vn];exact a.1)<|F7 h.d<|by rw[b];exact a.2)<|w4 h.den_pos
theorem V5{x y:Int}:Ag (x/y)<=Ag x:=by
 rw[Ah,Ah];have a:=Int.natAbs_ediv_le_natAbs x y;omega
theorem gX{a b:AH}(d:0<zl b):zl (FJ a b)=zl a/zl b:=by
 unfold FJ;generalize l:zl a=x;generalize zl b=y at d;have g:=Int.mul_ediv_add_emod (Ag x) y;have i:=qv (Ag x)<|yb d;have j:=qe (Ag x) d;split
 ·next c=>
  rw[jV,Ci,E5];obtain⟨k,f⟩:=c;symm;rw[qq d];have e:Ag x= -x:=by rw[Ah];omega
  rw[e]at g i j f ⊢;generalize -x/y=q at*;generalize -x % y=r at*;rw[Int.sub_mul,Int.neg_mul,zw q y];generalize y*q=t at*;omega
 ·next c=>
  rw[Ci];unfold Sp.sg;split
  ·next n=>
   have n:x<0:=w6 n;have f:Ag x % y=0:=qh fun h=>c ⟨n,h⟩
   symm;rw[qq d];have e:Ag x= -x:=by rw[Ah];omega
   rw[f]at g;rw[e]at g ⊢;generalize -x/y=q at*;rw[Int.neg_mul,zw q y];generalize y*q=t at*;omega
  ·next n=>
   have n:¬x<0:=fun h=>n<|w4 h
   have e:Ag x=x:=by rw[Ah];omega
   rw[e]
theorem YD{a b:AH}(g:Bd a=true)(e:0<zl b):Dx (FJ a b)=true:=by
 have c:=bounds g;have h:Ag (zl a)/zl b<=Ag (zl a):=Int.ediv_le_self _<|AK _;have f:0<=Ag (zl a)/zl b:=Int.ediv_nonneg (AK _)<|z6 e;unfold FJ;generalize Ag (zl a)/zl b=q at*;have d:Ag q<(Ao:Int)^9000:=by
  refine qf ?_ c;rw[Ah];omega
 split
 ·exact RD (DA<|by rw[Ic];exact d) af
 ·refine(No (k:=9000) ?_ ae).1;unfold Sp.sg;split
  ·rw[Ic];exact d
  ·exact d
theorem uW{a b:AH}(c:0<zl b):zl (Sp.iQ a b)=zl a/zl b:=by
 unfold Sp.iQ;rw[wc ae];exact gX c
theorem cH{a b:AH}(c:Bd a=true)(d:0<zl b):Dx (Sp.iQ a b)=true:=by
 unfold Sp.iQ;rw[wc ae];exact YD c d
theorem TK{n d:AH}(f:Bd n=true)(b:Bd d=true)(h0:0<zl d):E8 (M6 n d) (yf (zl n)<|zl d):=by
 have j:(zl d).sign=1:=qt h0;have h:(yf (zl n)<|zl d).num=zl n/(qd (zl n) (zl d):Int):=by
  rw[qx,j,qi,ji]
 have g:((yf (zl n)<|zl d).den:Int)=zl d/(qd (zl n) (zl d):Int):=by
  rw[qy,wc<|yb h0,ji,Int.natCast_ediv];rw[Int.natAbs_of_nonneg<|z6 h0]
 obtain⟨k,i,a⟩:=uV (n:=n) b<|yb h0;unfold M6;split
 ·next c=>
  unfold CM at c;rw[zf,w5,w5]at c;have e:zl d=1:=by rw[Bu c.1];exact c.2
  refine⟨(BZ f).1,(BZ b).1,?_,?_⟩
  ·rw[h,e,Int.gcd_one];exact(jj _).symm
  ·rw[g,e,Int.gcd_one];exact(jj _).symm
 ·refine⟨cH f a,cH b a,?_,?_⟩
  ·rw[uW a,h,i]
  ·rw[uW a,g,i]
theorem Li{n d:AH}(b:Bd n=true)(f:Bd d=true)(h0:zl d≠0):E8 (WH n d) (yf (zl n)<|zl d):=by
 unfold WH;split
 ·next c=>
  have h:=TK (TE b) (TE f) (by rw[Ib];omega);rw[Ib,Ib]at h;have e:=Rat.divInt_mul_right (n:=zl n) (d:=zl d) (a:= -1) af;rw[Int.mul_neg,yu,Int.mul_neg,yu]at e;rw[e]at h;exact h
 ·exact TK b f ae
theorem Lr.aQ{k:Nat}{f:Al}{q:Rat}(h:E8 f q)(a:Lr k q):Ag (zl f.1)<(Ao:Int)^k/\Ag (zl f.2)<(Ao:Int)^k:=by
 rw[h.vn,h.vd];refine⟨a.1,?_⟩;rw[Ah,qg];exact a.2
theorem E8.eqd{f:Al}{q:Rat}(h:E8 f q):yf (zl f.1) (zl f.2)=q:=by
 rw[h.vn,h.vd];exact yt q
theorem E8.neg{f:Al}{q:Rat}(h:E8 f q)(a:Lr 4000 q):E8 (zI f) (-q):=by
 have c:=Lr.aQ h a;have b:=Wf (k:=4000) h.n ae ae<|SL h.n c.1;exact⟨b.1,h.d,by show zl (CY f.1)=_;rw[Ib,h.vn,Rat.neg_num],by show zl f.2=_;rw[h.vd,Rat.neg_den]⟩
theorem Lr.neg{k:Nat}{q:Rat}(h:Lr k q):Lr k (-q):=by
 unfold Lr;rw[Rat.neg_num,Rat.neg_den,Ic];exact h
theorem E8.mul{f g:Al}{p q:Rat}(e:E8 f p)(c:E8 g q)(sp:Lr 4000 p)(i:Lr 4000 q):E8 (Hw f g) (p*q):=by
 have a:=Lr.aQ e sp;have b:=Lr.aQ c i;have h:=Li (n:=EV f.1 g.1) (d:=EV f.2 g.2) (M5 a.1 b.1) (M5 a.2 b.2) (by rw[Dp];exact yb<|qj e.den_pos c.den_pos);rw[Dp,Dp, <-Rat.divInt_mul_divInt,e.eqd,c.eqd]at h;exact h
theorem E8.add{f g:Al}{p q:Rat}(i:E8 f p)(e:E8 g q)(sp:Lr 4000 p)(o:Lr 4000 q):E8 (JF f g) (p+q):=by
 have a:=Lr.aQ i sp;have b:=Lr.aQ e o;have m:=Eu<|F7 i.n a.1;have t:=Eu<|F7 e.n b.1;unfold JF;split
 ·next c=>
  obtain⟨k,j⟩:=c;unfold CM at k j;rw[zf,w5,w5]at k j;have r:(p.den:Int)=1:=by rw[<-i.vd,Bu k.1];exact k.2
  have s:(q.den:Int)=1:=by rw[<-e.vd,Bu j.1];exact j.2
  have l:yf p.num 1=p:=by have:=yt p;rw[r]at this;exact this
  have eq:yf q.num 1=q:=by have:=yt q;rw[s]at this;exact this
  have es:p+q=yf (p.num+q.num) 1:=by
   have h:=Rat.divInt_add_divInt p.num q.num (d₁:=1) (d₂:=1) af af;rw[l,eq,yu,yu,yu]at h;exact h
  refine⟨RD m.1 t.1,by show Dx (1,Ct 1)=true;rw[Np];rfl,?_,?_⟩
  ·show zl (Ee f.1 g.1)=_;rw[Wn,i.vn,e.vn,es,qx];simp
  ·show zl (1,Ct 1)=_;rw[Np,Ci,es,qy];simp
 ·have h:=Li (n:=Ee (EV f.1 g.2)<|EV g.1 f.2) (d:=EV f.2 g.2) (AbN (M5 a.1 b.2) (M5 b.1 a.2)<|by rw[Dp,Dp];exact jP (K9 a.1 b.2)<|K9 b.1 a.2) (M5 a.2 b.2) (by rw[Dp];exact yb<|qj i.den_pos e.den_pos);rw[Wn,Dp,Dp,Dp, <-Rat.divInt_add_divInt _ _ (yb i.den_pos) (yb e.den_pos),i.eqd,e.eqd]at h;exact h
theorem E8.sub{f g:Al}{p q:Rat}(c:E8 f p)(b:E8 g q)(sp:Lr 4000 p)(a:Lr 4000 q):E8 (Sj f g) (p-q):=by
 rw[Rat.sub_eq_add_neg];exact c.add (b.neg a) sp a.neg
theorem E8.inv{f:Al}{p:Rat}(b:E8 f p)(sp:Lr 4000 p)(h0:p≠0):E8 (Uo f) p⁻¹:=by
 have a:=Lr.aQ b sp;have e:=Eu<|F7 b.n a.1;have c:=Eu<|F7 b.d a.2;have h:=Li c.1 e.1 (by rw[b.vn];exact fun h=>h0<|Rat.num_eq_zero.mp h);rw[<-Rat.inv_divInt,b.eqd]at h;exact h
end Go.Pe
namespace Go.Sp
open Go.Lib
theorem Sy{P:Nat->Z->Prop}(c:∀d,d<10->P d [yd<|48+d])(f:∀a d,0<a->d<10->P a (decDigits a)->P (10*a+d) (decDigits a++[yd<|48+d]))(n:Nat):P n (decDigits n):=by
 induction n using Nat.strongRecOn with
 |_ n b=>
  by_cases h:n<10
  ·rw[decDigits_one h];exact c n h
  ·have e:n=10*(n/10)+n % 10:=ae
   have:=f (n/10) (n % 10) ae (Nat.mod_lt _ af) (b (n/10) ae);rw[<-FH _ _ ae (Nat.mod_lt _ af), <-e]at this;exact this
theorem Oc:∀d:Fin 10,(yd<|48+d.1).toNat=48+d.1:=af
theorem Kw{d:Nat}(h:d<10):BI (yd<|48+d)=true/\J3 (yd<|48+d)=d:=by
 have e:(yd<|48+d).toNat=48+d:=Oc ⟨d,h⟩;unfold BI J3;rw[e];refine⟨?_,by omega⟩;rw[w4 ae,w4 ae];rfl
theorem fV{c:UInt8}(h:BI c=true):c=yd (48+(J3 c).toNat)/\(J3 c).toNat<10:=by
 obtain⟨b,d⟩:=EE h;have a:(J3 c).toNat<10:=ae
 refine⟨z7.1 ?_,a⟩;rw[Oc ⟨(J3 c).toNat,a⟩];show c.toNat=48+(J3 c).toNat;unfold J3 at*;omega
theorem kD(n:Nat):decDigits n≠[]:=Sy (P:=fun _ l=>l≠[]) (fun _ _=>by simp) (fun _ _ _ _ _=>by simp) n
theorem D6(n:Nat):Ak (decDigits n)=true:=by
 refine Sy (P:=fun _ l=>Ak l=true) (fun d h=>?_) (fun a d _ h b=>?_) n
 ·unfold Ak;rw[ye,(Kw h).1];rfl
 ·unfold Ak at*;rw[List.all_append,b,ye,(Kw h).1];rfl
theorem S7(n:Nat):AE 0 (decDigits n)=n:=by
 refine Sy (P:=fun n l=>AE 0 l=n) (fun d h=>?_) (fun a d _ h b=>?_) n
 ·show 10*0+J3 (yd<|48+d)=d;rw[(Kw h).2];omega
 ·rw[CL,b];show 10*(a:Int)+J3 (yd<|48+d)=_;rw[(Kw h).2];omega
theorem Fy{s:Z}(h:AW s=true):s≠[]/\Ak s=true/\(s.getD 0 0≠48\/s=[48]):=by
 unfold AW at h;rw[zf,zf,w5,Bool.or_eq_true,w5,w5]at h;exact⟨h.1.1,h.1.2,h.2⟩
theorem IC{s:Z}(h:AW s=true)(h0:s≠[48]):0<AE 0 s:=by
 obtain⟨d,a,b⟩:=Fy h;cases s with
 |nil=>exact wh rfl d
 |cons c r=>
  have l:(c::r).getD 0 0=c:=rfl;rw[l]at b;have k:c≠48:=by
   rcases b with x|x
   ·exact x
   ·exact wh x h0
  unfold Ak at a;rw[ye,zf]at a;have g:=EE a.1;have e:Ak r=true:=a.2;have m:=Bg e;show 0<AE (10*0+J3 c) r;rw[Er];have f:(0:Int)<10^r.length:=Int.pow_pos af;have n:c.toNat≠48:=fun x=>k<|z7.1 x
  have j:0<10*0+J3 c:=by show 0<10*0+((c.toNat:Int)-48);have i:0<=((c.toNat:Int)-48):=g.1;omega
  have:=qj j f;omega
theorem NX{s:Z}(h:AW s=true):s=decDigits (AE 0 s).toNat:=by
 generalize d:s.length=n;induction n generalizing s with
 |zero=>exact wh (zz.1 d) (Fy h).1
 |succ n m=>
  obtain⟨o,b,l⟩:=Fy h;obtain⟨t,c,rfl⟩:∃t c,s=t++[c]:=⟨_,_,(qc o).symm⟩;unfold Ak at b;rw[List.all_append,zf,ye,zf]at b;obtain⟨h4,h5,_⟩:=b;obtain⟨b1,b2⟩:=fV h5;obtain⟨d1,_⟩:=EE h5;rw[CL];show t++[c]=decDigits (10*AE 0 t+J3 c).toNat;by_cases a:t=[]
  ·subst a;show[c]=decDigits (10*0+J3 c).toNat;rw[show(10*0+J3 c).toNat=(J3 c).toNat by omega,decDigits_one b2, <-b1]
  ·have g:(t++[c]).getD 0 0=t.getD 0 0:=by
    cases t with
    |nil=>exact wh rfl a
    |cons x r=>rfl
   have i:t.getD 0 0≠48:=by
    rcases l with x|x
    ·rw[g]at x;exact x
    ·have f:=wi List.length x;rw[zq]at f;have u:t.length+1=1:=f;exact wh (zz.1 ae) a
   have j:AW t=true:=by
    unfold AW Ak;rw[w4 a,h4,w4 i];rfl
   have q:=IC j (fun k=>i (by rw[k];rfl));have p:=m j (by rw[zq]at d;simpa using d);have e:(10*AE 0 t+J3 c).toNat=10*(AE 0 t).toNat+(J3 c).toNat:=ae
   rw[e,FH _ _ ae b2, <-p, <-b1]
theorem wX:∀ {a:Z},(∀c∈a,c≠47)->AG a=a/\AT a=[]/\BE a=false:=by
 intro a h;have b:BE a=false:=by
  unfold BE;rw[List.any_eq_false];intro x d;simpa using h x d
 exact⟨((Go.Pe.BN a).2.2 b).1,((Go.Pe.BN a).2.2 b).2,b⟩
theorem nN:∀ {a:Z} (b:Z),(∀c∈a,c≠47)->AG (a++47::b)=a/\AT (a++47::b)=b/\BE (a++47::b)=true:=by
 intro a b h;have d:BE (a++47::b)=true:=by
  unfold BE;rw[List.any_eq_true];exact⟨47,by simp,rfl⟩
 have g:∀ {a:Z},(∀c∈a,c≠47)->AG (a++47::b)=a:=by
  intro a;induction a with
  |nil=>intro _;show AG (47::b)=[];rw[Go.Pe.DP,wd rfl]
  |cons x r f=>
   intro h;show AG (x::(r++47::b))=_;rw[Go.Pe.DP,wc (h x (by simp)),f<|fun c d=>h c<|List.mem_cons_of_mem _ d]
 have e:=g h;refine⟨e,?_,d⟩;rw[((Go.Pe.BN _).2.1 d).2,e];simp
theorem Rh{s:Z}(h:Ak s=true):∀c∈s,c≠47:=by
 intro c a e;unfold Ak at h;rw[List.all_eq_true]at h;have:=h c a;rw[e]at this;exact wh this af
theorem Fq{s:Z}(h:Ak s=true):s.getD 0 0≠45:=by
 cases s with
 |nil=>decide
 |cons c r=>
  unfold Ak at h;rw[ye,zf]at h;show c≠45;intro e;rw[e]at h;exact wh h.1 af
def A5(q:Rat):Z:=if q.den=1 then itoa q.num else itoa q.num++47::decDigits q.den
def A8(s:Z):Rat:=yf (Bh s)<|AS s
theorem FN(n:Int):(∀c∈itoa n,c≠47)/\Bk (itoa n)=decDigits n.natAbs/\preB (itoa n)=decide (n<0)/\Cf (itoa n)=n:=by
 unfold itoa;by_cases h:n<0
 ·rw[wd h];refine⟨fun c a=>?_,rfl,(w4 h).symm,?_⟩
  ·rcases List.mem_cons.1 a with rfl|a
   ·decide
   ·exact Rh (D6 _) c a
  ·show -AE 0 (decDigits n.natAbs)=n;rw[S7];omega
 ·rw[wc h];have b:=Fq<|D6 n.toNat;have e:n.toNat=n.natAbs:=ae
  refine⟨Rh<|D6 _,?_,?_,?_⟩
  ·unfold Bk;rw[wc b,e]
  ·unfold preB;rw[w8 b,w8 h]
  ·unfold Cf;rw[wc b,S7];omega
theorem G9(q:Rat):AG (A5 q)=itoa q.num/\AT (A5 q)=(if q.den=1 then[]else decDigits q.den)/\BE (A5 q)=decide (q.den≠1):=by
 unfold A5;have h:=(FN q.num).1;by_cases a:q.den=1
 ·rw[wd a,wd a,w8<|not_not_intro a];exact wX h
 ·rw[wc a,wc a,w4 a];exact nN _ h
theorem J7(q:Rat):Bh (A5 q)=q.num/\AS (A5 q)=q.den:=by
 obtain⟨b,c,d⟩:=G9 q;unfold Bh AS;rw[b,c,d];refine⟨(FN q.num).2.2.2,?_⟩;by_cases a:q.den=1
 ·rw[wc (by simpa using a),a];rfl
 ·rw[wd<|w4 a,wc a];unfold Cf;rw[wc<|Fq<|D6 _,S7]
theorem DQ(q:Rat):A8 (A5 q)=q:=by
 unfold A8;rw[(J7 q).1,(J7 q).2];exact yt q
theorem aH{p q:Rat}(h:A5 p=A5 q):p=q:=by
 rw[<-DQ p,h,DQ]
theorem Xe(a:Z):AG (Bk a)=Bk (AG a)/\AT (Bk a)=AT a/\BE (Bk a)=BE a/\preB (AG a)=preB a:=by
 unfold Bk preB;cases a with
 |nil=>exact⟨rfl,rfl,rfl,rfl⟩
 |cons c r=>
  have g:(c::r).getD 0 0=c:=rfl;rw[g,Go.Pe.DP];by_cases d:c=45
  ·subst d;have e:AT (45::r)=AT r:=by
    unfold AT;rw[List.findIdx?_cons];cases r.findIdx? (fun x=>x==47)<;>rfl
   exact⟨rfl,e.symm,rfl,rfl⟩
  ·rw[wc d];by_cases b:c=47
   ·subst b;exact⟨(Go.Pe.DP _ _),rfl,rfl,rfl⟩
   ·rw[wc b];have f:(c::AG r).getD 0 0=c:=rfl;rw[f,wc d];exact⟨by rw[Go.Pe.DP,wc b],rfl,rfl,rfl⟩
theorem W9{a:Z}(h:BK a=0):HY a=true/\(AG<|Bk a).length<=600/\(AT<|Bk a).length<=600/\(BE (Bk a)=true->gI (zE a) (xR a)=1):=by
 unfold BK at h;cases b:HY a with
 |false=>rw[wd b]at h;exact wh h af
 |true=>
  rw[wc<|by rw[b];decide]at h;split at h
  ·exact wh h af
  ·next c=>
   split at h
   ·exact wh h af
   ·next d=>exact⟨rfl,by omega,by omega,fun k=>qh fun g=>d ⟨k,g⟩⟩
def GM(k:Nat)(q:Rat):Prop:=q.num.natAbs<10^k/\q.den<10^k
theorem PT{n d:Int}(a:0<d)(h:qd n d=1):(yf n d).num=n/\((yf n d).den:Int)=d:=by
 have b:d.sign=1:=qt a;rw[qx,qy,wc<|yb a,b,qi,ji,h];refine⟨jj _,?_⟩;rw[Nat.div_one,Int.natAbs_of_nonneg<|z6 a]
theorem Py{s:Z}(h:Ak s=true){k:Nat}(a:s.length<=k):(AE 0 s).toNat<10^k:=by
 have b:=Bg h;have d:(10:Int)^s.length<=10^k:=AN af a;have c:((10^k:Nat):Int)=(10:Int)^k:=by simp
 omega
theorem Od(k:Nat)(h:k≠0):(1:Int).toNat<10^k:=Nat.one_lt_pow h af
theorem nT:decDigits (Int.toNat 1)=[49]:=by rw[show Int.toNat 1=1 from rfl,decDigits_one af];rfl
theorem QG{s:Z}(h:BK s=0):A5 (A8 s)=s/\(A8 s).num=Bh s/\((A8 s).den:Int)=AS s/\GM 600 (A8 s):=by
 obtain⟨p,q,y,d⟩:=W9 h;obtain⟨p1,p2,p3,p4⟩:=Xe s;unfold HY at p;rw[zf,zf]at p;obtain⟨⟨fa,fm⟩,b⟩:=p;unfold zE xR at d;obtain⟨A,hA⟩:∃A,A=AG (Bk s):=⟨_,rfl⟩;obtain⟨B,hB⟩:∃B,B=AT (Bk s):=⟨_,rfl⟩;rw[<-hA]at fa fm q d;rw[<-hB]at b y d;rw[p3]at b d;have v:=(Fy fa).2.1;have u:=NX fa;have v0:=Bg v;have i:Bh s=(if preB s=true then -AE 0 A else AE 0 A)/\AG s=(if preB s=true then 45::A else A):=by
  have G:A=Bk (AG s):=by rw[hA,p1]
  unfold Bh Cf;rw[<-p4];unfold preB;rw[G];unfold Bk;by_cases a:(AG s).getD 0 0=45
  ·rw[wd a,wd<|w4 a,wd a,wd<|w4 a];refine⟨rfl,?_⟩;cases x:AG s with
   |nil=>rw[x]at a;exact wh a af
   |cons c r=>
    rw[x]at a;have a:c=45:=a;rw[a];rfl
  ·rw[wc a,wc (by rw[w8 a];decide),wc a,wc<|by rw[w8 a];decide];exact⟨rfl,rfl⟩
 have l:(Bh s).natAbs=(AE 0 A).toNat:=by rw[i.1];split<;>omega
 have P:0<AS s/\(AS s).toNat<10^600/\qd (Bh s) (AS s)=1/\(BE s=true->B=decDigits (AS s).toNat/\AS s≠1)/\(BE s=false->AS s=1):=by
  unfold AS;rw[<-p2, <-hB];cases a:BE s with
  |false=>
   rw[wc af];exact⟨by decide,Od 600 af,Int.gcd_one,(fun k=>by cases k),fun _=>rfl⟩
  |true=>
   rw[a]at b;have b:(AW B&&decide (B≠[48])&&decide (B≠[49]))=true:=b;rw[zf,zf,w5,w5]at b;obtain⟨⟨j,F⟩,E⟩:=b;have w:=(Fy j).2.1;have U:=IC j F;have O:Cf B=AE 0 B:=by unfold Cf;rw[wc<|Fq w]
   rw[wd rfl,O];refine⟨U,Py (k:=600) w y,?_,fun _=>⟨NX j,?_⟩,(fun k=>by cases k)⟩
   ·have g:=d a;rw[Gx]at g;have g:qd (AE 0 A) (AE 0 B)=1:=ae
    rw[i.1];split
    ·rw[Int.neg_gcd];exact g
    ·exact g
   ·intro e;have:=NX j;rw[e]at this;exact E<|this.trans nT
 obtain⟨T,S,M,V,D⟩:=P;obtain⟨r1,r2⟩:=PT (n:=Bh s) T M;have r1:(A8 s).num=Bh s:=r1;have r2:((A8 s).den:Int)=AS s:=r2;have z:(A8 s).den=(AS s).toNat:=ae
 refine⟨?_,r1,r2,?_,?_⟩
 ·have K:itoa (Bh s)=AG s:=by
   rw[i.2];unfold itoa;by_cases f:preB s=true
   ·have m:A≠[48]:=by
     have o:preB s=true:=f;rw[o]at fm;simpa using fm
    have:=IC fa m;rw[i.1,wd f,wd f,wd ae,Int.natAbs_neg];rw[show(AE 0 A).natAbs=(AE 0 A).toNat by omega, <-u]
   ·rw[i.1,wc f,wc f,wc ae, <-u]
  unfold A5;rw[r1,z,K];obtain⟨C,N,L⟩:=Go.Pe.BN s;cases a:BE s with
  |false=>
   rw[D a,wd<|show Int.toNat 1=1 from rfl];exact(L a).1
  |true=>
   obtain⟨J,W⟩:=V a;obtain⟨m1,m2⟩:=N a;rw[wc ae, <-J,hB,p2,m2];have R:s.drop (AG s).length=47::s.drop ((AG s).length+1):=by
    have h0:∀t:Z,BE t=true->t.drop (AG t).length=47::t.drop ((AG t).length+1):=by
     intro t;induction t with
     |nil=>intro h;cases h
     |cons c r H=>
      intro h;rw[Go.Pe.DP];by_cases e:c=47
      ·rw[wd e,e];rfl
      ·rw[wc e];have I:BE r=true:=by
        unfold BE at h ⊢;rw[List.any_cons]at h;simpa [e]using h
       exact H I
    exact h0 s a
   rw[<-R];conv=>lhs;rw[C]
   have:=ym (AG s).length s;rw[<-C]at this ⊢;exact this
 ·rw[r1,l];exact Py (k:=600) v q
 ·rw[z];exact S
def AV(n:Int):Z:=Lib.itoa n
def Nj(s:Z)(n:Int):Z:=Lib.repeatL s n.toNat
end Go.Sp
namespace Go.Pe
open Go.Det
def iE:Ap:=⟨[i64],fun n=>Sp.Ca n,[.str],fun n=>Sp.AV n,false⟩
def UM:Ap:=⟨[u64,i64],fun i=>decide (0<=i.1)&&decide (i.1<1000000000000000000)&&decide (i.2=10),[.str],fun i=>Sp.AV i.1,false⟩
def Ro:Ap:=⟨[.str,i64],fun i=>decide (0<=i.2)&&decide (i.2<=18)&&decide ((i.1:Z)=[48]),[.str],fun i=>Sp.Nj i.1 i.2,false⟩
def Aap:Ap:=⟨[AY],fun a=>Sp.Bd a,[.str],fun a=>Sp.AV<|zl a,false⟩
def Qb[Srt]:AR:=X7 [(156,iE),(157,Sd),(158,Ga),(159,UM),(160,Ro)]
open Sp
section
open List Int Prod
namespace T97
def T[Srt](a:AH):Tr:=tree Qb false 9 97<|Ae ([AY]) a
def L1[Srt](v3:Bool)(v4:List Int)(a:Nat)(b:List Int):Tr:=re ((T (0,[])).R.L)<|AB 69 [(3,.dat Sh.bool v3),(4,.dat (Sh.list<|Sh.int qz) v4),(5,.sl 0 1 0 a none),(6,.nil)] [(0,.arr false 206 (Sh.int qz) b)] 1
theorem Ai[Srt](a:AH):T a=.ite (!decide (0<length (snd a))) (.ck (Ca<|fst a)<|.leaf (.dat Sh.str<|AV<|fst a) []) (.ck (Dx a)<|L1 (decide (zl a<0)) (BD<|Ag<|zl a) 1<|[1000000000000000000]):=by kernel_rfl
def L2[Srt](v3:Bool)(v4:List Int)(a b:Nat)(o1:List Z)(c:List Int):Tr:=re ((stepT Qb<|L1 false [] 0 []).L.L.L.L.L.L.L.L.L)<|AB 69 [(3,.dat Sh.bool v3),(4,.dat (Sh.list<|Sh.int qz) v4),(5,.sl 0 1 0 a none),(6,.sl 1 1 0 b none)] [(1,.arr false 9 Sh.str o1),(0,.arr true 206 (Sh.int qz) c)] 2
def L3[Srt](a:Int)(o1:List Int)(b:Nat):Tr:=re ((stepT Qb<|L1 false [] 0 []).R.L.L.L)<|AB 69 [(6,.nil),(10,.ptr 0 0),(11,.dat i64 a)] [(1,.arr false 5 (Sh.int IntKind.u8) o1),(0,q9 215 [.ptr 0 0,.sl 1 1 0 b none])] 2
def L4[Srt](a:Int):Tr:=re ((stepT Qb<|L1 false [] 0 []).R.L.R)<|AB 69 [(6,.nil),(10,.ptr 0 0),(11,.dat i64 a)] [(0,q9 215 [.ptr 0 0,.nil])] 1
def L5[Srt](a:Int):Tr:=re ((stepT Qb<|L1 false [] 0 []).R.R)<|AB 69 [(6,.nil),(10,.ptr 0 0),(11,.dat i64 a)] [(0,q9 215 [PV.nilp,.nil])] 1
theorem Ar[Srt](v3:Bool)(v4:List Int)(a:Nat)(c:List Int):stepT Qb (L1 v3 v4 a c)=let d:=BD<|Aq v4 % Aq (take a c);let b':=BD<|Aq v4/Aq (take a c);let g:=aa 16;let f:=zg .i64<|0-1;let h:=AV<|getD d 0 0;let e:=18-(↑(length h):Int);.di ((length v4:Int)>0) (.ck (decide (0+a<=length c)&&true&&S6 v4 (take a c))<|.di ((↑(length d):Int)>0) (.cd (0<(↑(length d):Int))<|.ck (decide ((0:Sh.T u64)<=getD d 0 0)&&decide (getD d 0 0<(1000000000000000000:Sh.T u64))&&decide (10=10))<|.di ((↑(length b'):Int)>0) (.ck (decide (0<=zg .i64 e)&&decide (zg .i64 e<=18)&&decide ([(48:UInt8)]=[(48:UInt8)]))<|.cd (length (Nj [(48:UInt8)]<|zg .i64 e)+length h<=4611686018427387904)<|.ck g<|L2 v3 b' a 1 ([Nj [(48:UInt8)] (zg .i64 e)++AV (getD d 0 0)]) c)<|.ck g<|L2 v3 b' a 1 ([AV<|getD d 0 0]) c)<|.di ((↑(length b'):Int)>0) (.ck true<|.ck true<|.ck true<|L2 v3 b' a 1 ([Nj [(48:UInt8)] (zg .i64<|18-1)++[(48:UInt8)]]) c)<|.ck true<|L2 v3 b' a 1 ([[(48:UInt8)]]) c) (.ite v3 (.ite true (.ck true<|L3 f (yw (fun b=>(↑(yk b):Int)) [(45:UInt8)]) 1)<|L4 f)<|L5 f):=by kernel_rfl
def L6[Srt](a:Nat)(b:Int)(d:List Int)(c:Nat)(e:List Z):Tr:=re ((stepT Qb<|L2 false [] 0 0 [] []).R.L.L.L)<|AB 69 [(6,.sl 0 1 0 a none),(10,.ptr 1 0),(11,.dat i64 b)] [(2,.arr false 5 (Sh.int IntKind.u8) d),(1,q9 215 [.ptr 1 0,.sl 2 1 0 c none]),(0,.arr false 9 Sh.str e)] 3
def L7[Srt](b:Nat)(a:Int)(c:List Z):Tr:=re ((stepT Qb<|L2 false [] 0 0 [] []).R.L.R)<|AB 69 [(6,.sl 0 1 0 b none),(10,.ptr 1 0),(11,.dat i64 a)] [(1,q9 215 [.ptr 1 0,.nil]),(0,.arr false 9 Sh.str c)] 2
def L8[Srt](b:Nat)(a:Int)(c:List Z):Tr:=re ((stepT Qb<|L2 false [] 0 0 [] []).R.R)<|AB 69 [(6,.sl 0 1 0 b none),(10,.ptr 1 0),(11,.dat i64 a)] [(1,q9 215 [PV.nilp,.nil]),(0,.arr false 9 Sh.str c)] 2
theorem AO[Srt](v3:Bool)(v4:List Int)(a c:Nat)(o1:List Z)(d:List Int):stepT Qb (L2 v3 v4 a c o1 d)=let e:=BD<|Aq v4 % Aq (take a d);let b':=BD<|Aq v4/Aq (take a d);let i:=decide ((3*(c+1)+2000)*16<=562949953421312);let j:=zg .i64<|(↑c:Int)-1;let h:=decide (c=length o1);let g:=qp c 1;let h':=decide (1<=1)&&true&&h&&i;let k:=AV<|getD e 0 0;let f:=18-(↑(length k):Int);.di ((length v4:Int)>0) (.ck (decide (0+a<=length d)&&true&&S6 v4 (take a d))<|.di ((↑(length e):Int)>0) (.cd (0<(↑(length e):Int))<|.ck (decide ((0:Sh.T u64)<=getD e 0 0)&&decide (getD e 0 0<(1000000000000000000:Sh.T u64))&&decide (10=10))<|.di ((↑(length b'):Int)>0) (.ck (decide (0<=zg .i64 f)&&decide (zg .i64 f<=18)&&decide ([(48:UInt8)]=[(48:UInt8)]))<|.cd (length (Nj [(48:UInt8)]<|zg .i64 f)+length k<=4611686018427387904)<|.ck h'<|L2 v3 b' a g (o1++[Nj [(48:UInt8)] (zg .i64 f)++AV (getD e 0 0)]) d)<|.ck h'<|L2 v3 b' a g (o1++[AV<|getD e 0 0]) d)<|.di ((↑(length b'):Int)>0) (.ck true<|.ck true<|.ck (h&&i)<|L2 v3 b' a g (o1++[Nj [(48:UInt8)] (zg .i64<|18-1)++[(48:UInt8)]]) d)<|.ck (h&&i)<|L2 v3 b' a g (o1++[[(48:UInt8)]]) d) (.ite v3 (.ite true (.ck true<|L6 c j (yw (fun b=>(↑(yk b):Int)) [(45:UInt8)]) 1 o1)<|L7 c j o1)<|L8 c j o1):=by kernel_rfl
theorem Gu[Srt](d:Nat)(c:Int)(e:List Int)(a:Nat)(f:List Z):stepT Qb (L6 d c e a f)=let g:=getD f (toNat c) [];.di (c>=0) (.ck (decide (0<=c)&&decide (c<(↑d:Int)))<|.cd (toNat c<length f)<|.ck (decide (a=length e)&&decide ((3*(a+length (yw (fun b=>(↑(yk b):Int)) g))+2000)*1<=562949953421312))<|L6 d (zg .i64<|c-1) (e++yw (fun b=>(↑(yk b):Int)) g) (qp a<|length<|yw (fun b=>(↑(yk b):Int)) g) f) (.cd (0<a)<|.ck (decide (0<(↑a:Int))&&decide (toNat (↑a:Int)<=length e)&&decide (toNat (↑a:Int)<=9223372036854775807)&&List.all e fun x=>decide (0<=x)&&decide (x<256))<|.leaf (.dat Sh.str<|yw (fun x=>yd<|toNat x)<|take (toNat (↑a:Int)) e) []):=by kernel_rfl
theorem H3[Srt](c:Nat)(a:Int)(d:List Z):stepT Qb (L8 c a d)=let e:=getD d (toNat a) [];let b':=zg .i64<|a-1;.cd (a>=0) (.ck (decide (0<=a)&&decide (a<(↑c:Int)))<|.cd (toNat a<length d)<|.di (0<length (yw (fun b=>(↑(yk b):Int)) e)) (.cd ((3*length (yw (fun b=>(↑(yk b):Int)) e)+2000)*1<=562949953421312)<|L6 c b' (yw (fun b=>(↑(yk b):Int)) e) (length<|yw (fun b=>(↑(yk b):Int)) e) d)<|L7 c b' d):=by kernel_rfl
end T97
end
end Go.Pe
