import Derived.Test.YtknhdhchejmpgaaGreatDoorX11
import Derived.Test.YtknhdhchejmpgaaGreatDoorX10
/- A part of a proof (no law is stated here). Made by program out of texts by AI agents. -/
open Go.Sp renaming val -> zc, B9 -> zg, vI -> zo, A0 -> jt, sg -> j7
open Go.Pe.Ends renaming tt -> ze, leaf -> zp, ite -> zt, Av -> zu, ff -> yd, eq -> yw
open Go.IntKind renaming wrap -> zh
open Int renaming toNat_natCast -> zj, mul_le_mul_of_nonneg_left -> zk, mul_le_mul_of_nonneg_right -> zn, le_of_lt -> zr, mul_add -> zw, tdiv_eq_ediv_of_nonneg -> zx, pow_succ -> zy, mul_comm -> zz, tmod_eq_emod_of_nonneg -> z7, lt_of_mul_lt_mul_left -> z8, mul_left_comm -> ye, mul_nonneg -> yf, lt_or_le -> yg, mul_assoc -> yh, pow_zero -> yj, one_mul -> ym, emod_lt_of_pos -> yn, mul_ediv_add_emod -> yp, emod_nonneg -> yq, ediv_emod_unique -> yr, tdiv -> yu, mul_one -> yv, mul_lt_mul_of_pos_right -> yy, mul_sub -> yz, pow_pos -> y7, fdiv_eq_ediv_of_nonneg -> y8, mul_zero -> qc, lt_of_lt_of_le -> qg, eq_ofNat_of_zero_le -> qh, ediv_eq_zero_of_lt -> qi, ediv_lt_of_lt_mul -> qj, ediv_nonneg -> qo, add_zero -> qu, mul_lt_mul_of_pos_left -> qx, tmod -> qy, le_refl -> q9, add_assoc -> jc, mul_ediv_cancel_left -> jf, zero_mul -> jj, sub_mul -> jz, pow_add -> j0, mul_neg -> j6
open Bool renaming and_eq_true -> zl, true_and -> jg
open List renaming replicate -> zm, take_of_length_le -> zq, length_take -> ya, append_assoc -> yb, length_eq_zero_iff -> yc, getD_eq_getElem?_getD -> yo, dropWhile_cons -> yt, take_append_drop -> yx, take_length -> qd, mem_singleton -> qf, length_drop -> qk, mem_cons -> ql, replicate_succ' -> qm, mem_append -> qn, append_nil -> qp, dropLast_concat_getLast -> qq, nil_append -> qt, length_append -> qv, drop_drop -> qw, getLast?_eq_getElem? -> qz, getElem?_eq_getElem -> je, drop_length -> jh, all_reverse -> ji, length_eq_one_iff -> jl, drop_eq_nil_of_le -> jo, take_left -> j5
open Nat renaming min_eq_left -> yi, add_sub_cancel -> qe, add_comm -> jk, gcd_comm -> jm, zero_add -> j8, sub -> j9, add -> kc, gcd -> ke
open BitVec renaming ofInt -> yk
open Go.Pe.Ad renaming of -> y9
namespace Go.Pe
open Sp
open Go.Det
namespace T230
variable {Q:PV->Ob->Prop}
theorem yM(q x:Int):QL q x*18446744073709551616+Ia q x=q*x/\0<=Ia q x/\Ia q x<18446744073709551616:=by
 unfold QL Ia;generalize q*x=P;omega
theorem Cq(v9:Int)(v10:List Int)(v11n:Nat)(v12:Int)(v13n:Nat)(o1 o0:List Int)(v0c:Nat)(v:List Int)(k j:Nat)(lo:List Int)(m:Nat)(r0 o1':List Int)
  (hn:v.length=k+2) (hn9:k+2<=9000) (hm:k+3<=m) (hlo:lo.length=j) (hjv:j<v13n) (hj1:j<o1'.length) (hv:Aw Ak v)
  (hr:r0.length=m) (hd:Aw Ak r0) (hz:zc Ak (r0.drop (k+3))=0) (hv1:1<=v.getD (k+1) 0)
  (hfin:∀(q:Int) (r:List Int),r.length=m->Aw Ak r->(0<=q/\q<18446744073709551616)->zc Ak r<zc Ak v->zc Ak r=zc Ak r0-q*zc Ak v->Ends Jq (L4 v9 v10 v11n v12 v13n (zh .i64 ((j:Int)-1)) (o1'.set j q) (lo++r)) Q):
  ∀(f:Nat) (q r o:Int),0<=q->q<f->q<18446744073709551616->Sp.u64 r=true->(o=0\/o=1)->q*v.getD (k+1) 0+(r+18446744073709551616*o)=r0.getD (k+2) 0*18446744073709551616+r0.getD (k+1) 0->zc Ak r0<(q+1)*zc Ak v->
   Ends Jq (L5 v9 v10 v11n v12 v13n j o1 o0 j (k+3) v0c v ((k+2:Nat):Int) q r o o1' (lo++r0)) Q
 |0,q,r,o,h0,hf,_,_,_,_,_=>by omega
 |f+1,q,r,o,h0,hf,hB,hr64,ho,he,hup=>by
  have uq:Sp.u64 q=true:=CB h0 hB;have uv2:=AV hv k;have uv1:=AV hv (k+1);have uu2:=AV hd k;have gv2:=jt uv2;have gv1:=jt uv1;have gu2:=jt uu2;have gr:=jt hr64;have hP:=AN (b:=Ak) (by decide) k;have hW:=oY Ak r0 k (by omega) hz;have hV:=lO Ak v k hn;have hu':=AA (b:=Ak) (by decide) (AL hd k);have hu'':=Br (b:=Ak) (by decide) (AL hd k);have hv':=AA (b:=Ak) (by decide) (AL hv k);have hv'':=Br (b:=Ak) (by decide) (AL hv k);rw[ya,yi (by omega)]at hu'' hv'';have exit:q*v.getD k 0<=(r+18446744073709551616*o)*18446744073709551616+r0.getD k 0->Ends Jq (L7 v9 v10 v11n v12 v13n j o1 o0 j (k+3) v0c v ((k+2:Nat):Int) q 0 0 ((k+2:Nat):Int) 0 o1' (lo++r0)) Q:=by
   intro hx;refine lT v9 v10 v11n v12 v13n o1 o0 v0c v (k+2) j lo m r0 o1' hn hn9 hm hlo hjv hj1 hv hr hd hz hfin q uq hup ?_;rw[hW,hV];exact TN hP ⟨hv',hv''⟩ hu' ⟨h0,hB⟩ hv1 gv2.1 he hx
  have e1:zh .i64 (((k+2:Nat):Int)-2)=(k:Int):=by rw[wr _ (by omega) (by omega)];omega
  have e2:zh .i64 (((k+2:Nat):Int)-1)=((k+1:Nat):Int):=by rw[wr _ (by omega) (by omega)];omega
  obtain⟨w1,w2,w3⟩:=yM q (v.getD k 0);have hlw:decide (kc k j<(lo++r0).length)=true:=lw hlo (by omega);refine zu (GO ..) (zt (fun c=>?_) (fun c=>?_))
  ·have c:o=0:=by simpa using c
   subst c;rw[e1,e2,zj,zj,gw hlo];refine ze (by simp;omega) (ze (Aa uq uv2) ?_);have dec:r*18446744073709551616+r0.getD k 0<q*v.getD k 0->Ends Jq (L5 v9 v10 v11n v12 v13n j o1 o0 j (k+3) v0c v ((k+2:Nat):Int) (zh .u64 (q-1)) (HN r (v.getD (k+1) 0) 0) (Pa r (v.getD (k+1) 0) 0) o1' (lo++r0)) Q:=by
    intro hx;obtain⟨a1,a2,a3⟩:=K4 hr64 uv1 (c:=0) (by decide);have hq1:1<=q:=by
     rcases yg 0 q with g|g
     ·exact g
     ·have:q=0:=by omega
      subst this;rw[jj]at hx;omega
    rw[wu (q-1) (by omega) (by omega)];refine Cq v9 v10 v11n v12 v13n o1 o0 v0c v k j lo m r0 o1' hn hn9 hm hlo hjv hj1 hv hr hd hz hv1 hfin f (q-1) _ _ (by omega) (by omega) (by omega) a1 (by omega) ?_ ?_
    ·rw[jz,ym,a3];omega
    ·have he':q*v.getD (k+1) 0+r=r0.getD (k+2) 0*18446744073709551616+r0.getD (k+1) 0:=by omega
     have:=UK (B:=Ak) (u0:=r0.getD (k+2) 0) (u1:=r0.getD (k+1) 0) (u2:=r0.getD k 0) hP hv' hu'' h0 (v1:=v.getD (k+1) 0) (v2:=v.getD k 0) (r:=r) he' hx;rw[<-hW, <-hV]at this;rw[show q-1+1=q by omega];exact this
   refine zt (fun c1=>exit ?_) (fun c1=>zt (fun c2=>ze (by simp;omega) (ze hlw (zt (fun c3=>exit ?_) (fun c3=>ze (by simp;omega) (ze (Aa (Aa (Aa hr64 uv1) rfl) rfl) (dec ?_)))))) (fun c2=>ze (by simp;omega) (ze (Aa (Aa (Aa hr64 uv1) rfl) rfl) (dec ?_))))
   ·have c1:=w6 c1;omega
   ·have c2:QL q (v.getD k 0)=r:=by simpa using c2
    have c3:=w6 c3;omega
   ·have c2:QL q (v.getD k 0)=r:=by simpa using c2
    have c3:=w7 c3;omega
   ·have c1:=w7 c1;have c2:QL q (v.getD k 0)≠r:=by simpa using c2
    omega
  ·have c:o≠0:=by simpa using c
   refine exit ?_;have a:=zk (show v.getD k 0<=18446744073709551615 by omega) h0;omega
theorem BQ(s:Int)(v:List Int)(k la:Nat)(hn:v.length=k+2)(hla:la<=9000)(hkl:k+2<=la)(hv:Aw Ak v)(hv1:1<=v.getD (k+1) 0)(W0:Int)
  (hq:∀u qs:List Int,u.length=la+1->Aw Ak u->Aw Ak qs->zc Ak u<zc Ak v->qs.length=la-(k+2)+1->W0=zc Ak u+zc Ak v*zc Ak qs->Ends Jq (L6 s (la+1) ((k+2:Nat):Int) (la-(k+2)+1) ((k+2:Nat):Int) 0 qs u) Q):
  ∀(t:Nat) (u qs:List Int),t+qs.length=la-(k+2)+1->u.length=la+1->Aw Ak u->Aw Ak qs->zc Ak (u.drop t)<zc Ak v->W0=zc Ak u+zc Ak v*((Ak:Int)^t*zc Ak qs)->
   Ends Jq (L4 s v (la+1) ((k+2:Nat):Int) (la-(k+2)+1) ((t:Int)-1) (zm t 0++qs) u) Q
 |0,u,qs,hl,hu,hd,hdq,hlt,he=>by
  refine zu (DD ..) (yd (by simp) ?_);exact hq u qs hu hd hdq hlt (by omega) (by rw[he,yj,ym])
 |j+1,u,qs,hl,hu,hd,hdq,hlt,he=>by
  obtain⟨lo,r,rfl,hlo⟩:∃lo r:List Int,u=lo++r/\lo.length=j:=⟨u.take j,u.drop j,(yx j u).symm,by rw[ya];omega⟩;have hdlo:Aw Ak lo:=fun d hd'=>hd d (qn.2 (.inl hd'))
  have hdr:Aw Ak r:=fun d hd'=>hd d (qn.2 (.inr hd'))
  have hrl:r.length=la+1-j:=by rw[qv]at hu;omega
  have hdrop:∀z:List Int,(lo++z).drop j=z:=fun z=>by rw[<-hlo];exact List.drop_left
  have hr0:r=r.getD 0 0::r.drop 1:=by
   have:=Ca (l:=r) (i:=0) (by omega);rw[List.drop_zero]at this;exact this
  have hd1:(lo++r).drop (j+1)=r.drop 1:=by rw[jk j 1,jk 1 j, <-qw,hdrop]
  rw[hd1]at hlt;have g0:=JO (b:=Ak) (by decide) hdr 0;have hvr:zc Ak r=r.getD 0 0+18446744073709551616*zc Ak (r.drop 1):=by
   conv=>lhs;rw[hr0]
   rfl
  have hVlt:=Br (b:=Ak) (by decide) hv;rw[hn]at hVlt;have g0:0<=r.getD 0 0/\r.getD 0 0<18446744073709551616:=g0;have hrV:zc Ak r<18446744073709551616*zc Ak v:=by rw[hvr];omega
  have hz:zc Ak (r.drop (k+3))=0:=by
   refine I8 (b:=Ak) (by decide) hdr (by omega) ?_;have ep:(Ak:Int)^(k+3)=(Ak:Int)^(k+2)*18446744073709551616:=zy ..;rw[ep];omega
  have uu0:=AV hdr (k+2);have uu1:=AV hdr (k+1);have uu2:=AV hdr k;have uv1:=AV hv (k+1);have gu0:=jt uu0;have gu1:=jt uu1;have gu2:=jt uu2;have gv1:=jt uv1;have gv2:=jt (AV hv k);have hP:=AN (b:=Ak) (by decide) k;have hW:=oY Ak r k (by omega) hz;have hV:=lO Ak v k hn;have hu':=AA (b:=Ak) (by decide) (AL hdr k);have hu'':=Br (b:=Ak) (by decide) (AL hdr k);have hv':=AA (b:=Ak) (by decide) (AL hv k);rw[ya,yi (by omega)]at hu'';have hle:r.getD (k+2) 0<=v.getD (k+1) 0:=by
   have a1:=B7 Ak (r.drop 1) (k+1) (by rw[qk];omega);have a2:(r.drop 1).drop (k+1)=r.getD (k+2) 0::r.drop (k+3):=by
    rw[qw,show 1+(k+1)=k+2 by omega];exact Ca (by omega)
   have a3:zc Ak (r.getD (k+2) 0::r.drop (k+3))=r.getD (k+2) 0:=by
    show r.getD (k+2) 0+(Ak:Int)*zc Ak (r.drop (k+3))=_;rw[hz];omega
   rw[a2,a3]at a1;have b1:zc Ak v=zc Ak (v.take (k+1))+(Ak:Int)^(k+1)*v.getD (k+1) 0:=by
    rw[<-AE,zq (by omega)]
   have b2:=Br (b:=Ak) (by decide) (AL hv (k+1));rw[ya,yi (by omega)]at b2;have c1:=AA (b:=Ak) (by decide) (AL (EB hdr 1) (k+1));have c2:(Ak:Int)^(k+1)*r.getD (k+2) 0<(Ak:Int)^(k+1)*(v.getD (k+1) 0+1):=by
    rw[zw,yv];omega
   have:=z8 c2 (zr (AN (by decide) (k+1)));omega
  have hfin:∀(q:Int) (r':List Int),r'.length=la+1-j->Aw Ak r'->(0<=q/\q<18446744073709551616)->zc Ak r'<zc Ak v->zc Ak r'=zc Ak r-q*zc Ak v->Ends Jq (L4 s v (la+1) ((k+2:Nat):Int) (la-(k+2)+1) (zh .i64 ((j:Int)-1)) ((zm (j+1) 0++qs).set j q) (lo++r')) Q:=by
   intro q r' h1 h2 h3 h4 h5;have es:(zm (j+1) (0:Int)++qs).set j q=zm j 0++(q::qs):=by
    rw[qm,yb];exact Di _ _ _ _ (by simp)
   rw[es,wr ((j:Int)-1) (by omega) (by omega)];refine BQ s v k la hn hla hkl hv hv1 W0 hq j (lo++r') (q::qs) (by simp;omega) (by simp;omega) (EN hdlo h2) (fun d hd'=>?_) (by rw[hdrop];exact h4) ?_
   ·rcases ql.1 hd' with rfl|hd'
    ·exact h3
    ·exact hdq d hd'
   ·rw[he,CQ,CQ,hlo,h5,KX];show zc Ak lo+(Ak:Int)^j*zc Ak r+zc Ak v*((Ak:Int)^j*(18446744073709551616*zc Ak qs))=zc Ak lo+(Ak:Int)^j*(zc Ak r-q*zc Ak v)+zc Ak v*((Ak:Int)^j*(q+18446744073709551616*zc Ak qs));have x1:zc Ak v*((Ak:Int)^j*q)=(Ak:Int)^j*(q*zc Ak v):=by
     rw[ye,zz (zc Ak v) q]
    rw[yz,zw ((Ak:Int)^j) q,zw (zc Ak v),x1];omega
  have ez:kc 0 j=j:=j8 j;have e0:(((j+1:Nat):Int)-1)=(j:Int):=by omega
  have e1:zh .i64 (zh .i64 ((j:Int)+((k+2:Nat):Int))+1)=((j+(k+3):Nat):Int):=by
   rw[wr ((j:Int)+((k+2:Nat):Int)) (by omega) (by omega),wr _ (by omega) (by omega)];omega
  have e2:zh .i64 (((k+2:Nat):Int)-1)=((k+1:Nat):Int):=by rw[wr _ (by omega) (by omega)];omega
  have e3:j9 (j+(k+3)) j=k+3:=by show j+(k+3)-j=_;omega
  have lw1:decide (kc (k+2) j<(lo++r).length)=true:=lw hlo (by omega);have lw2:decide (kc (k+1) j<(lo++r).length)=true:=lw hlo (by omega);rw[e0];refine zu (DD ..) (ze (by simp) ?_);rw[hn,e1,e2,zj,zj,zj,zj,ez,e3,gw hlo,gw hlo];have b1:(decide ((0:Int)<=((k+2:Nat):Int))&&decide (((k+2:Nat):Int)<((k+3:Nat):Int)))=true:=by simp;omega
  have b2:(decide ((0:Int)<=((k+1:Nat):Int))&&decide (((k+1:Nat):Int)<((k+2:Nat):Int)))=true:=by simp;omega
  have b3:(decide ((0:Int)<=((k+1:Nat):Int))&&decide (((k+1:Nat):Int)<((k+3:Nat):Int)))=true:=by simp;omega
  have hjl:j<(zm (j+1) (0:Int)++qs).length:=by simp;omega
  refine ze (by simp;omega) (ze b1 (ze lw1 (ze b2 (zt (fun c=>?_) (fun c=>?_)))))
  ·have c:=w6 c;obtain⟨a1,a2,a3⟩:=K4 uu1 uv1 (c:=0) (by decide);refine ze b3 (ze lw2 (ze b2 (ze (Aa (Aa (Aa uu1 uv1) rfl) rfl) ?_)));refine Cq s v (la+1) _ _ _ _ _ v k j lo (la+1-j) r _ hn (by omega) (by omega) hlo (by omega) hjl hv hrl hdr hz hv1 hfin 18446744073709551616 _ _ _ (by decide) (by decide) (by decide) a1 (by omega) ?_ ?_
   ·rw[a3];omega
   ·exact hrV
  ·have c:=w7 c;obtain⟨d1,d2,d3,d4,d5⟩:=dqr (r:=r.getD (k+2) 0) (x:=r.getD (k+1) 0) (d:=v.getD (k+1) 0) (by omega) (by omega) gu1;refine ze b1 (ze lw1 (ze b3 (ze lw2 (ze b2 (ze (Aa (Aa (Aa uu0 uu1) uv1) (w4 (by omega))) ?_)))));refine Cq s v (la+1) _ _ _ _ _ v k j lo (la+1-j) r _ hn (by omega) (by omega) hlo (by omega) hjl hv hrl hdr hz hv1 hfin 18446744073709551616 _ _ _ d2 d3 d3 (CB d4 (by omega)) (.inl rfl) ?_ ?_
   ·rw[<-d1];omega
   ·rw[hW,hV];exact MA hP (by decide) d2 hv' gv2.1 hu'' gu2.2 d1 d5
end T230
theorem T2{a b:Int}{s:Nat}(ha:0<=a)(hb:0<=b)(h:b<2^s)(hm:a*2^s+b<18446744073709551616):Yy .u64 b (a*2^s)=a*2^s+b:=by
 have:=XL ha hb h hm;rw[<-this];show zh .u64 (((yk 64 b|||yk 64 (a*2^s)).toNat:Nat):Int)=zh .u64 (((yk 64 (a*2^s)|||yk 64 b).toNat:Nat):Int);rw[BitVec.or_comm]
theorem Yp{s:Nat}(hs:s<=63):(18446744073709551616:Int)=2^s*2^(64-s):=by rw[<-j0,show s+(64-s)=64 by omega];rfl
namespace T230
variable {Q:PV->Ob->Prop}
theorem EF(s:Nat)(hs:s<=63)(la n m:Nat)(hn:n<=la)(hla:la<=9000)(u qs:List Int)(hu:u.length=la+1)(hd:Aw Ak u)(hz:zc Ak (u.drop n)=0)(hm:qs.length=m)(hm9:m<=9000)(hdq:Aw Ak qs)
  (hq:∀(w:List Int) ob,Aw Ak w->zc Ak w=zc Ak u/2^s->Q (.tup [.dat Dc (Aq qs),.dat Dc (Aq w)]) ob):
  ∀(k i:Nat) (p:List Int),i+k=n->p.length=i->Aw Ak p->zc Ak p+(Ak:Int)^i*(zc Ak (u.drop i)/2^s)=zc Ak u/2^s->
   Ends Jq (L6 s (la+1) n m n i qs (p++u.drop i)) Q
 |0,i,p,hi,hp,hdp,he=>by
  have hi:i=n:=by omega
  subst hi;have ht:(p++u.drop i).take i=p:=by rw[<-hp];exact j5
  have ht2:qs.take m=qs:=zq (by omega);rw[hz,Int.zero_ediv,qc,qu]at he;refine zu (HP ..) (yd (by simp) ?_);rw[zj,ht,ht2];refine ze (by simp;omega) (ze (Aa (by simp;omega) (D5 (by omega) hdq)) (ze (Aa (by simp;omega) (D5 (by omega) hdp)) (zp (hq p _ hdp he))))
 |k+1,i,p,hi,hp,hdp,he=>by
  have d1:=Ca (l:=u) (i:=i) (by omega);have d2:=Ca (l:=u) (i:=i+1) (by omega);have gx:=jt (AV hd i);have gy:=jt (AV hd (i+1));have g1:(p++u.drop i).getD i 0=u.getD i 0:=by rw[d1];exact Dr _ _ _ _ hp
  have s1:∀z,(p++u.drop i).set i z=p++z::u.drop (i+1):=fun z=>by rw[d1];exact Di _ _ _ _ hp
  have s2:∀z x,(p++z::u.drop (i+1)).set i x=(p++[x])++u.drop (i+1):=fun z x=>by rw[Di _ _ _ _ hp,yb];rfl
  have g2:∀z,(p++z::u.drop (i+1)).getD i 0=z:=fun z=>Dr _ _ _ _ hp
  have g3:∀z,(p++z::u.drop (i+1)).getD (i+1) 0=u.getD (i+1) 0:=fun z=>by
   rw[d2,show p++z::u.getD (i+1) 0::u.drop (i+1+1)=(p++[z])++u.getD (i+1) 0::u.drop (i+1+1)by rw[yb];rfl];exact Dr _ _ _ _ (by simp[hp])
  have hlen:∀z,(p++z::u.drop (i+1)).length=la+1:=fun z=>by simp;omega
  have hlen0:(p++u.drop i).length=la+1:=by simp;omega
  have e2:zh .i64 ((i:Int)+1)=((i+1:Nat):Int):=by rw[wr _ (by omega) (by omega)];omega
  have e3:zh .i64 ((64:Int)-(s:Int))=((64-s:Nat):Int):=by rw[wr _ (by omega) (by omega)];omega
  have em:Min.min s 64=s:=by omega
  have em2:Min.min (64-s) 64=64-s:=by omega
  have hB:=Yp hs;have hc:(0:Int)<2^s:=y7 (by decide);have hd':(0:Int)<2^(64-s):=y7 (by decide);have efd:Int.fdiv (u.getD i 0) ((2:Int)^s)=u.getD i 0/2^s:=y8 _ (zr hc);have a0:0<=u.getD i 0/2^s:=qo gx.1 (zr hc);have a1:u.getD i 0/2^s<2^(64-s):=qj hc (by rw[zz, <-hB];exact gx.2);have m0:=yq (u.getD (i+1) 0) (show(2:Int)^s≠0 by omega);have m1:=yn (u.getD (i+1) 0) hc;have p0:0<=(u.getD (i+1) 0 % 2^s)*2^(64-s):=yf m0 (zr hd');have p1:(u.getD (i+1) 0 % 2^s)*2^(64-s)<=18446744073709551616-2^(64-s):=by
   have:=zn (show u.getD (i+1) 0 % 2^s<=2^s-1 by omega) (zr hd');rw[jz,ym, <-hB]at this;exact this
  have hnew:0<=u.getD i 0/2^s+(u.getD (i+1) 0 % 2^s)*2^(64-s)/\u.getD i 0/2^s+(u.getD (i+1) 0 % 2^s)*2^(64-s)<18446744073709551616:=by omega
  have ewy:zh .u64 (u.getD (i+1) 0*2^(64-s))=(u.getD (i+1) 0 % 2^s)*2^(64-s):=by
   rw[K0];exact(TE (b:=18446744073709551616) (c:=2^(64-s)) (d:=2^s) (k:=0) hd' hc (by rw[hB,zz]) ⟨q9 _,hd'⟩ gy).1
  have eio:Yy .u64 (u.getD i 0/2^s) ((u.getD (i+1) 0 % 2^s)*2^(64-s))=u.getD i 0/2^s+(u.getD (i+1) 0 % 2^s)*2^(64-s):=by
   rw[T2 m0 a0 a1 (by omega),Int.add_comm]
  have next:∀z,z=u.getD i 0/2^s+(u.getD (i+1) 0 % 2^s)*2^(64-s)->Ends Jq (L6 s (la+1) n m n ((i+1:Nat):Int) qs ((p++[z])++u.drop (i+1))) Q:=by
   intro z hz';refine EF s hs la n m hn hla u qs hu hd hz hm hm9 hdq hq k (i+1) (p++[z]) (by omega) (by simp[hp]) (DS hdp (by rw[hz'];exact CB hnew.1 hnew.2)) ?_;rw[<-he,EL,hp,KX,jc, <-zw];congr 2;have:=eX (b:=18446744073709551616) (c:=2^s) (d:=2^(64-s)) (x:=u.getD i 0) (y:=u.getD (i+1) 0) (X:=zc Ak (u.drop (i+1+1))) hc hB;rw[hz',d1,d2];exact this.symm
  have b1:(decide ((0:Int)<=(i:Int))&&decide ((i:Int)<((la+1:Nat):Int)))=true:=by simp;omega
  have b2:(decide ((0:Int)<=((i+1:Nat):Int))&&decide (((i+1:Nat):Int)<((la+1:Nat):Int)))=true:=by simp;omega
  refine zu (HP ..) (ze (by simp;omega) ?_);rw[e2,e3,zj,zj,zj,zj,em,em2,g1,efd,s1,g2,g3,s2,ewy,eio,hlen,hlen0];refine ze b1 (ze (w4 (by omega)) (ze (by simp) (ze b1 (ze (w4 (by omega)) (zt (fun c=>ze (by simp;omega) (ze b1 (ze (w4 (by omega)) (ze b2 (ze (w4 (by omega)) (ze (by simp) (ze b1 (ze (w4 (by omega)) (next _ rfl))))))))) (fun c=>?_))))));have c:=w7 c;have hs0:s=0:=by omega
  subst hs0;rw[show ∀z:Int,p++z::u.drop (i+1)=(p++[z])++u.drop (i+1)from fun z=>by rw[yb];rfl];refine next _ ?_;rw[yj,Int.emod_one,jj,qu]
theorem Se{X:A1}{F:Int->List Int->Tr}(w:List Int)(s:Nat)(hs:s<=63)(hd:Aw Ak w)
  (Du:∀(i:Nat) (o:List Int),i<w.length->o.length=w.length+1->Ends X (F ((i+1:Nat):Int) (if 0<s then(o.set i (Yy .u64 (o.getD i 0) (zh .u64 (w.getD i 0*2^s)))).set (i+1) (Int.fdiv (w.getD i 0) (2^(64-s)))else o.set i (Yy .u64 (o.getD i 0) (zh .u64 (w.getD i 0*2^s))))) Q->Ends X (F i o) Q)
  (hend:∀o:List Int,o.length=w.length+1->Aw Ak o->zc Ak o=2^s*zc Ak w->Ends X (F w.length o) Q):
  ∀(k i:Nat) (p:List Int) (c:Int),i+k=w.length->p.length=i->Aw Ak p->(0<=c/\c<2^s)->zc Ak p+(Ak:Int)^i*c=2^s*zc Ak (w.take i)->Ends X (F i (p++c::zm k 0)) Q
 |0,i,p,c,hi,hp,hdp,hc,he=>by
  have hi:i=w.length:=by omega
  subst hi;have hP:(2:Int)^s<=18446744073709551616:=by
   have:=Yp hs;have h1:(1:Int)<=2^(64-s):=y7 (by decide);have h2:=zk h1 (show(0:Int)<=2^s from zr (y7 (by decide)));omega
  rw[qd]at he;refine hend _ (by simp[hp]) (DS hdp (CB hc.1 (by omega))) ?_;rw[<-he];show zc Ak (p++[c])=_;rw[EL,hp]
 |k+1,i,p,c,hi,hp,hdp,hc,he=>by
  have gx:=jt (AV hd i);have hB:=Yp hs;have h2s:(0:Int)<2^s:=y7 (by decide);have h2d:(0:Int)<2^(64-s):=y7 (by decide);obtain⟨s1,s2,s3,s4,s5,s6⟩:=TE (b:=18446744073709551616) (c:=2^s) (d:=2^(64-s)) (x:=w.getD i 0) (k:=c) h2s h2d hB hc gx;have efd:Int.fdiv (w.getD i 0) ((2:Int)^(64-s))=w.getD i 0/2^(64-s):=y8 _ (zr h2d);have g1:(p++c::zm (k+1) 0).getD i 0=c:=Dr _ _ _ _ hp;have st:∀z:Int,(p++c::zm (k+1) 0).set i z=p++z::zm (k+1) 0:=fun z=>Di _ _ _ _ hp
  have st2:∀z y:Int,(p++z::zm (k+1) 0).set (i+1) y=(p++[z])++y::zm k 0:=fun z y=>by
   rw[show p++z::zm (k+1) (0:Int)=(p++[z])++0::zm k 0 by rw[yb];rfl];exact Di _ _ _ _ (by simp[hp])
  have eio:Yy .u64 c ((w.getD i 0 % 2^(64-s))*2^s)=(w.getD i 0 % 2^(64-s))*2^s+c:=T2 (yq _ (by omega)) hc.1 hc.2 s2;have go:=Se w s hs hd Du hend k (i+1) (p++[(w.getD i 0 % 2^(64-s))*2^s+c]) (w.getD i 0/2^(64-s)) (by omega) (by simp[hp]) (DS hdp (CB (by omega) s2)) ⟨s4,s5⟩ (by
   rw[EL,hp,KX,AE,zw (2^s), <-he,jc,jc, <-zw,ye (2^s), <-zw];congr 2;rw[zz (2^s)];omega)
  refine Du i _ (by omega) (by simp;omega) ?_;rw[K0,s1,efd,g1,eio,st,st2];by_cases h0:0<s
  ·rw[wd h0];exact go
  ·have hs0:s=0:=by omega
   subst hs0;have hz:w.getD i 0/2^(64-0)=0:=qi gx.1 gx.2;rw[hz]at go;rw[wc h0,show ∀z:Int,p++z::zm (k+1) (0:Int)=(p++[z])++0::zm k 0 from fun z=>by rw[yb];rfl];exact go
end T230
theorem lZ:DM Jq:=
 Ab T221.ok (Ab T269.ok (Ab T223.ok (Ab T268.ok (Ab T270.ok (Ab cY (Ab T272.ok AP))))))
theorem JK{w:List Int}(hd:Aw Ak w)(hn:Sp.nz w){k:Nat}(hl:w.length=k+1):0<w.getD k 0/\w.getD k 0<18446744073709551616:=by
 have g:=jt (AV hd k);refine⟨?_,g.2⟩;have e:w.getLast?=some (w.getD k 0):=by
  rw[qz,hl,qe,yo,je (by omega)];rfl
 unfold Sp.nz at hn;rw[e]at hn;have:w.getD k 0≠0:=fun h=>hn (by rw[h])
 omega
namespace T230
set_option maxHeartbeats 1000000 in
theorem ok:Ag Bg 230 Gk:=by
 refine B1 lZ (fun(i:List Int×List Int) hi=>?_);obtain⟨a,b⟩:=i;have hi:(B5 a&&B5 b&&decide (a.length<=9000)&&decide (b.length<=9000)&&decide (0<Ao b))=true:=hi;rw[zl,zl,zl,zl,w5,w5,w5]at hi;obtain⟨⟨⟨⟨na,nb⟩,la9⟩,lb9⟩,hb0⟩:=hi;obtain⟨_,da,za⟩:=ES na;obtain⟨_,db,zb⟩:=ES nb;have hb0:0<zc Ak b:=hb0;have ha0:=AA (b:=Ak) (by decide) da;have hg:∀q r ob,q=Bs (Ao a/Ao b)->r=Bs (Ao a % Ao b)->Ad Gk (a,b) (PV.tup [PV.dat Dc q,PV.dat Dc r]) ob:=fun q r ob e1 e2=>y9 rfl rfl (Prod.ext e1 e2)
 have fin:∀(q r:List Int) ob,Aw Ak q->Aw Ak r->zc Ak a=zc Ak q*zc Ak b+zc Ak r->zc Ak r<zc Ak b->Ad Gk (a,b) (PV.tup [PV.dat Dc (Aq q),PV.dat Dc (Aq r)]) ob:=by
  intro q r ob dq dr he hr;have hr0:=AA (b:=Ak) (by decide) dr;obtain⟨u1,u2⟩:=(yr (a:=zc Ak a) (b:=zc Ak b) (r:=zc Ak r) (q:=zc Ak q) hb0).2 ⟨by rw[zz (zc Ak b)];omega,hr0,hr⟩;refine hg _ _ ob ?_ ?_
  ·rw[KV dq];show Bs (zc Ak q)=Bs (zc Ak a/zc Ak b);rw[u1]
  ·rw[KV dr];show Bs (zc Ak r)=Bs (zc Ak a % zc Ak b);rw[u2]
 have hbne:b≠[]:=by rintro rfl;simp[zc]at hb0
 have hblen:b.length≠0:=fun h=>hbne (yc.1 h)
 refine yw (Am a b) (ze (by rw[na,nb];rfl) (zt (fun c=>?_) (fun c=>?_)))
 ·have c:=w6 c;have hlt:zc Ak a<zc Ak b:=by
   unfold BZ at c;have c:(if zc Ak a<zc Ak b then(-1:Int)else if zc Ak a>zc Ak b then 1 else 0)<0:=c;split at c
   ·assumption
   ·split at c<;>omega
  refine zp (y9 rfl rfl ?_);show([],a)=(Bs (zc Ak a/zc Ak b),Bs (zc Ak a % zc Ak b));rw[qi ha0 hlt,Int.emod_eq_of_lt ha0 hlt];exact Prod.ext rfl (Ij (by decide) da za)
 ·have c:=w7 c;have hge:zc Ak b<=zc Ak a:=by
   rcases yg (zc Ak a) (zc Ak b)with g|g
   ·have:BZ (Ao a) (Ao b)= -1:=wd g;omega
   ·exact g
  have hll:b.length<=a.length:=by
   rcases Nat.lt_or_ge a.length b.length with g|g
   ·have:=Eu (b:=Ak) (by decide) da db zb g;omega
   ·exact g
  refine zt (fun c1=>?_) (fun c1=>?_)
  ·have c1:b.length=1:=by
    have:(b.length:Int)=1:=by simpa using c1
    omega
   obtain⟨d,rfl⟩:=jl.1 c1;have hd:0<d/\d<18446744073709551616:=JK (k:=0) db zb rfl;have e1:zh .i64 ((a.length:Int)-1)=(a.length:Int)-1:=wr _ (by omega) (by omega);rw[e1,zj];refine ze (by simp;omega) ?_;have:=Aj (Q:=Ad Gk (a,[d])) a d da hd (by omega) (fun q r ob dq dr he=>by
    refine fin q [r] ob dq (fun x hx=>by rw[qf]at hx;subst hx;exact⟨dr.1,by show x<18446744073709551616;omega⟩) ?_ ?_
    ·rw[val_one,val_one];exact he
    ·rw[val_one,val_one];exact dr.2) a.length [] 0 (by simp) (fun x hx=>by cases hx) ⟨q9 _,hd.1⟩ (by rw[jh];simp[zc])
   rw[qp]at this;exact this
  ·have c1:b.length≠1:=by
    have:(b.length:Int)≠1:=by simpa using c1
    omega
   obtain⟨k,hk⟩:∃k,b.length=k+2:=⟨b.length-2,by omega⟩;obtain⟨y0,y1⟩:=JK (k:=k+1) db zb hk;obtain⟨s,hs,hs63,hlt,_⟩:=TX y0 y1;have hB:=Yp hs63;have h2s:(0:Int)<2^s:=y7 (by decide);have h2d:(0:Int)<2^(64-s):=y7 (by decide);have hyd:b.getD (k+1) 0<2^(64-s):=by
    rw[hB,zz (b.getD (k+1) 0)]at hlt;exact z8 hlt (zr h2s)
   have hv1:(Ak:Int)^(k+1)<=2^s*zc Ak b:=by
    have a1:=Db (b:=Ak) (by decide) db zb hbne;rw[hk,show k+2-1=k+1 by omega]at a1;have a2:=zn (show(1:Int)<=2^s by omega) (zr hb0);omega
   have hv2:2^s*zc Ak b<(Ak:Int)^(k+2):=by
    have b1:zc Ak b=zc Ak (b.take (k+1))+(Ak:Int)^(k+1)*b.getD (k+1) 0:=by
     rw[<-AE,zq (by omega)]
    have b2:=Br (b:=Ak) (by decide) (AL db (k+1));rw[ya,yi (by omega)]at b2;have hp:=AN (b:=Ak) (by decide) (k+1);have b3:zc Ak b<(Ak:Int)^(k+1)*2^(64-s):=by
     have:=zk (show b.getD (k+1) 0+1<=2^(64-s)by omega) (zr hp);rw[zw,yv]at this;omega
    have b4:=qx b3 h2s;have b5:(2:Int)^s*((Ak:Int)^(k+1)*2^(64-s))=(Ak:Int)^(k+2):=by
     rw[ye, <-hB];exact(zy ..).symm
    rw[b5]at b4;exact b4
   have hls:∀o:List Int,Aw Ak o->zc Ak o=2^s*zc Ak b->Aw Ak (Aq o)/\(Aq o).length=k+2/\zc Ak (Aq o)=2^s*zc Ak b/\1<=(Aq o).getD (k+1) 0:=by
    intro o ho hv;have hd':=Hz ho;have hv':zc Ak (Aq o)=2^s*zc Ak b:=by rw[IU,hv]
    have hl':=Z9 (b:=Ak) (by decide) hd' (Ke o) (k:=k+1) (by rw[hv'];exact hv1) (by rw[hv'];exact hv2);have:=(JK hd' (Ke o) hl').1;exact⟨hd',hl',hv',by omega⟩
   have e2:zh .i64 (((k+2:Nat):Int)-1)=((k+1:Nat):Int):=by rw[wr _ (by omega) (by omega)];omega
   have e3:zh .i64 (((k+2:Nat):Int)+1)=((k+3:Nat):Int):=by rw[wr _ (by omega) (by omega)];omega
   have e4:zh .i64 ((a.length:Int)+1)=((a.length+1:Nat):Int):=by rw[wr _ (by omega) (by omega)];omega
   have e5:zh .i64 ((a.length:Int)-((k+2:Nat):Int))=((a.length-(k+2):Nat):Int):=by rw[wr _ (by omega) (by omega)];omega
   have e6:zh .i64 (((a.length-(k+2):Nat):Int)+1)=((a.length-(k+2)+1:Nat):Int):=by rw[wr _ (by omega) (by omega)];omega
   have e7:zh .i64 ((64:Int)-(s:Int))=((64-s:Nat):Int):=by rw[wr _ (by omega) (by omega)];omega
   have em:Min.min s 64=s:=by omega
   have em2:Min.min (64-s) 64=64-s:=by omega
   rw[hk,e2,e3,zj,zj,hs];refine ze (by simp;omega) (ze (CB (by omega) y1) (ze (by simp;omega) ?_));refine Se (F:=fun i o=>L2 a b s (k+3) b ((k+2:Nat):Int) i o) b s hs63 db (fun i o hi ho h=>?_) (fun o hol hod hov=>?_) (k+2) 0 [] 0 (by omega) rfl (fun x hx=>by cases hx) ⟨q9 _,h2s⟩ (by simp[zc])
   ·have ei:zh .i64 ((i:Int)+1)=((i+1:Nat):Int):=by rw[wr _ (by omega) (by omega)];omega
    have b1:(decide ((0:Int)<=(i:Int))&&decide ((i:Int)<((k+3:Nat):Int)))=true:=by simp;omega
    refine zu (AZ ..) (ze (by simp;omega) ?_);rw[ei,e7,zj,zj,zj,zj,em,em2];refine ze (by simp;omega) (ze b1 (ze (w4 (by omega)) (ze (by simp) (ze b1 (ze (w4 (by omega)) (zt (fun c=>ze (by simp) (ze (by simp;omega) (ze (by simp;omega) ?_))) (fun c=>?_)))))))
    ·have c:=w6 c;rw[wd (by omega)]at h;exact h
    ·have c:=w7 c;rw[wc (by omega)]at h;exact h
   obtain⟨vd,vl,vv,v1⟩:=hls o hod hov;have eo:o.take (k+3)=o:=zq (by omega);rw[hk];refine zu (AZ ..) (yd (by simp) ?_);rw[eo,e4,zj,hk,e2,zj,hs];refine ze (Aa (by simp;omega) (D5 (by omega) hod)) (ze (by simp;omega) ?_);refine Se (F:=fun i o'=>L3 a b s (k+3) b ((k+2:Nat):Int) ((k+2:Nat):Int) o s (a.length+1) a a.length i o' o) a s hs63 da (fun i o' hi ho h=>?_) (fun u hul hud huv=>?_) a.length 0 [] 0 (by omega) rfl (fun x hx=>by cases hx) ⟨q9 _,h2s⟩ (by simp[zc])
   ·have ei:zh .i64 ((i:Int)+1)=((i+1:Nat):Int):=by rw[wr _ (by omega) (by omega)];omega
    have b1:(decide ((0:Int)<=(i:Int))&&decide ((i:Int)<((a.length+1:Nat):Int)))=true:=by simp;omega
    refine zu (C2 ..) (ze (by simp;omega) ?_);rw[ei,e7,zj,zj,zj,zj,em,em2];refine ze (by simp;omega) (ze b1 (ze (w4 (by omega)) (ze (by simp) (ze b1 (ze (w4 (by omega)) (zt (fun c=>ze (by simp) (ze (by simp;omega) (ze (by simp;omega) ?_))) (fun c=>?_)))))))
    ·have c:=w6 c;rw[wd (by omega)]at h;exact h
    ·have c:=w7 c;rw[wc (by omega)]at h;exact h
   refine zu (C2 ..) (yd (by simp) ?_);rw[eo,vl,e5,e6,zj,hk,e2,zj,hs];refine ze (by simp;omega) ?_;have hpn:=AN (b:=Ak) (by decide) (a.length-(k+2)+1);have start:zc Ak (u.drop (a.length-(k+2)+1))<zc Ak (Aq o):=by
    have a1:=B7 Ak u (a.length-(k+2)+1) (by omega);have a2:=AA (b:=Ak) (by decide) (AL hud (a.length-(k+2)+1));have a3:=Br (b:=Ak) (by decide) da;have a4:=qx a3 h2s;have a5:(Ak:Int)^a.length=(Ak:Int)^(a.length-(k+2)+1)*(Ak:Int)^(k+1):=by rw[<-j0];congr 1;omega
    have a6:=Db (b:=Ak) (by decide) db zb hbne;rw[hk,show k+2-1=k+1 by omega]at a6;have a7:=zk a6 (zr h2s);have a8:=zk a7 (zr hpn);rw[a5,ye]at a4;rw[vv];refine z8 (a:=(Ak:Int)^(a.length-(k+2)+1)) ?_ (zr hpn);omega
   have go:=BQ (Q:=Ad Gk (a,b)) s (Aq o) k a.length vl la9 (by omega) vd v1 (2^s*zc Ak a) (fun u' qs hul' hud' hdq hlt' hql he=>by
    have hz:zc Ak (u'.drop (k+2))=0:=I8 (b:=Ak) (by decide) hud' (by omega) (by rw[vv]at hlt';omega);refine EF s hs63 a.length (k+2) (a.length-(k+2)+1) (by omega) la9 u' qs hul' hud' hz hql (by omega) hdq (fun w ob hw hwv=>?_) (k+2) 0 [] (by omega) rfl (fun x hx=>by cases hx) (by simp[zc]);have e:zc Ak u'=2^s*(zc Ak a-zc Ak qs*zc Ak b):=by
     rw[vv,yh,zz (zc Ak b)]at he;rw[yz];omega
    have ew:zc Ak w=zc Ak a-zc Ak qs*zc Ak b:=by
     rw[hwv,e];exact jf _ (by omega)
    refine fin qs w ob hdq hw (by omega) ?_;rw[vv,e]at hlt';have:=z8 hlt' (zr h2s);omega) (a.length-(k+2)+1) u [] (by simp) hul hud (fun x hx=>by cases hx) start (by rw[huv];simp[zc])
   rw[qp,show((a.length-(k+2)+1:Nat):Int)-1=((a.length-(k+2):Nat):Int)by omega]at go;exact go
end T230
theorem QE:Ag Bg 230 Gk:=T230.ok
theorem pA:DM XF0:=fun g sp h=>by cases h
theorem T105n.ok:Ag Bg 105 UY:=by
 refine B1 pA (fun(n:Int) _=>?_);refine yw (T105n.Am n) (zp (y9 rfl rfl ?_));show(n,[])=(n,Cv n);rw[Ej]
theorem mZ:DM vE:=
 Ab T105n.ok (Ab QE (Ab (T218.ok Fg) (Ab (T219.ok Fg) (Ab T217.ok (Ab T158.ok (Ab T173.ok AP))))))
theorem VP{m D:Int}(hD:0<D):(m % D=0->(-m)/D= -(m/D)/\(-m) % D=0)/\(m % D≠0->(-m)/D= -(m/D)-1/\(-m) % D=D-m % D):=by
 have e:=yp m D;have r0:=yq m (show D≠0 by omega);have r1:=yn m hD;refine⟨fun h=>?_,fun h=>?_⟩
 ·exact(yr (a:= -m) (b:=D) (r:=0) (q:= -(m/D)) hD).2 ⟨by rw[j6];omega,by omega,by omega⟩
 ·exact(yr (a:= -m) (b:=D) (r:=D-m % D) (q:= -(m/D)-1) hD).2 ⟨by rw[yz,j6,yv];omega,by omega,by omega⟩
theorem jU{m D:Int}(hm:0<=m)(hD:0<D):(0<=m/D/\m/D<=m)/\(0<=m % D/\m % D<=m/\m % D<D):=by
 have e:=yp m D;have q0:0<=m/D:=qo hm (by omega);have q1:m/D<=m:=Int.ediv_le_self _ hm;have r0:=yq m (show D≠0 by omega);have r1:=yn m hD;have:=yf (show 0<=D by omega) q0;exact⟨⟨q0,q1⟩,r0,by omega,r1⟩
theorem XO(n:Bool){v:Int}(h:0<=v):Ae (j7 n v)=v:=by
 rw[Dn,Ah];split<;>omega
theorem DF{n:Int}(h:Ae n<(Ak:Int)^9000):A6 (CO n)=true:=by
 have:=Nw h (by omega);unfold A6;exact Aa this.1 (w4 this.2)
theorem iH{a b:AS}(h:0<zo a+zo b):En a b=CO (zo a+zo b):=by
 unfold En;split
 ·next c=>
  have:=Eh c.2.2;rw[Bl c.1,Bl c.2.1]at h ⊢;exact(BX (by omega)).symm
 ·rfl
theorem NB:((1:Int),Cv (1:Int))=CO 1:=by rw[Ej];rfl
namespace T176
theorem Qu{a b:AS}(q:Int)(h: -9223372036854775808<q/\q<9223372036854775808)(hq:F6 a b=CO q\/(-9223372036854775808<q/\F6 a b=MW (CO (q+1)) (1,[])/\q+1<9223372036854775808)):F6 a b=(q,[]):=by
 rcases hq with hq|⟨h1,hq,h2⟩
 ·rw[hq,BX h]
 ·rw[hq,BX (by omega)];unfold MW C4;rw[wd ⟨rfl,by decide⟩];unfold En;rw[wd ⟨rfl,rfl,C3 (by show _<=q+1+ -1;omega) (by show q+1+ -1<_;omega)⟩];show(q+1+ -1,[])=(q,[]);rw[show q+1+ -1=q by omega]
set_option maxHeartbeats 1000000 in
theorem ok:Ag Bg 176 G5:=by
 refine B1 mZ (fun(i:(Int×List Int)×(Int×List Int)) hi=>?_);obtain⟨a,b⟩:=i;have hi:(A6 a&&A6 b&&decide (0<zo b))=true:=hi;rw[zl,zl,w5]at hi;obtain⟨⟨ha,hb⟩,hD⟩:=hi;obtain⟨oa,_,na,_,va,ba⟩:=words ha;obtain⟨ob,_,nb,_,vb,bb⟩:=words hb;have eD:Ae (zo b)=zo b:=by rw[Ah];omega
 have hM:=AF (zo a);have eM:Ae (zo a)=if zo a<0 then -zo a else zo a:=rfl
 obtain⟨⟨q0,q1⟩,r0,r1,r2⟩:=jU (D:=zo b) hM hD;obtain⟨z1,z2⟩:=VP (m:=Ae (zo a)) hD;have hdiv:RW (Bs (Ae (zo a))) (Bs (Ae (zo b)))=true:=by
  unfold RW;exact Aa (Aa (Aa (Aa na nb) (w4 (J2 hM ba))) (w4 (J2 (AF _) bb))) (w4 (by rw[vb,eD];exact hD))
 have fin:∀(q r:AS) v ob,QO G5.outs v ob=some (true,(q,r))->q=F6 a b->r=CO (zo a % zo b)->Ad G5 (a,b) v ob:=fun q r v ob h e1 e2=>y9 h rfl (by rw[e1,e2];rfl)
 have slow:Ends vE (L1 (decide (zo a<0)) (Bs (Ao (Bs (Ae (zo a)))/Ao (Bs (Ae (zo b))))) (Bs (Ao (Bs (Ae (zo a))) % Ao (Bs (Ae (zo b))))) 0 0 b.1 b.2) (Ad G5 (a,b)):=by
  rw[va,vb,eD];obtain⟨nq,_,vq⟩:=CV (n:=Ae (zo a)/zo b) (k:=9000) q0 (by omega) (by omega);obtain⟨nr,_,vr⟩:=CV (n:=Ae (zo a) % zo b) (k:=9000) r0 (by omega) (by omega);have jr:A6 (CO (j7 (decide (zo a<0)) (Ae (zo a) % zo b)))=true:=DF (by rw[XO _ r0];omega);have jq:A6 (CO (j7 (decide (zo a<0)) (Ae (zo a)/zo b)))=true:=DF (by rw[XO _ q0];omega);have j1:A6 ((1:Int),Cv (1:Int))=true:=by rw[NB];decide
  have es:HO (Cw (j7 (decide (zo a<0)) (Ae (zo a) % zo b)),Cu (j7 (decide (zo a<0)) (Ae (zo a) % zo b)))=PX (j7 (decide (zo a<0)) (Ae (zo a) % zo b)):=by
   show PX (zo (CO _))=_;rw[Cm]
  refine zu (Ar ..) (ze nq (ze nr ?_));rw[vq,vr];refine zu (AZ ..) (ze (BU jr).1 ?_);rw[es];refine zt (fun c=>?_) (fun c=>?_)
  ·have c:=w6 c;have c2:j7 (decide (zo a<0)) (Ae (zo a) % zo b)<0:=by
    rw[J8]at c;split at c
    ·assumption
    ·split at c<;>omega
   have hn:zo a<0:=by
    rcases yg (zo a) 0 with g|g
    ·exact g
    ·rw[Dn,wc (by simp;omega)]at c2;omega
   have hr:Ae (zo a) % zo b≠0:=by
    rw[Dn,wd (w4 hn)]at c2;omega
   obtain⟨z3,z4⟩:=z2 hr;refine ze rfl (ze (Aa jq j1) (ze (Aa jr hb) (zp (fin (MW (CO (j7 (decide (zo a<0)) (Ae (zo a)/zo b))) (1,Cv 1)) (En (CO (j7 (decide (zo a<0)) (Ae (zo a) % zo b))) b) _ _ rfl ?_ ?_))))
   ·unfold F6;rw[wd ⟨hn,hr⟩,Ej,Dn,wd (w4 hn)]
   ·have ev:zo a= -Ae (zo a):=by rw[eM,wd hn];omega
    have ep:zo (CO (j7 (decide (zo a<0)) (Ae (zo a) % zo b)))= -(Ae (zo a) % zo b):=by rw[Cm,Dn,wd (w4 hn)]
    have e5:zo a % zo b=zo b-Ae (zo a) % zo b:=by rw[<-z4, <-ev]
    rw[iH (by rw[ep];omega),ep,e5];congr 1;omega
  ·have c:=w7 c;have c2:¬(zo a<0/\Ae (zo a) % zo b≠0):=by
    rintro⟨hn,hr⟩;rw[Dn,wd (w4 hn),J8,wd (by omega)]at c;omega
   refine zp (fin (CO (j7 (decide (zo a<0)) (Ae (zo a)/zo b))) (CO (j7 (decide (zo a<0)) (Ae (zo a) % zo b))) _ _ rfl ?_ ?_)
   ·unfold F6;rw[wc c2]
   ·congr 1;rcases yg (zo a) 0 with g|g
    ·have hr:Ae (zo a) % zo b=0:=by
      rcases yg 0 (Ae (zo a) % zo b)with g2|g2
      ·exact wh ⟨g,by omega⟩ c2
      ·omega
     have ev:zo a= -Ae (zo a):=by rw[eM,wd g];omega
     have:=(z1 hr).2;rw[<-ev]at this;rw[this,hr,Dn];split<;>rfl
    ·rw[Dn,wc (by simp;omega),eM,wc (by omega)]
 refine yw (Am a b) (zt (fun c1=>zt (fun c2=>zt (fun c3=>?_) (fun c3=>?_)) (fun c2=>?_)) (fun c1=>?_))
 ·have a2:=N7 c1;have b2:=N7 c2;have c3:a.1≠ -9223372036854775808:=by simpa using c3
  have ra:=Eh (n:=a.1) (by
   have:=oa;unfold Dh at this;rw[zl]at this;exact this.1)
  have rb:=Eh (n:=b.1) (by
   have:=ob;unfold Dh at this;rw[zl]at this;exact this.1)
  have ea:=Bl a2;have eb:=Bl b2;rw[ea]at eM;rw[eb]at hD r2;rw[ea,eb]at q0 q1 r0 r1 z1 z2;rw[ea]at r2;have hq:yu a.1 b.1=if a.1<0 then -(Ae a.1/b.1)else Ae a.1/b.1:=by
   rw[eM];split
   ·have:=Int.neg_tdiv (-a.1) b.1;rw[Int.neg_neg]at this;rw[this,zx (by omega)]
   ·exact zx (by omega)
  have hr:qy a.1 b.1=if a.1<0 then -(Ae a.1 % b.1)else Ae a.1 % b.1:=by
   rw[eM];split
   ·have:=Int.neg_tmod (-a.1) b.1;rw[Int.neg_neg]at this;rw[this,z7 (by omega)]
   ·exact z7 (by omega)
  refine ze (w4 (by omega)) (ze (w4 (by omega)) (zt (fun c=>?_) (fun c=>?_)))
  ·have c:=w6 c;rw[hr]at c;have hn:a.1<0:=by split at c<;>omega
   rw[wd hn]at c hq hr;rw[wd hn]at eM;obtain⟨z3,z4⟩:=z2 (by omega);have ev:a.1= -Ae a.1:=by omega
   have hqm:Ae a.1/b.1<9223372036854775807:=by
    rcases yg (Ae a.1/b.1) 9223372036854775807 with g|g
    ·exact g
    ·have:=yp (Ae a.1) b.1;have:=zn (show 1<=b.1 by omega) q0;omega
   refine zp (fin (zh .i64 (zh .i64 (yu a.1 b.1)-1),[]) (zh .i64 (qy a.1 b.1+b.1),[]) _ _ rfl ?_ ?_)
   ·rw[hq,wr (-(Ae a.1/b.1)) (by omega) (by omega),wr _ (by omega) (by omega)];refine(Qu _ (by omega) (.inr ⟨by omega,?_,by omega⟩)).symm;unfold F6;rw[ea,eb,wd ⟨hn,by omega⟩,show -(Ae a.1/b.1)-1+1= -(Ae a.1/b.1)by omega]
   ·rw[hr,wr _ (by omega) (by omega)];have:a.1 % b.1=b.1-Ae a.1 % b.1:=by rw[<-z4, <-ev]
    rw[ea,eb,this,BX (by omega)];congr 1;omega
  ·have c:=w7 c;rw[hr]at c;refine zp (fin (zh .i64 (yu a.1 b.1),[]) (qy a.1 b.1,[]) _ _ rfl ?_ ?_)
   ·have hqq:F6 a b=CO (yu a.1 b.1):=by
     unfold F6;rw[ea,eb,hq,wc (by rintro⟨h1,h2⟩;rw[wd h1]at c;omega),Dn];by_cases h:a.1<0
     ·rw[wd (w4 h),wd h]
     ·rw[wc (by simp;omega),wc h]
    have hb': -9223372036854775808<yu a.1 b.1/\yu a.1 b.1<9223372036854775808:=by
     rw[hq,eM]at*;split<;>split at q1<;>split at q0<;>omega
    rw[wr _ (by omega) (by omega)];exact(Qu _ hb' (.inl hqq)).symm
   ·rw[hr];by_cases h:a.1<0
    ·rw[wd h]at c ⊢;have hz:Ae a.1 % b.1=0:=by omega
     rw[wd h]at eM;have ev:a.1= -Ae a.1:=by omega
     have:=(z1 hz).2;rw[<-ev]at this;rw[ea,eb,this,hz];rfl
    ·rw[wc h]at c ⊢;rw[wc h]at eM;rw[ea,eb,eM,BX (by rw[eM]at r0 r1;omega)]
 ·exact ze oa (ze ob (ze hdiv slow))
 ·exact ze oa (ze ob (ze hdiv slow))
 ·exact ze oa (ze ob (ze hdiv slow))
end T176
theorem jV:DM xO:=
 Ab T176.ok (Ab T212.ok (Ab T173.ok AP))
theorem oG{a:AS}(h:Dh a=true):UC a=CO (Ae (zo a)):=by
 have hn:=oO h;obtain⟨hr,hw⟩:=DJ h;unfold UC;by_cases h0:a.1<0
 ·rw[wd h0,Ah];unfold C4;have hneg:=hn.1 h0;split
  ·next c=>rw[Bl c.1]at hneg ⊢;rw[BX (by omega)];congr 1;omega
  ·congr 1;omega
 ·rw[wc h0];obtain⟨s,w⟩:=a;have h0:¬s<0:=h0;rcases hw with hw|⟨h1,h2,h3⟩
  ·have hw:w=[]:=hw;subst hw;have hr: -9223372036854775808<=s/\s<9223372036854775808:=hr;rw[Ew,Ah,BX (by omega)];congr 1;omega
  ·obtain⟨_,d,z⟩:=ES h1;have h2:s=1\/s= -1:=h2;have h3:9223372036854775808<=Ao w:=h3;have hne:w≠[]:=by rintro rfl;exact wh h3 (by decide)
   have hs:s=1:=by omega
   subst hs;rw[Vd hne,wc (by decide),Ah];have:=Rz (w:=w) false d z h3;rw[wc (by decide),wc (by decide)]at this;rw[show((Ao w).natAbs:Int)=Ao w by omega,this]
theorem bI(n:Int):HO (Cw n,Cu n)=PX n:=by
 show PX (zo (CO _))=_;rw[Cm]
theorem Ko(n:Int):zo (Cw n,Cu n)=n:=Cm n
theorem XU(m n:Int):Tq (Cw m,Cu m) (Cw n,Cu n)=Cw (m % n)/\UB (Cw m,Cu m) (Cw n,Cu n)=Cu (m % n):=by
 constructor
 ·show Cw (zo (CO _) % zo (CO _))=_;rw[Cm,Cm]
 ·show Cu (zo (CO _) % zo (CO _))=_;rw[Cm,Cm]
theorem Ft{n:Int}(h:A6 (CO n)=true):A6 (Cw n,Cu n)=true:=h
theorem Nr{a:AS}(h:Dh a=true):Om a=Cw (Ae (zo a))/\Pp a=Cu (Ae (zo a)):=by
 unfold Om Pp;rw[oG h];exact⟨rfl,rfl⟩
theorem Te(x y:Nat):((x:Int) % (y:Int))=((x % y:Nat):Int):=rfl
theorem lL(a b:AS)(n:Int)(h:n=Sp.gI (zo a) (zo b)):(Cw n,Cu n)=(MO a b,Mt a b):=by subst h;rfl
namespace T152
variable {Q:PV->Ob->Prop}
theorem mA(n:Nat)(h:(n:Int)<(Ak:Int)^9000):A6 (CO (n:Int))=true:=DF (by rw[Ah,Int.natAbs_natCast];exact h)
theorem Aj(g:Nat)(o2 L:Int)(hL:∀n:Nat,(n:Int)<L->A6 (CO (n:Int))=true)(hq:∀ob,Q (.agg [.dat i64 (Cw (g:Int)),.dat (.nlist u64) (Cu (g:Int))]) ob):∀(f x y:Nat),y<f->ke x y=g->(x:Int)<L->(y:Int)<L->
  Ends xO (L1 o2 (Cw (y:Int)) (Cu (y:Int)) (Cw (x:Int)) (Cu (x:Int))) Q
 |0,x,y,h,_,_,_=>by omega
 |f+1,x,y,hy,hg,bx,by'=>by
  have jx:A6 (CO (x:Int))=true:=hL x bx;have jy:A6 (CO (y:Int))=true:=hL y by'
  refine zu (Ar ..) (ze (BU (Ft jy)).1 ?_);rw[bI,(XU _ _).1,(XU _ _).2,Ko,Te];by_cases h0:y=0
  ·subst h0;rw[Nat.gcd_zero_right]at hg;subst hg;exact yd rfl (zp (hq _))
  ·have hlt:x % y<y:=Nat.mod_lt _ (by omega);refine ze ?_ (ze (Aa (Aa (Ft jx) (Ft jy)) (w4 (by omega))) ?_)
   ·rw[J8,wc (by omega),wd (by omega)];rfl
   ·exact Aj g o2 L hL hq f y (x % y) (by omega) (by rw[jm, <-Nat.gcd_rec,jm];exact hg) by' (by omega)
set_option maxRecDepth 10000 in
theorem ok:Ag Bg 152 Yf:=by
 refine B1 jV (fun(i:(Int×List Int)×(Int×List Int)) hi=>?_);obtain⟨a,b⟩:=i;have hi:(A6 a&&A6 b)=true:=hi;rw[zl]at hi;obtain⟨ha,hb⟩:=hi;have oa:=(BU ha).1;have ob:=(BU hb).1;have ba:=bounds ha;have bb:=bounds hb;rw[Ah]at ba bb;refine yw (Am a b) (ze oa (ze ob ?_));show Ends xO (L1 0 (Om b) (Pp b) (Om a) (Pp a)) _;rw[(Nr oa).1,(Nr oa).2,(Nr ob).1,(Nr ob).2,Ah,Ah];refine Aj (ke (zo a).natAbs (zo b).natAbs) 0 _ mA (fun ob=>y9 rfl rfl (lL a b _ ?_)) ((zo b).natAbs+1) _ _ (Nat.lt_succ_self _) rfl ba bb;rw[FQ];rfl
end T152
theorem wL(n:Nat)(h:n<9223372036854775808):Hc .i64 (n:Int) 1=((n % 2:Nat):Int):=by
 have e:(yk 64 (n:Int)&&&yk 64 1).toNat=n % 2:=by
  rw[BitVec.toNat_and];have h1:(yk 64 (n:Int)).toNat=n:=by rw[BitVec.ofInt_natCast,BitVec.toNat_ofNat];exact Nat.mod_eq_of_lt (by omega)
  have h2:(yk 64 1).toNat=2^1-1:=by decide
  rw[h1,h2,Nat.and_two_pow_sub_one_eq_mod]
 show zh .i64 (((yk 64 (n:Int)&&&yk 64 1).toNat:Nat):Int)=_;rw[e];exact wr _ (by omega) (by omega)
namespace T216
variable {Q:PV->Ob->Prop}
theorem UH{c:Int}(h:c≠0):1<=Ae c:=by rw[Ah];omega
theorem XJ(c:Int):∀k:Nat,Ae (c^k)=Ae c^k
 |0=>by rw[yj,yj];rfl
 |k+1=>by rw[zy,zy,Jc,XJ c k]
theorem one_le_pow{c:Int}(h:1<=c):∀k:Nat,1<=c^k
 |0=>by rw[yj];decide
 |k+1=>by
  rw[zy];have:=zn (one_le_pow h k) (show 0<=c by omega);omega
theorem wS{p c L:Int}{k:Nat}(hL:1<L)(h:Ae (p*c^k)<L)(h1:c=0->Ae p<=1)(h2:c≠0->p≠0):Ae p<L/\(1<=k->Ae c<L)/\(2<=k->Ae (c*c)<L)/\(1<=k->Ae (p*c)<L):=by
 by_cases hc:c=0
 ·subst hc;have:=h1 rfl;have e:Ae 0=0:=rfl;exact⟨by omega,fun _=>by rw[e];omega,fun _=>by rw[qc,e];omega,fun _=>by rw[qc,e];omega⟩
 ·have hp:=UH (h2 hc);have hc1:=UH hc;rw[Jc,XJ]at h;rw[Jc,Jc];generalize Ae p=P at*;generalize Ae c=C at*;have k0:1<=C^k:=one_le_pow hc1 k;have a1:P<=P*C^k:=by
   have:=zk k0 (show 0<=P by omega);omega
  have aC:C^k<=P*C^k:=by
   have:=zn hp (show 0<=C^k by omega);omega
  refine⟨by omega,fun hk=>?_,fun hk=>?_,fun hk=>?_⟩
  ·obtain⟨j,rfl⟩:∃j,k=j+1:=⟨k-1,by omega⟩;rw[zy]at aC h;have:=zn (one_le_pow hc1 j) (show 0<=C by omega);omega
  ·obtain⟨j,rfl⟩:∃j,k=j+2:=⟨k-2,by omega⟩;have e:C^(j+2)=C^j*(C*C):=by rw[zy,zy,yh]
   rw[e]at aC h;have:=zn (one_le_pow hc1 j) (yf (show 0<=C by omega) (show 0<=C by omega));omega
  ·obtain⟨j,rfl⟩:∃j,k=j+1:=⟨k-1,by omega⟩;have e:P*C^(j+1)=C^j*(P*C):=by rw[zy,ye]
   rw[e]at h;have:=zn (one_le_pow hc1 j) (yf (show 0<=P by omega) (show 0<=C by omega));omega
theorem Zj{p c:Int}{k j:Nat}(h:k=2*j):p*(c*c)^j=p*c^k:=by
 subst h;rw[Int.pow_mul,zy,zy,yj,ym]
theorem gS{p c:Int}{k j:Nat}(h:k=2*j+1):p*c*(c*c)^j=p*c^k:=by
 subst h;rw[zy,Int.pow_mul,show c^2=c*c by rw[zy,zy,yj,ym],yh,zz c]
theorem vY{x:Int}(h:x<(18446744073709551616:Int)^(4000:Nat)):x<(Ak:Int)^9000:=
 qg h (AH (b:=Ak) (by decide) (by omega))
theorem Aj(o1 R:Int)(hR:Ae R<(18446744073709551616:Int)^(4000:Nat))(hq:∀ob,Q (.agg [.dat i64 (Cw R),.dat (.nlist u64) (Cu R)]) ob):
  ∀(f k:Nat) (p:Int) (a:AS),k<f->k<=100000->(1<=k->A6 a=true)->p*zo a^k=R->(zo a=0->Ae p<=1)->(zo a≠0->p≠0)->
   Ends vC (L1 (k:Int) (Cw p) (Cu p) o1 a.1 a.2) Q
 |0,k,p,a,h,_,_,_,_,_=>by omega
 |f+1,k,p,a,hk,hk2,ha,he,h1,h2=>by
  have hL:(1:Int)<(18446744073709551616:Int)^(4000:Nat):=qg (show(1:Int)<18446744073709551616^(1:Nat)by decide) (AH (b:=18446744073709551616) (by decide) (by omega));rw[<-he]at hR;obtain⟨s1,s2,s3,s4⟩:=wS hL hR h1 h2;by_cases h0:k=0
  ·subst h0;rw[yj,yv]at he;subst he;exact zu (Ar ..) (yd (by simp) (zp (hq _)))
  ·have jp:A6 (Cw p,Cu p)=true:=DF (vY s1);have ja:A6 a=true:=ha (by omega);have ef:Int.fdiv (k:Int) ((2:Int)^(1:Nat))=((k/2:Nat):Int):=by
    rw[y8 _ (by decide)];rfl
   have m1:(EW (Cw p,Cu p) a,EK (Cw p,Cu p) a)=CO (p*zo a):=by
    show CO (zo (CO p)*zo a)=_;rw[Cm]
   have m1s:EW (Cw p,Cu p) (a.1,a.2)=Cw (p*zo a):=wi Prod.fst m1;have m1w:EK (Cw p,Cu p) (a.1,a.2)=Cu (p*zo a):=wi Prod.snd m1;have m2:zo (E0 a a)=zo a*zo a:=Dp a a;have sq:∀q:Int,1<k->q*(zo a*zo a)^(k/2)=p*zo a^k->(zo a=0->Ae q<=1)->(zo a≠0->q≠0)->Ends vC (L1 ((k/2:Nat):Int) (Cw q) (Cu q) o1 (EW (a.1,a.2) (a.1,a.2)) (EK (a.1,a.2) (a.1,a.2))) Q:=by
    intro q hk1 hq' g1 g2;refine Aj o1 R (by rw[he]at hR;exact hR) hq f (k/2) q (E0 a a) (by omega) (by omega) (fun _=>DF (vY (s3 (by omega)))) (by rw[m2,hq',he]) (fun z=>g1 ?_) (fun z=>g2 ?_)
    ·rw[m2]at z;rcases Int.mul_eq_zero.1 z with z|z<;>exact z
    ·rintro z2;rw[m2,z2]at z;exact z rfl
   have st:∀q:Int,k=1->q=R->Ends vC (L1 ((k/2:Nat):Int) (Cw q) (Cu q) o1 a.1 a.2) Q:=by
    intro q hk1 hq';subst hk1 hq';exact zu (Ar ..) (yd (by simp) (zp (hq _)))
   refine zu (Ar ..) (ze (w4 (by omega)) ?_);rw[wL k (by omega),ef,m1s,m1w];refine zt (fun c=>?_) (fun c=>?_)
   ·have c:((k % 2:Nat):Int)=1:=by simpa using c
    refine ze (Aa jp ja) (zt (fun d=>ze (Aa ja ja) (ze rfl ?_)) (fun d=>ze rfl ?_))
    ·have d:=w6 d;refine sq _ (by omega) (gS (by omega)) (fun z=>by rw[z,qc];decide) (fun z=>?_);exact Int.mul_ne_zero (h2 z) z
    ·have d:=w7 d;have hk1:k=1:=by omega
     refine st _ hk1 ?_;rw[<-he,hk1,zy,yj,ym]
   ·have c:((k % 2:Nat):Int)≠1:=by simpa using c
    refine zt (fun d=>ze (Aa ja ja) (ze rfl ?_)) (fun d=>?_)
    ·have d:=w6 d;exact sq _ (by omega) (Zj (by omega)) h1 h2
    ·have d:=w7 d;omega
theorem jJ:DM vC:=Ab T105n.ok (Ab T159.ok AP)
theorem ok:Ag Bg 216 hO:=by
 refine B1 jJ (fun(i:(Int×List Int)×Int) hi=>?_);obtain⟨a,k⟩:=i;have hi:(A6 a&&(decide (0<=k)&&decide (k<=100000)&&decide (Ae (Sp.pI (zo a) k)<(18446744073709551616:Int)^(4000:Nat))))=true:=hi;rw[zl,zl,zl,w5,w5,w5,Rw]at hi;obtain⟨ha,⟨k0,k1⟩,hR⟩:=hi;obtain⟨n,rfl⟩:=qh k0;have e1:Cv 1=Cu 1:=by rw[Ej];rfl
 refine yw (Am a n) (ze rfl ?_);rw[e1];refine Aj (Q:=Ad hO (a,(n:Int))) 0 (zo a^n) hR (fun ob=>y9 rfl rfl ?_) (n+1) n 1 a (by omega) (by omega) (fun _=>ha) (ym _) (fun _=>by decide) (fun _=>by decide);show CO _=CO (Sp.pI (zo a) (n:Int));rw[Rw];rfl
end T216
end Go.Pe
namespace Go.Sp
theorem On{l:List Int}(h:JH l=true):l.length<=20000/\Aw B9 l:=by
 unfold JH at h;rw[zl,w5,List.all_eq_true]at h;exact⟨h.1,fun d hd=>by
  have:=h.2 d hd;rw[zl,w5,w5]at this;exact this⟩
theorem J7{l:List Int}(h1:l.length<=20000)(h2:Aw B9 l):JH l=true:=by
 unfold JH;rw[zl,w5,List.all_eq_true];exact⟨h1,fun d hd=>by
  have:=h2 d hd;rw[zl,w5,w5];exact this⟩
theorem qH{l:List Int}(h:hR l=true):l.length<=9000/\Aw B9 l:=by
 unfold hR at h;rw[zl,w5]at h;exact⟨h.2,(On h.1).2⟩
theorem QG{l:List Int}(h1:l.length<=9000)(h2:Aw B9 l):hR l=true:=by
 unfold hR;rw[J7 (by omega) h2,jg];exact w4 h1
theorem Bk{l:List Int}(h:A4 l=true):l.length<=20000/\Aw B9 l/\nz l:=by
 unfold A4 at h;rw[zl]at h;have:=On h.1;exact⟨this.1,this.2,by
  have:=h.2;unfold rJ at this;have:l.getLast?≠some 0:=w6 this;exact this⟩
theorem cK{l:List Int}(h1:l.length<=20000)(h2:Aw B9 l)(h3:nz l):A4 l=true:=by
 unfold A4 rJ;rw[J7 h1 h2,jg];exact w4 h3
theorem Gu{l:List Int}(h:Aw B9 l)(i:Nat):0<=l.getD i 0/\l.getD i 0<1000000000:=JO (by decide) h i
theorem E7{l:List Int}{x:Int}(h:Aw B9 l)(hx:0<=x/\x<1000000000):Aw B9 (l++[x]):=EN h (fun d hd=>by rw[qf]at hd;subst hd;exact hx)
theorem B8(l:List Int)(x:Int):val B9 (l++[x])=val B9 l+(B9:Int)^l.length*x:=by
 rw[CQ];simp[val]
theorem Jv(i:Nat)(c:Int):(B9:Int)^(i+1)*c=(B9:Int)^i*(1000000000*c):=by
 rw[zy,yh];rfl
theorem FU{l:List Int}(h:Aw B9 l):Aq l=By (Ai l):=Yo (by decide) h
theorem Nh{n:Int}{k:Nat}(h0:0<=n)(h:n<(B9:Int)^k):(By n).length<=k:=by
 refine NA B9 (by decide) k n.toNat n.toNat ?_;have e:((B9^k:Nat):Int)=(B9:Int)^k:=Int.natCast_pow ..;rw[<-e]at h;generalize B9^k=P at*;omega
theorem Fm{n:Int}{k:Nat}(h0:0<=n)(h:n<(B9:Int)^k)(hk:k<=9000):A4 (By n)=true/\hR (By n)=true/\Ai (By n)=n/\(By n).length<=k:=by
 have h1:=Nh h0 h;have h2:=Fc (b:=B9) (by decide) n;exact⟨cK (by omega) h2 (XE (by decide) n),QG (by omega) h2,CP (by decide) h0,h1⟩
end Go.Sp
namespace Go.Pe
open Sp
open Go.Det
theorem SD:DM jH:=fun g sp h=>by cases h
namespace T227
theorem Aj{Q:PV->Ob->Prop}:∀(n:Nat) (w:List Int),w.length=n->n<=20000->(∀ob,Q (.dat li (Aq w)) ob)->Ends jH (L1 w) Q
 |0,w,hl,_,hq=>by
  have:w=[]:=yc.1 hl;subst this;exact zu (Ar ..) (yd (by simp) (zp (hq _)))
 |n+1,w,hl,hn,hq=>by
  obtain⟨p,x,rfl⟩:∃p x,w=p++[x]:=by
   have hne:w≠[]:=by rintro rfl;simp at hl
   exact⟨w.dropLast,w.getLast hne,(qq hne).symm⟩
  have hp:p.length=n:=by simpa using hl
  have e1:zh .i64 (((p++[x]).length:Int)-1)=(n:Int):=by rw[wr _ (by omega) (by omega)];omega
  have g1:(p++[x]).getD n 0=x:=Dr _ _ _ _ hp;have t1:(p++[x]).take n=p:=by rw[<-hp];exact j5
  refine zu (Ar ..) (ze (w4 (by omega)) ?_);rw[e1,zj,g1,t1];refine ze (by simp;omega) (zt (fun c=>ze (by simp;omega) ?_) (fun c=>?_))
  ·have c:x=0:=by simpa using c
   subst c;rw[Ip]at hq;exact Aj n p hp (by omega) hq
  ·have c:x≠0:=by simpa using c
   rw[Iq (Yg c)]at hq;exact zp (hq _)
theorem ok:Ag Bg 227 Rg:=by
 refine B1 SD (fun(w:List Int) hw=>?_);have hw:w.length<=20000:=w6 hw;exact yw (Am w) (Aj w.length w rfl hw (fun ob=>y9 rfl rfl rfl))
end T227
theorem Rl:DM Z0:=Ab T227.ok AP
theorem T168.ok:Ag Bg 168 IC:=by
 refine B1 Rl (fun(i:Bool×List Int) hi=>?_);obtain⟨n,w⟩:=i;refine yw (T168.Am n w) (ze hi (zt (fun c=>zp (y9 rfl rfl ?_)) (fun c=>zp (y9 rfl rfl ?_))))
 ·show(decide (((Aq w).length:Int)>0),Aq w)=(BK n w,Aq w);unfold BK;rw[c,jg];congr 1;rw[decide_eq_decide];constructor
  ·intro h h2;rw[h2]at h;simp at h
  ·intro h;have:(Aq w).length≠0:=fun h2=>h (yc.1 h2)
   omega
 ·show(false,Aq w)=(BK n w,Aq w);unfold BK;rw[c];rfl
namespace T170
theorem Aj{Q:PV->Ob->Prop}(a b:List Int)(ha:Aw zg a)(hb:Aw zg b)(hl:a.length=b.length)(h2:b.length<=20000)(hq:∀ob,Q (.dat i64 (BZ (Ai a) (Ai b))) ob):∀(i:Nat),i<=a.length->a.drop i=b.drop i->Ends jH (L1 a b ((i:Int)-1)) Q
 |0,hi,he=>by
  have he:a=b:=he;have:BZ (Ai a) (Ai b)=0:=by rw[he];unfold BZ;simp
  rw[this]at hq;exact zu (Ar ..) (yd (by simp) (zp (hq _)))
 |i+1,hi,he=>by
  have e1:(((i+1:Nat):Int)-1)=(i:Int):=by omega
  have da:a.drop i=a.getD i 0::a.drop (i+1):=Ca (by omega);have db:b.drop i=b.getD i 0::a.drop (i+1):=by rw[he];exact Ca (by omega)
  rw[e1];refine zu (Ar ..) (ze (by simp) ?_);rw[zj];refine ze (by simp;omega) (ze (by simp;omega) (zt (fun d=>?_) (fun d=>ze (by simp;omega) (ze (by simp;omega) (zt (fun c=>?_) (fun c=>?_))))))
  ·have d:=w6 d;have:=I0 (b:=zg) (by decide) ha hb da db d;have e:BZ (Ai a) (Ai b)= -1:=by unfold BZ;exact wd this
   rw[e]at hq;exact zp (hq _)
  ·have c:=w6 c;have:=I0 (b:=zg) (by decide) hb ha db da c;have e:BZ (Ai a) (Ai b)=1:=by unfold BZ Ai;rw[wc (by omega),wd (by omega)]
   rw[e]at hq;exact zp (hq _)
  ·have c:=w7 c;have d:=w7 d;rw[wr ((i:Int)-1) (by omega) (by omega)];exact Aj a b ha hb hl h2 hq i (by omega) (by rw[da,db,show a.getD i 0=b.getD i 0 by omega])
theorem ok:Ag Bg 170 XD:=by
 refine B1 SD (fun(i:List Int×List Int) hi=>?_);obtain⟨a,b⟩:=i;have hi:(A4 a&&A4 b)=true:=hi;rw[zl]at hi;obtain⟨a1,a2,a3⟩:=Bk hi.1;obtain⟨b1,b2,b3⟩:=Bk hi.2;have hq:∀ob,Ad XD (a,b) (.dat i64 (BZ (Ai a) (Ai b))) ob:=fun ob=>y9 rfl rfl rfl
 refine yw (Am a b) (zt (fun c=>zt (fun d=>?_) (fun d=>?_)) (fun c=>?_))
 ·have d:=w6 d;have e:BZ (Ai a) (Ai b)= -1:=by unfold BZ;exact wd (Eu (by decide) a2 b2 b3 (by omega))
  rw[e]at hq;exact zp (hq _)
 ·have d:=w7 d;have c:(a.length:Int)≠b.length:=by simpa using c
  have:=Eu (b:=zg) (by decide) b2 a2 a3 (by omega);have e:BZ (Ai a) (Ai b)=1:=by
   unfold BZ Ai;rw[wc (by omega),wd (by omega)]
  rw[e]at hq;exact zp (hq _)
 ·have c:(a.length:Int)=b.length:=by simpa using c
  rw[wr _ (by omega) (by omega)];exact Aj a b a2 b2 (by omega) b1 hq a.length (by omega) (by rw[jh,jo (by omega)])
end T170
theorem ZJ{x y o c:Int}(hx:0<=x/\x<1000000000)(hy:0<=y/\y<1000000000)(ho:0<=o/\o<1000000000)(hc:0<=c/\c<1000000000):
  zh .i64 (zh .i64 (o+zh .i64 (x*y))+c)=o+x*y+c/\qy (o+x*y+c) 1000000000=(o+x*y+c) % 1000000000/\zh .i64 (yu (o+x*y+c) 1000000000)=(o+x*y+c)/1000000000/\
  (0<=(o+x*y+c)/1000000000/\(o+x*y+c)/1000000000<1000000000)/\(0<=(o+x*y+c) % 1000000000/\(o+x*y+c) % 1000000000<1000000000):=by
 have h0:0<=x*y:=yf hx.1 hy.1;have h1:x*y<=999999999*999999999:=by
  have a:=zk (show y<=999999999 by omega) hx.1;have b:=zn (show x<=999999999 by omega) (show(0:Int)<=999999999 by omega);omega
 generalize x*y=P at*;have e1:zh .i64 P=P:=wr _ (by omega) (by omega);have e2:zh .i64 (o+P)=o+P:=wr _ (by omega) (by omega);have e3:yu (o+P+c) 1000000000=(o+P+c)/1000000000:=zx (by omega);refine⟨?_,z7 (by omega),?_,by omega,by omega⟩
 ·rw[e1,e2];exact wr _ (by omega) (by omega)
 ·rw[e3];exact wr _ (by omega) (by omega)
namespace T172
variable {Q:PV->Ob->Prop}
theorem AQ(x y:List Int)(n i:Nat)(hi:i<x.length)(hn:n=x.length+y.length)(hx9:x.length<=9000)(hy9:y.length<=9000)(hx:Aw zg x)(hy:Aw zg y)(p:List Int)(hp:p.length=i+y.length)(hdp:Aw zg p)
  (hq:∀q c,q.length=i+y.length->Aw zg q->(0<=c/\c<1000000000)->zc zg q+(zg:Int)^(i+y.length)*c=zc zg p+(zg:Int)^i*(x.getD i 0*zc zg y)->Ends Z0 (L1 x y n ((i+1:Nat):Int) ((q++[c])++zm (n-(i+y.length+1)) 0)) Q):∀(k j:Nat) (q:List Int) (c:Int),j+k=y.length->q.length=i+j->Aw zg q->(0<=c/\c<1000000000)->zc zg q+(zg:Int)^(i+j)*c=zc zg (p.take (i+j))+(zg:Int)^i*(x.getD i 0*zc zg (y.take j))->
  Ends Z0 (L2 x y n i c j (q++(p.drop (i+j)++zm (n-(i+y.length)) 0))) Q
 |0,j,q,c,hj,hl,hd,hc,he=>by
  have hj:j=y.length:=by omega
  subst hj;have e1:zh .i64 ((i:Int)+(y.length:Int))=((i+y.length:Nat):Int):=by rw[wr _ (by omega) (by omega)];omega
  have e2:zh .i64 ((i:Int)+1)=((i+1:Nat):Int):=by rw[wr _ (by omega) (by omega)];omega
  have ed:p.drop (i+y.length)=[]:=jo (by omega);have eg:(q++zm (n-(i+y.length)) (0:Int)).getD (i+y.length) 0=0:=by
   have:n-(i+y.length)=(n-(i+y.length+1))+1:=by omega
   rw[this,List.replicate_succ];exact Dr _ _ _ _ hl
  refine zu (AZ ..) (yd (by simp) ?_);rw[e1,e2,zj,ed,qt,eg,Int.zero_add,wr c (by omega) (by omega),IS q n _ c hl (by omega)];refine ze (by simp;omega) (ze (by simp;omega) (ze (by simp;omega) (ze (by simp;omega) (hq q c hl hd hc ?_))));rw[he,zq (by omega),qd]
 |k+1,j,q,c,hj,hl,hd,hc,he=>by
  have gx:=Gu hx i;have gy:=Gu hy j;have gp:=Gu hdp (i+j);have ep:p.drop (i+j)=p.getD (i+j) 0::p.drop (i+j+1):=Ca (by omega);have e1:zh .i64 ((i:Int)+(j:Int))=((i+j:Nat):Int):=by rw[wr _ (by omega) (by omega)];omega
  have e2:zh .i64 ((j:Int)+1)=((j+1:Nat):Int):=by rw[wr _ (by omega) (by omega)];omega
  have lo:(q++(p.drop (i+j)++zm (n-(i+y.length)) (0:Int))).length=n:=by simp;omega
  have g1:(q++(p.drop (i+j)++zm (n-(i+y.length)) (0:Int))).getD (i+j) 0=p.getD (i+j) 0:=by
   rw[ep,List.cons_append];exact Dr _ _ _ _ hl
  have s1:∀z,(q++(p.drop (i+j)++zm (n-(i+y.length)) (0:Int))).set (i+j) z=(q++[z])++(p.drop (i+(j+1))++zm (n-(i+y.length)) 0):=by
   intro z;rw[ep,List.cons_append,Di _ _ _ _ hl,yb];rfl
  obtain⟨m1,m2,m3,m4,m5⟩:=ZJ gx gy gp hc;refine zu (AZ ..) (ze (by simp;omega) ?_);rw[e1,e2,zj,zj,zj,g1,m1,m2,m3,s1];have t1:(decide ((0:Int)<=((i+j:Nat):Int))&&decide (((i+j:Nat):Int)<(n:Int)))=true:=by simp;omega
  refine ze t1 (ze (w4 (by rw[lo];omega)) (ze (by simp;omega) (ze (by simp;omega) (ze rfl (ze t1 (ze (w4 (by rw[lo];omega)) (ze rfl ?_)))))));refine AQ x y n i hi hn hx9 hy9 hx hy p hp hdp hq k (j+1) _ _ (by omega) (by simp;omega) (E7 hd m5) m4 ?_;have ea:i+(j+1)=(i+j)+1:=by omega
  have eb:(zg:Int)^i*(x.getD i 0*((zg:Int)^j*y.getD j 0))=(zg:Int)^(i+j)*(x.getD i 0*y.getD j 0):=by
   rw[j0,yh,ye (x.getD i 0)]
  have e6:(p.getD (i+j) 0+x.getD i 0*y.getD j 0+c) % 1000000000+1000000000*((p.getD (i+j) 0+x.getD i 0*y.getD j 0+c)/1000000000)=x.getD i 0*y.getD j 0+p.getD (i+j) 0+c:=by
   generalize x.getD i 0*y.getD j 0=P;omega
  rw[ea,B8,hl,Jv,jc, <-zw,e6,AE _ p (i+j),AE _ y j,zw,zw,zw (x.getD i 0),zw,eb];omega
theorem Aj(x y:List Int)(n:Nat)(hn:n=x.length+y.length)(hx9:x.length<=9000)(hy9:y.length<=9000)(hx:Aw zg x)(hy:Aw zg y)(hq:∀ob,Q (.dat li (By (Ai x*Ai y))) ob):∀(k i:Nat) (p:List Int),i+k=x.length->p.length=i+y.length->Aw zg p->zc zg p=zc zg (x.take i)*zc zg y->
  Ends Z0 (L1 x y n i (p++zm (n-(i+y.length)) 0)) Q
 |0,i,p,hi,hp,hd,he=>by
  have hi:i=x.length:=by omega
  subst hi;have ez:p++zm (n-(x.length+y.length)) (0:Int)=p:=by rw[hn,Nat.sub_self];simp
  have hv:Ai p=Ai x*Ai y:=by
   rw[qd]at he;exact he
  rw[ez];refine zu (Ar ..) (yd (by simp) ?_);rw[zq (by omega)];refine ze ?_ (zp ?_)
  ·simp;omega
  ·rw[FU hd,hv];exact hq _
 |k+1,i,p,hi,hp,hd,he=>by
  refine zu (Ar ..) (ze (by simp;omega) ?_);have:=AQ (Q:=Q) x y n i (by omega) hn hx9 hy9 hx hy p hp hd (fun q c hl hdq hc hv=>by
   have:=Aj x y n hn hx9 hy9 hx hy hq k (i+1) (q++[c]) (by omega) (by simp;omega) (E7 hdq hc) (by
    rw[B8,hl,hv,he,AE,Int.add_mul,yh])
   rw[show i+1+y.length=i+y.length+1 by omega]at this;exact this) y.length 0 (p.take i) 0 (by omega) (by simp;omega) (AL hd i) (by decide) (by simp[zc])
  rw[Nat.add_zero, <-yb,yx]at this;exact this
theorem ok:Ag Bg 172 XK:=by
 refine B1 Rl (fun(i:List Int×List Int) hi=>?_);obtain⟨x,y⟩:=i;have hi:(Sp.hR x&&Sp.hR y)=true:=hi;rw[zl]at hi;obtain⟨x1,x2⟩:=qH hi.1;obtain⟨y1,y2⟩:=qH hi.2;have e1:zh .i64 ((x.length:Int)+(y.length:Int))=((x.length+y.length:Nat):Int):=by rw[wr _ (by omega) (by omega)];omega
 refine yw (Am x y) ?_;conv=>zeta
 rw[e1,zj];refine ze (by simp;omega) ?_;have:=Aj (Q:=Ad XK (x,y)) x y (x.length+y.length) rfl x1 y1 x2 y2 (fun ob=>y9 rfl rfl rfl) x.length 0 (zm y.length 0) (by omega) (by simp) (fun d hd=>by rw[(List.mem_replicate.1 hd).2];decide) (by rw[LR];simp[zc]);rw[j8,List.replicate_append_replicate,show y.length+(x.length+y.length-y.length)=x.length+y.length by omega]at this;exact this
end T172
theorem ZN{r x d:Int}(hd:0<d/\d<1000000000)(hr:0<=r/\r<d)(hx:0<=x/\x<1000000000):
  zh .i64 (zh .i64 (r*1000000000)+x)=r*1000000000+x/\zh .i64 (yu (r*1000000000+x) d)=(r*1000000000+x)/d/\qy (r*1000000000+x) d=(r*1000000000+x) % d/\
  (0<=(r*1000000000+x)/d/\(r*1000000000+x)/d<1000000000)/\(0<=(r*1000000000+x) % d/\(r*1000000000+x) % d<d)/\(r*1000000000+x)/d*d+(r*1000000000+x) % d=r*1000000000+x:=by
 have h:=yp (r*1000000000+x) d;rw[zz]at h;have q0:0<=(r*1000000000+x)/d:=qo (by omega) (by omega);have q1:(r*1000000000+x)/d<1000000000:=qj hd.1 (by omega);refine⟨?_,?_,z7 (by omega),⟨q0,q1⟩,⟨yq _ (by omega),yn _ hd.1⟩,h⟩
 ·rw[wr (r*1000000000) (by omega) (by omega)];exact wr _ (by omega) (by omega)
 ·rw[zx (by omega)];exact wr _ (by omega) (by omega)
namespace T226
variable {Q:PV->Ob->Prop}
theorem Aj(a:List Int)(d:Int)(ha:Aw zg a)(hd:0<d/\d<1000000000)(hm:a.length<=20000)(hq:∀q r ob,Aw zg q->(0<=r/\r<d)->Ai a=Ai q*d+r->Q (.tup [.dat li (Aq q),.dat i64 r]) ob):∀(i:Nat) (q:List Int) (r:Int),i+q.length=a.length->Aw zg q->(0<=r/\r<d)->zc zg (a.drop i)=zc zg q*d+r->
  Ends Z0 (L1 a d a.length r ((i:Int)-1) (zm i 0++q)) Q
 |0,q,r,hl,hdq,hr,he=>by
  have ht:((zm 0 0++q).take a.length)=q:=by
   rw[List.replicate_zero,qt];exact zq (by omega)
  refine zu (Ar ..) (yd (by simp) ?_);rw[ht];refine ze (Aa (by simp;omega) (w4 (by omega))) (zp (hq q r _ hdq hr he))
 |i+1,q,r,hl,hdq,hr,he=>by
  have e1:(((i+1:Nat):Int)-1)=(i:Int):=by omega
  have gx:=Gu ha i;obtain⟨d1,d2,d3,d4,d5,d6⟩:=ZN hd hr gx;have da:a.drop i=a.getD i 0::a.drop (i+1):=Ca (by omega);have es:∀x,(zm (i+1) (0:Int)++q).set i x=zm i 0++(x::q):=by
   intro x;rw[qm,yb];exact Di _ _ _ _ (by simp)
  rw[e1];refine zu (Ar ..) (ze (by simp) ?_);rw[zj,es,wr ((i:Int)-1) (by omega) (by omega),d1,d2,d3];refine ze (by simp;omega) (ze (w4 (by omega)) (ze (by simp;omega) (ze (by simp;omega) (ze (w4 (by omega)) ?_))));refine Aj a d ha hd hm hq i _ _ (by simp;omega) (fun x hx=>?_) d5 ?_
  ·rcases ql.1 hx with rfl|hx
   ·exact d4
   ·exact hdq x hx
  ·rw[da];show a.getD i 0+(1000000000:Int)*zc zg (a.drop (i+1))=((r*1000000000+a.getD i 0)/d+(1000000000:Int)*zc zg q)*d+(r*1000000000+a.getD i 0) % d;rw[he,Int.add_mul,zw,yh];omega
theorem ok:Ag Bg 226 Vu:=by
 refine B1 Rl (fun(i:List Int×Int) hi=>?_);obtain⟨a,d⟩:=i;have hi:(JH a&&decide (0<d)&&decide (d<1000000000))=true:=hi;rw[zl,zl,w5,w5]at hi;obtain⟨⟨ha,d0⟩,d1⟩:=hi;obtain⟨hl,hda⟩:=On ha;refine yw (Am a d) ?_;conv=>zeta
 rw[zj,wr ((a.length:Int)-1) (by omega) (by omega)];refine ze (by simp;omega) ?_;have:=Aj (Q:=Ad Vu (a,d)) a d hda ⟨d0,d1⟩ hl (fun q r ob hq hr he=>?_) a.length [] 0 (by simp) (fun x hx=>by cases hx) ⟨q9 _,d0⟩ (by rw[jh];simp[zc])
 ·rw[qp]at this;exact this
 ·refine y9 rfl rfl ?_;show(Aq q,r)=(By (Ai a/d),Ai a % d);obtain⟨u1,u2⟩:=(yr (a:=Ai a) (b:=d) (r:=r) (q:=Ai q) d0).2 ⟨by rw[zz d];omega,hr.1,hr.2⟩;rw[FU hq,u1,u2]
end T226
theorem lU:DM LV:=
 Ab T170.ok (Ab T227.ok (Ab T226.ok (Ab T172.ok AP)))
theorem Sz{t x y w:Int}(ht:0<=t/\t<1000000000)(hx:0<=x/\x<1000000000)(hy:0<=y/\y<1000000000)(hw:0<=w/\w<=1000000000):
  zh .i64 (zh .i64 (t*x)+w)=t*x+w/\qy (t*x+w) 1000000000=(t*x+w) % 1000000000/\zh .i64 (yu (t*x+w) 1000000000)=(t*x+w)/1000000000/\
  zh .i64 ((t*x+w)/1000000000+1)=(t*x+w)/1000000000+1/\zh .i64 (y-(t*x+w) % 1000000000)=y-(t*x+w) % 1000000000/\(0<=(t*x+w)/1000000000/\(t*x+w)/1000000000<1000000000)/\(0<=(t*x+w) % 1000000000/\(t*x+w) % 1000000000<1000000000):=by
 have h0:0<=t*x:=yf ht.1 hx.1;have h1:t*x<=999999999*999999999:=by
  have a:=zk (show x<=999999999 by omega) ht.1;have b:=zn (show t<=999999999 by omega) (show(0:Int)<=999999999 by omega);omega
 generalize t*x=P at*;have e1:zh .i64 P=P:=wr _ (by omega) (by omega);have e3:yu (P+w) 1000000000=(P+w)/1000000000:=zx (by omega);refine⟨?_,z7 (by omega),?_,wr _ (by omega) (by omega),wr _ (by omega) (by omega),by omega,by omega⟩
 ·rw[e1];exact wr _ (by omega) (by omega)
 ·rw[e3];exact wr _ (by omega) (by omega)
theorem Zv(w r:List Int)(i:Nat)(h:i<w.length):(w++r).getD i 0=w.getD i 0:=by
 rw[yo,yo,List.getElem?_append_left h]
namespace T164
variable {Q:PV->Ob->Prop}
theorem gW{lo w z:List Int}{h:Int}{j i:Nat}(hlo:lo.length=j)(hi:i<w.length):(lo++(w++h::z)).getD (i+j) 0=w.getD i 0:=by
 rw[GG _ _ _ _ hlo,Zv _ _ _ hi]
theorem sW{lo w z:List Int}{h:Int}{j i:Nat}(x:Int)(hlo:lo.length=j)(hi:i<w.length):(lo++(w++h::z)).set (i+j) x=lo++(w.set i x++h::z):=by
 rw[SP _ _ _ _ _ hlo,List.set_append_left _ _ hi]
theorem gH{lo w z:List Int}{h:Int}{j n:Nat}(hlo:lo.length=j)(hn:w.length=n):(lo++(w++h::z)).getD (n+j) 0=h:=by
 rw[GG _ _ _ _ hlo];exact Dr _ _ _ _ hn
theorem sH{lo w z:List Int}{h:Int}{j n:Nat}(x:Int)(hlo:lo.length=j)(hn:w.length=n):(lo++(w++h::z)).set (n+j) x=lo++(w++x::z):=by
 rw[SP _ _ _ _ _ hlo];congr 1;exact Di _ _ _ _ hn
theorem Ns(w z:List Int)(h:Int)(hz:zc zg z=0):zc zg (w++h::z)=zc zg w+(zg:Int)^w.length*h:=by
 rw[CQ];show _+_*(h+(zg:Int)*zc zg z)=_;rw[hz,qc,qu]
theorem Cq(v8n v11n v12n:Nat)(o2 o0 v lo z:List Int)(n j:Nat)(t h' X:Int)(hn:v.length=n)(hn9:n<=9000)(hlo:lo.length=j)(hj:j<=9000)(h11:n+j<v11n)(hjv:j<v12n)(hj1:j<o2.length)(hv:Aw zg v)(hz:zc zg z=0)(hdz:Aw zg z)(hh: -2000000000<=h'/\h'<=2000000000)
  (hX:0<=X/\X<(zg:Int)^n) (hlen:v11n=j+n+1+z.length)
  (hfin:∀r:List Int,r.length=n+1+z.length->Aw zg r->zc zg r=X->Ends LV (L2 v8n v n v11n v12n (zh .i64 ((j:Int)-1)) (o2.set j t) (lo++r) o0) Q):
  ∀(k i:Nat) (w:List Int) (c:Int),i+k=n->w.length=n->Aw zg w->(0<=c/\c<=1)->zc zg w+(zg:Int)^n*h'=X-zc zg v+zc zg (v.take i)-(zg:Int)^i*c->
   Ends LV (L5 v8n v n v11n v12n j t c i o2 (lo++(w++h'::z)) o0) Q
 |0,i,w,c,hi,hw,hd,hc,he=>by
  have hi:i=n:=by omega
  subst hi;have e1:zh .i64 ((j:Int)+(i:Int))=((i+j:Nat):Int):=by rw[wr _ (by omega) (by omega)];omega
  have hv1:v.take i=v:=zq (by omega);rw[hv1]at he;have a1:=AA (b:=zg) (by decide) hd;have a2:=Br (b:=zg) (by decide) hd;rw[hw]at a2;have hp:=AN (b:=zg) (by decide) i;have e5:zc zg w+(zg:Int)^i*(h'+c)=X:=by rw[zw];omega
  have hzero:h'+c=0:=by
   rcases Int.lt_trichotomy (h'+c) 0 with g|g|g
   ·have:=zk (show h'+c<= -1 by omega) (zr hp);rw[j6,yv]at this;omega
   ·exact g
   ·have:=zk (show 1<=h'+c by omega) (zr hp);rw[yv]at this;omega
  have hll:i+j<(lo++(w++h'::z)).length:=by simp;omega
  refine zu (GO ..) (yd (by simp) ?_);rw[e1,zj,zj,gH hlo hw,sH _ hlo hw,wr (h'+c) (by omega) (by omega),hzero];have t1:(decide ((0:Int)<=((i+j:Nat):Int))&&decide (((i+j:Nat):Int)<(v11n:Int)))=true:=by simp;omega
  refine ze t1 (ze (w4 hll) (ze t1 (ze (w4 hll) (ze (by simp;omega) (ze (w4 hj1) (hfin _ (by simp;omega) (EN hd (fun d hd'=>?_)) ?_))))))
  ·rcases ql.1 hd' with rfl|hd'
   ·decide
   ·exact hdz d hd'
  ·rw[Ns _ _ _ hz,hw, <-e5,hzero]
 |k+1,i,w,c,hi,hw,hd,hc,he=>by
  have gx:=Gu hv i;have gy:=Gu hd i;have e1:zh .i64 ((i:Int)+(j:Int))=((i+j:Nat):Int):=by rw[wr _ (by omega) (by omega)];omega
  have e2:zh .i64 ((i:Int)+1)=((i+1:Nat):Int):=by rw[wr _ (by omega) (by omega)];omega
  have e3:zh .i64 (zh .i64 (w.getD i 0+v.getD i 0)+c)=w.getD i 0+v.getD i 0+c:=by
   rw[wr (w.getD i 0+v.getD i 0) (by omega) (by omega)];exact wr _ (by omega) (by omega)
  have e4:qy (w.getD i 0+v.getD i 0+c) 1000000000=(w.getD i 0+v.getD i 0+c) % 1000000000:=z7 (by omega);have e5:zh .i64 (yu (w.getD i 0+v.getD i 0+c) 1000000000)=(w.getD i 0+v.getD i 0+c)/1000000000:=by
   rw[zx (by omega)];exact wr _ (by omega) (by omega)
  have hll:i+j<(lo++(w++h'::z)).length:=by simp;omega
  refine zu (GO ..) (ze (by simp;omega) ?_);rw[e1,e2,zj,zj,gW hlo (by omega),sW _ hlo (by omega),e3,e4,e5];have t1:(decide ((0:Int)<=((i+j:Nat):Int))&&decide (((i+j:Nat):Int)<(v11n:Int)))=true:=by simp;omega
  refine ze t1 (ze (w4 hll) (ze (by simp;omega) (ze rfl (ze t1 (ze (w4 hll) (ze rfl ?_))))));refine Cq v8n v11n v12n o2 o0 v lo z n j t h' X hn hn9 hlo hj h11 hjv hj1 hv hz hdz hh hX hlen hfin k (i+1) _ _ (by omega) (by simp[hw]) (G3 hd i (by show 0<=_/\_<(1000000000:Int);omega)) (by omega) ?_;rw[HI _ _ _ _ (by omega),Jv,AE];have e6:(zg:Int)^i*((w.getD i 0+v.getD i 0+c) % 1000000000-w.getD i 0)=(zg:Int)^i*v.getD i 0+(zg:Int)^i*c-(zg:Int)^i*(1000000000*((w.getD i 0+v.getD i 0+c)/1000000000)):=by
   rw[<-zw, <-yz];congr 1;omega
  omega
theorem BQ(v8n v11n v12n:Nat)(o2 o0 v lo z:List Int)(n j:Nat)(t h W:Int)(hn:v.length=n)(hn9:n<=9000)(hlo:lo.length=j)(hj:j<=9000)(h11:n+j<v11n)(hjv:j<v12n)(hj1:j<o2.length)(hv:Aw zg v)(hh:0<=h/\h<1000000000)(hlen:v11n=j+n+1+z.length)(ht:0<=t/\t<1000000000)
  (h0:∀(w:List Int) (h':Int),w.length=n->Aw zg w->0<=h'->zc zg w+(zg:Int)^n*h'=W-t*zc zg v->Ends LV (L2 v8n v n v11n v12n (zh .i64 ((j:Int)-1)) (o2.set j t) (lo++(w++h'::z)) o0) Q)
  (h1:∀(w:List Int) (h':Int),w.length=n->Aw zg w->h'<0-> -2000000000<=h'->zc zg w+(zg:Int)^n*h'=W-t*zc zg v->Ends LV (L5 v8n v n v11n v12n j (zh .i64 (t-1)) 0 0 o2 (lo++(w++h'::z)) o0) Q):
  ∀(k i:Nat) (w:List Int) (c:Int),i+k=n->w.length=n->Aw zg w->(0<=c/\c<=1000000000)->zc zg w+(zg:Int)^n*h=W-t*zc zg (v.take i)+(zg:Int)^i*c->
   Ends LV (L4 v8n v n v11n v12n j t c i o2 (lo++(w++h::z)) o0) Q
 |0,i,w,c,hi,hw,hd,hc,he=>by
  have hi:i=n:=by omega
  subst hi;have e1:zh .i64 ((j:Int)+(i:Int))=((i+j:Nat):Int):=by rw[wr _ (by omega) (by omega)];omega
  have hv1:v.take i=v:=zq (by omega);rw[hv1]at he;have hll:i+j<(lo++(w++h::z)).length:=by simp;omega
  have hll2:i+j<(lo++(w++(h-c)::z)).length:=by simp;omega
  have e5:zc zg w+(zg:Int)^i*(h-c)=W-t*zc zg v:=by rw[yz];omega
  refine zu (DD ..) (yd (by simp) ?_);rw[e1,zj,zj,gH hlo hw,wr (h-c) (by omega) (by omega),sH _ hlo hw,gH hlo hw];have t1:(decide ((0:Int)<=((i+j:Nat):Int))&&decide (((i+j:Nat):Int)<(v11n:Int)))=true:=by simp;omega
  refine ze t1 (ze (w4 hll) (ze t1 (ze (w4 hll) (ze t1 (ze (w4 hll2) (zt (fun d=>?_) (fun d=>?_)))))))
  ·have d:=w6 d;exact h1 w (h-c) hw hd d (by omega) e5
  ·have d:=w7 d;exact ze (by simp;omega) (ze (w4 hj1) (h0 w (h-c) hw hd (by omega) e5))
 |k+1,i,w,c,hi,hw,hd,hc,he=>by
  have gx:=Gu hv i;have gy:=Gu hd i;obtain⟨m1,m2,m3,m4,m5,m6,m7⟩:=Sz ht gx gy hc;have e1:zh .i64 ((i:Int)+(j:Int))=((i+j:Nat):Int):=by rw[wr _ (by omega) (by omega)];omega
  have e2:zh .i64 ((i:Int)+1)=((i+1:Nat):Int):=by rw[wr _ (by omega) (by omega)];omega
  have hll:i+j<(lo++(w++h::z)).length:=by simp;omega
  have t1:(decide ((0:Int)<=((i+j:Nat):Int))&&decide (((i+j:Nat):Int)<(v11n:Int)))=true:=by simp;omega
  have go:∀(x c':Int),(0<=x/\x<1000000000)->(0<=c'/\c'<=1000000000)->c+(x-w.getD i 0)=1000000000*c'-t*v.getD i 0->Ends LV (L4 v8n v n v11n v12n j t c' ((i+1:Nat):Int) o2 (lo++(w.set i x++h::z)) o0) Q:=by
   intro x c' hx hc' hxc;refine BQ v8n v11n v12n o2 o0 v lo z n j t h W hn hn9 hlo hj h11 hjv hj1 hv hh hlen ht h0 h1 k (i+1) _ _ (by omega) (by simp[hw]) (G3 hd i hx) hc' ?_;rw[HI _ _ _ _ (by omega),Jv,AE,zw t,ye t];have e6:(zg:Int)^i*c+(zg:Int)^i*(x-w.getD i 0)=(zg:Int)^i*(1000000000*c')-(zg:Int)^i*(t*v.getD i 0):=by
    rw[<-zw, <-yz,hxc]
   omega
  refine zu (DD ..) (ze (by simp;omega) ?_);rw[e1,e2,zj,zj,gW hlo (by omega),m1,m2,m3,m4,m5,sW _ hlo (by omega),sW _ hlo (by omega)];refine ze (by simp;omega) (ze t1 (ze (w4 hll) (ze rfl (ze rfl (zt (fun d=>?_) (fun d=>?_))))))
  ·have d:=w6 d;rw[wr (w.getD i 0-(t*v.getD i 0+c) % 1000000000+1000000000) (by omega) (by omega)];refine ze t1 (ze (w4 hll) (go _ _ (by omega) (by omega) ?_));generalize t*v.getD i 0=P at*;omega
  ·have d:=w7 d;refine ze t1 (ze (w4 hll) (go _ _ (by omega) (by omega) ?_));generalize t*v.getD i 0=P at*;omega
theorem kT(v8n v11n v12n:Nat)(o2 o0 v lo r0:List Int)(n j:Nat)(hn:v.length=n)(hn9:n<=9000)(hlo:lo.length=j)(hj:j<=9000)(hr:n+1<=r0.length)(hlen:v11n=j+r0.length)(hjv:j<v12n)(hj1:j<o2.length)(hv:Aw zg v)(hd:Aw zg r0)(hz:zc zg (r0.drop (n+1))=0)
  (hfin:∀(q:Int) (r:List Int),r.length=r0.length->Aw zg r->(0<=q/\q<1000000000)->zc zg r<zc zg v->zc zg r=zc zg r0-q*zc zg v->Ends LV (L2 v8n v n v11n v12n (zh .i64 ((j:Int)-1)) (o2.set j q) (lo++r) o0) Q)
  (q:Int) (hq:0<=q/\q<1000000000) (h1:zc zg r0<(q+1)*zc zg v) (h2:q*zc zg v<zc zg r0+zc zg v):
  Ends LV (L4 v8n v n v11n v12n j q 0 0 o2 (lo++r0) o0) Q:=by
 have hdec:r0=r0.take n++r0.getD n 0::r0.drop (n+1):=by
  rw[<-Ca (by omega)];exact(yx n r0).symm
 have gh:=Gu hd n;have hdw:=AL hd n;have hdz:=EB hd (n+1);have hlw:(r0.take n).length=n:=by rw[ya];omega
 have hlz:(r0.drop (n+1)).length=r0.length-(n+1):=qk ..;have hW:zc zg r0=zc zg (r0.take n)+(zg:Int)^n*r0.getD n 0:=by
  conv=>lhs;rw[hdec]
  rw[Ns _ _ _ hz,hlw]
 have hVlt:=Br (b:=zg) (by decide) hv;rw[hn]at hVlt;have hV0:=AA (b:=zg) (by decide) hv;have hW0:=AA (b:=zg) (by decide) hd;have hp:=AN (b:=zg) (by decide) n;rw[Int.add_mul,ym]at h1;rw[hdec];refine BQ v8n v11n v12n o2 o0 v lo (r0.drop (n+1)) n j q (r0.getD n 0) (zc zg r0) hn hn9 hlo hj (by omega) hjv hj1 hv gh (by omega) hq (fun w h' a b c d=>?_) (fun w h' a b c c2 d=>?_) n 0 (r0.take n) 0 (by omega) hlw hdw (by decide) (by rw[<-hW];simp[zc])
 ·have b0:=AA (b:=zg) (by decide) b;have hz':h'=0:=by
   rcases yg 0 h' with g|g
   ·have:=zk (show 1<=h' by omega) (zr hp);omega
   ·omega
  refine hfin q _ (by simp;omega) (EN b (fun x hx=>?_)) hq ?_ ?_
  ·rcases ql.1 hx with rfl|hx
   ·rw[hz'];decide
   ·exact hdz x hx
  ·rw[Ns _ _ _ hz,a,d];omega
  ·rw[Ns _ _ _ hz,a,d]
 ·have b0:=Br (b:=zg) (by decide) b;rw[a]at b0;have hneg:zc zg r0-q*zc zg v<0:=by
   have:=zk (show h'<= -1 by omega) (zr hp);rw[j6,yv]at this;omega
  have hq1:1<=q:=by
   rcases yg 0 q with g|g
   ·exact g
   ·have:q=0:=by omega
    subst this;rw[jj]at hneg;omega
  rw[wr (q-1) (by omega) (by omega)];refine Cq v8n v11n v12n o2 o0 v lo (r0.drop (n+1)) n j (q-1) h' (zc zg r0-q*zc zg v+zc zg v) hn hn9 hlo hj (by omega) hjv hj1 hv hz hdz (by omega) (by omega) (by omega) (fun r a' b' d'=>?_) n 0 w 0 (by omega) a b (by decide) (by rw[d];simp[zc]<;>omega);refine hfin (q-1) r (by omega) b' (by omega) (by omega) ?_;rw[d',jz,ym];omega
theorem Cz(v8n v11n v12n:Nat)(o2 o0 v lo r0:List Int)(a2 a1 a0:List Int)(k j:Nat)(hn:v.length=k+2)(hn9:k+2<=9000)(hlo:lo.length=j)(hj:j<=9000)(hr:k+3<=r0.length)(hlen:v11n=j+r0.length)(hjv:j<v12n)(hj1:j<o2.length)(hv:Aw zg v)(hd:Aw zg r0)(hz:zc zg (r0.drop (k+3))=0)(hv1:1<=v.getD (k+1) 0)
  (hle:r0.getD (k+2) 0<=v.getD (k+1) 0) (hBV:zc zg r0<1000000000*zc zg v)
  (hfin:∀(q:Int) (r:List Int),r.length=r0.length->Aw zg r->(0<=q/\q<1000000000)->zc zg r<zc zg v->zc zg r=zc zg r0-q*zc zg v->Ends LV (L2 v8n v ((k+2:Nat):Int) v11n v12n (zh .i64 ((j:Int)-1)) (o2.set j q) (lo++r) o0) Q):
  ∀(f:Nat) (q r:Int),0<=q->q<f->q<=2000000000000000000->(0<=r/\r<1000000000)->q*v.getD (k+1) 0+r=r0.getD (k+2) 0*1000000000+r0.getD (k+1) 0->zc zg r0<(q+1)*zc zg v->
   Ends LV (L3 v8n v ((k+2:Nat):Int) v11n v12n j a2 a1 a0 v11n v j ((k+2:Nat):Int) q r o2 (lo++r0) o0) Q
 |0,q,r,h0,hf,_,_,_,_=>by omega
 |f+1,q,r,h0,hf,hmax,hr1,he,hup=>by
  have gv2:=Gu hv k;have gv1:=Gu hv (k+1);have gu2:=Gu hd k;have gu1:=Gu hd (k+1);have hP:=AN (b:=zg) (by decide) k;have hW:=oY zg r0 k (by omega) hz;have hV:=lO zg v k hn;have hu':=AA (b:=zg) (by decide) (AL hd k);have hu'':=Br (b:=zg) (by decide) (AL hd k);have hv':=AA (b:=zg) (by decide) (AL hv k);have hv'':=Br (b:=zg) (by decide) (AL hv k);have hV0:=AA (b:=zg) (by decide) hv;rw[ya,yi (by omega)]at hu'' hv'';have exit:∀q R:Int,0<=q->q<1000000000->q*v.getD (k+1) 0+R=r0.getD (k+2) 0*1000000000+r0.getD (k+1) 0->zc zg r0<(q+1)*zc zg v->q*v.getD k 0<=R*1000000000+r0.getD k 0->Ends LV (L4 v8n v ((k+2:Nat):Int) v11n v12n j q 0 0 o2 (lo++r0) o0) Q:=by
   intro q R q0 q1 hqe hqu hx;refine kT v8n v11n v12n o2 o0 v lo r0 (k+2) j hn hn9 hlo hj hr hlen hjv hj1 hv hd hz hfin q ⟨q0,q1⟩ hqu ?_;rw[hW,hV];exact TN hP ⟨hv',hv''⟩ hu' ⟨q0,q1⟩ hv1 gv2.1 hqe hx
  have e1:zh .i64 (((k+2:Nat):Int)-2)=(k:Int):=by rw[wr _ (by omega) (by omega)];omega
  have e2:zh .i64 (((k+2:Nat):Int)-1)=((k+1:Nat):Int):=by rw[wr _ (by omega) (by omega)];omega
  have e3:zh .i64 (zh .i64 ((j:Int)+((k+2:Nat):Int))-2)=((k+j:Nat):Int):=by
   rw[wr ((j:Int)+((k+2:Nat):Int)) (by omega) (by omega),wr _ (by omega) (by omega)];omega
  have g3:(lo++r0).getD (k+j) 0=r0.getD k 0:=GG _ _ _ _ hlo;have b1:(decide ((0:Int)<=((k+1:Nat):Int))&&decide (((k+1:Nat):Int)<(v.length:Int)))=true:=by simp;omega
  have dec:zc zg r0<q*zc zg v->Ends LV (.ite (decide (zh .i64 (r+v.getD (k+1) 0)>=(1000000000:Int))) (L4 v8n v ((k+2:Nat):Int) v11n v12n j (zh .i64 (q-1)) 0 0 o2 (lo++r0) o0) (L3 v8n v ((k+2:Nat):Int) v11n v12n j a2 a1 a0 v11n v j ((k+2:Nat):Int) (zh .i64 (q-1)) (zh .i64 (r+v.getD (k+1) 0)) o2 (lo++r0) o0)) Q:=by
   intro hx;have hW0:=AA (b:=zg) (by decide) hd;have hq1:1<=q:=by
    rcases yg 0 q with g|g
    ·exact g
    ·have:q=0:=by omega
     subst this;rw[jj]at hx;omega
   have he':(q-1)*v.getD (k+1) 0+(r+v.getD (k+1) 0)=r0.getD (k+2) 0*1000000000+r0.getD (k+1) 0:=by rw[jz,ym];omega
   have hup':zc zg r0<(q-1+1)*zc zg v:=by rw[show q-1+1=q by omega];exact hx
   rw[wr (q-1) (by omega) (by omega),wr (r+v.getD (k+1) 0) (by omega) (by omega)];refine zt (fun c=>?_) (fun c=>?_)
   ·have c:=w6 c;have hlt:q-1<1000000000:=by
     rcases yg (q-1) 1000000000 with g|g
     ·exact g
     ·have a:=zn g (show 0<=v.getD (k+1) 0 by omega);have b:=zn hle (show(0:Int)<=1000000000 by omega);omega
    refine exit (q-1) _ (by omega) hlt he' hup' ?_;have a:=zk (show v.getD k 0<=999999999 by omega) (show 0<=q-1 by omega);omega
   ·have c:=w7 c;exact Cz v8n v11n v12n o2 o0 v lo r0 a2 a1 a0 k j hn hn9 hlo hj hr hlen hjv hj1 hv hd hz hv1 hle hBV hfin f (q-1) _ (by omega) (by omega) (by omega) (by omega) he' hup'
  refine zu (C2 ..) ?_;conv=>zeta
  rw[e1,e2,e3,zj,zj,zj,g3];refine zt (fun c=>ze b1 (dec ?_)) (fun c=>ze (by simp;omega) (ze (by simp;omega) (ze (by simp;omega) (zt (fun d=>ze b1 (dec ?_)) (fun d=>?_)))))
  ·have c:=w6 c;have:=zn c hV0;omega
  ·have c:=w7 c;have d:=w6 d;have a:=zk (show v.getD k 0<=999999999 by omega) h0;have b:=yf h0 gv2.1;rw[wr (q*v.getD k 0) (by omega) (by omega),wr (r*1000000000) (by omega) (by omega),wr _ (by omega) (by omega)]at d;have:=UK (B:=zg) (u0:=r0.getD (k+2) 0) (u1:=r0.getD (k+1) 0) (u2:=r0.getD k 0) hP hv' hu'' h0 (v1:=v.getD (k+1) 0) (v2:=v.getD k 0) (r:=r) he d;rw[<-hW, <-hV]at this;exact this
  ·have c:=w7 c;have d:=w7 d;have a:=zk (show v.getD k 0<=999999999 by omega) h0;have b:=yf h0 gv2.1;rw[wr (q*v.getD k 0) (by omega) (by omega),wr (r*1000000000) (by omega) (by omega),wr _ (by omega) (by omega)]at d;exact exit q r h0 (by omega) he hup (by omega)
end T164
theorem Gr{w:List Int}(hd:Aw zg w)(hn:Sp.nz w){k:Nat}(hl:w.length=k+1):0<w.getD k 0/\w.getD k 0<1000000000:=by
 have g:=Gu hd k;refine⟨?_,g.2⟩;have e:w.getLast?=some (w.getD k 0):=by
  rw[qz,hl,qe,yo,je (by omega)];rfl
 unfold Sp.nz at hn;rw[e]at hn;have:w.getD k 0≠0:=fun h=>hn (by rw[h])
 omega
theorem Ee(d:Int):zc zg [d]=d:=by simp[zc]
namespace T164
variable {Q:PV->Ob->Prop}
theorem AQ(v:List Int)(k la:Nat)(f:Int)(hf:0<f/\f<1000000000)(hn:v.length=k+2)(hla:la<=9000)(hkl:k+2<=la)(hv:Aw zg v)(hv1:1<=v.getD (k+1) 0)(W0:Int)
  (hq:∀(u qs:List Int) ob,Aw zg u->Aw zg qs->zc zg u<zc zg v->W0=zc zg u+zc zg v*zc zg qs->Q (.tup [.dat li (Aq qs),.dat li (By (zc zg u/f))]) ob):
  ∀(t:Nat) (u qs:List Int),t+qs.length=la-(k+2)+1->u.length=la+1->Aw zg u->Aw zg qs->zc zg (u.drop t)<zc zg v->W0=zc zg u+zc zg v*((zg:Int)^t*zc zg qs)->
   Ends LV (L2 1 v ((k+2:Nat):Int) (la+1) (la-(k+2)+1) ((t:Int)-1) (zm t 0++qs) u [f]) Q
 |0,u,qs,hl,hu,hd,hdq,hlt,he=>by
  have hlt:zc zg u<zc zg v:=hlt;have hVlt:=Br (b:=zg) (by decide) hv;rw[hn]at hVlt;have hz:zc zg (u.drop (k+2))=0:=I8 (b:=zg) (by decide) hd (by omega) (by omega);have hvu:zc zg (u.take (k+2))=zc zg u:=by
   rw[B7 zg u (k+2) (by omega),hz,qc,qu]
  have ht:(zm 0 0++qs).take (la-(k+2)+1)=qs:=by
   rw[List.replicate_zero,qt];exact zq (by omega)
  have htr:=Hz (AL hd (k+2));have hlr:(Aq (u.take (k+2))).length<=9000:=by
   rw[FU (AL hd (k+2))];refine Nat.le_trans (Nh (k:=k+2) (AA (by decide) (AL hd (k+2))) ?_) (by omega);show zc zg (u.take (k+2))<_;rw[hvu];omega
  have e1:Ai (Aq (u.take (k+2)))=zc zg u:=by
   show zc zg (Aq _)=_;rw[IU,hvu]
  refine zu (AZ ..) (yd (by simp) ?_);rw[zj,ht,e1];refine ze (by simp;omega) (ze rfl (ze rfl (ze (by simp;omega) (ze (Aa (Aa (J7 (by omega) htr) (w4 hf.1)) (w4 hf.2)) (ze (by simp;omega) (zp (hq u qs _ hd hdq hlt (by rw[he,yj,ym]))))))))
 |j+1,u,qs,hl,hu,hd,hdq,hlt,he=>by
  obtain⟨lo,r,rfl,hlo⟩:∃lo r:List Int,u=lo++r/\lo.length=j:=⟨u.take j,u.drop j,(yx j u).symm,by rw[ya];omega⟩;have hdlo:Aw zg lo:=fun d hd'=>hd d (qn.2 (.inl hd'))
  have hdr:Aw zg r:=fun d hd'=>hd d (qn.2 (.inr hd'))
  have hrl:r.length=la+1-j:=by rw[qv]at hu;omega
  have hdrop:∀z:List Int,(lo++z).drop j=z:=fun z=>by rw[<-hlo];exact List.drop_left
  have hr0:r=r.getD 0 0::r.drop 1:=by
   have:=Ca (l:=r) (i:=0) (by omega);rw[List.drop_zero]at this;exact this
  have hd1:(lo++r).drop (j+1)=r.drop 1:=by rw[jk j 1,jk 1 j, <-qw,hdrop]
  rw[hd1]at hlt;have g0:=Gu hdr 0;have hvr:zc zg r=r.getD 0 0+1000000000*zc zg (r.drop 1):=by
   conv=>lhs;rw[hr0]
   rfl
  have hVlt:=Br (b:=zg) (by decide) hv;rw[hn]at hVlt;have hrV:zc zg r<1000000000*zc zg v:=by rw[hvr];omega
  have hz:zc zg (r.drop (k+3))=0:=by
   refine I8 (b:=zg) (by decide) hdr (by omega) ?_;have ep:(zg:Int)^(k+3)=(zg:Int)^(k+2)*1000000000:=zy ..;rw[ep];omega
  have gu0:=Gu hdr (k+2);have gu1:=Gu hdr (k+1);have gu2:=Gu hdr k;have gv1:=Gu hv (k+1);have gv2:=Gu hv k;have hP:=AN (b:=zg) (by decide) k;have hW:=oY zg r k (by omega) hz;have hV:=lO zg v k hn;have hu'':=Br (b:=zg) (by decide) (AL hdr k);have hv':=AA (b:=zg) (by decide) (AL hv k);rw[ya,yi (by omega)]at hu'';have hle:r.getD (k+2) 0<=v.getD (k+1) 0:=by
   have a1:=B7 zg (r.drop 1) (k+1) (by rw[qk];omega);have a2:(r.drop 1).drop (k+1)=r.getD (k+2) 0::r.drop (k+3):=by
    rw[qw,show 1+(k+1)=k+2 by omega];exact Ca (by omega)
   have a3:zc zg (r.getD (k+2) 0::r.drop (k+3))=r.getD (k+2) 0:=by
    show r.getD (k+2) 0+(zg:Int)*zc zg (r.drop (k+3))=_;rw[hz];omega
   rw[a2,a3]at a1;have b1:zc zg v=zc zg (v.take (k+1))+(zg:Int)^(k+1)*v.getD (k+1) 0:=by
    rw[<-AE,zq (by omega)]
   have b2:=Br (b:=zg) (by decide) (AL hv (k+1));rw[ya,yi (by omega)]at b2;have c1:=AA (b:=zg) (by decide) (AL (EB hdr 1) (k+1));have c2:(zg:Int)^(k+1)*r.getD (k+2) 0<(zg:Int)^(k+1)*(v.getD (k+1) 0+1):=by
    rw[zw,yv];omega
   have:=z8 c2 (zr (AN (by decide) (k+1)));omega
  have hfin:∀(q:Int) (r':List Int),r'.length=r.length->Aw zg r'->(0<=q/\q<1000000000)->zc zg r'<zc zg v->zc zg r'=zc zg r-q*zc zg v->Ends LV (L2 1 v ((k+2:Nat):Int) (la+1) (la-(k+2)+1) (zh .i64 ((j:Int)-1)) ((zm (j+1) 0++qs).set j q) (lo++r') [f]) Q:=by
   intro q r' h1 h2 h3 h4 h5;have es:(zm (j+1) (0:Int)++qs).set j q=zm j 0++(q::qs):=by
    rw[qm,yb];exact Di _ _ _ _ (by simp)
   rw[es,wr ((j:Int)-1) (by omega) (by omega)];refine AQ v k la f hf hn hla hkl hv hv1 W0 hq j (lo++r') (q::qs) (by simp;omega) (by simp;omega) (EN hdlo h2) (fun d hd'=>?_) (by rw[hdrop];exact h4) ?_
   ·rcases ql.1 hd' with rfl|hd'
    ·exact h3
    ·exact hdq d hd'
   ·rw[he,CQ,CQ,hlo,h5,Jv];show zc zg lo+(zg:Int)^j*zc zg r+zc zg v*((zg:Int)^j*(1000000000*zc zg qs))=zc zg lo+(zg:Int)^j*(zc zg r-q*zc zg v)+zc zg v*((zg:Int)^j*(q+1000000000*zc zg qs));have x1:zc zg v*((zg:Int)^j*q)=(zg:Int)^j*(q*zc zg v):=by
     rw[ye,zz (zc zg v) q]
    rw[yz,zw ((zg:Int)^j) q,zw (zc zg v),x1];omega
  have e0:(((j+1:Nat):Int)-1)=(j:Int):=by omega
  have e1:zh .i64 ((j:Int)+((k+2:Nat):Int))=((k+2+j:Nat):Int):=by rw[wr _ (by omega) (by omega)];omega
  have e2:zh .i64 (((k+2+j:Nat):Int)-1)=((k+1+j:Nat):Int):=by rw[wr _ (by omega) (by omega)];omega
  have e3:zh .i64 (((k+2:Nat):Int)-1)=((k+1:Nat):Int):=by rw[wr _ (by omega) (by omega)];omega
  have g1:(lo++r).getD (k+2+j) 0=r.getD (k+2) 0:=GG _ _ _ _ hlo;have g2:(lo++r).getD (k+1+j) 0=r.getD (k+1) 0:=GG _ _ _ _ hlo;have hll:(lo++r).length=la+1:=hu;have hmul:zh .i64 (zh .i64 (r.getD (k+2) 0*1000000000)+r.getD (k+1) 0)=r.getD (k+2) 0*1000000000+r.getD (k+1) 0:=by
   rw[wr (r.getD (k+2) 0*1000000000) (by omega) (by omega)];exact wr _ (by omega) (by omega)
  have htop0:0<=r.getD (k+2) 0*1000000000+r.getD (k+1) 0:=by omega
  have hq0:0<=(r.getD (k+2) 0*1000000000+r.getD (k+1) 0)/v.getD (k+1) 0:=qo htop0 (by omega);have hqs:(r.getD (k+2) 0*1000000000+r.getD (k+1) 0)/v.getD (k+1) 0<=r.getD (k+2) 0*1000000000+r.getD (k+1) 0:=Int.ediv_le_self _ htop0;have hdm:=yp (r.getD (k+2) 0*1000000000+r.getD (k+1) 0) (v.getD (k+1) 0);have hm0:=yq (r.getD (k+2) 0*1000000000+r.getD (k+1) 0) (show v.getD (k+1) 0≠0 by omega);have hm1:=yn (r.getD (k+2) 0*1000000000+r.getD (k+1) 0) (show 0<v.getD (k+1) 0 by omega);rw[zz]at hdm;have et:zh .i64 (yu (r.getD (k+2) 0*1000000000+r.getD (k+1) 0) (v.getD (k+1) 0))=(r.getD (k+2) 0*1000000000+r.getD (k+1) 0)/v.getD (k+1) 0:=by
   rw[zx htop0];exact wr _ (by omega) (by omega)
  have em:qy (r.getD (k+2) 0*1000000000+r.getD (k+1) 0) (v.getD (k+1) 0)=(r.getD (k+2) 0*1000000000+r.getD (k+1) 0) % v.getD (k+1) 0:=z7 htop0;have b2:(decide ((0:Int)<=((k+1:Nat):Int))&&decide (((k+1:Nat):Int)<((k+2:Nat):Int)))=true:=by simp;omega
  have bn:decide (v.getD (k+1) 0≠0)=true:=w4 (by omega);rw[e0];refine zu (AZ ..) (ze (by simp) ?_);rw[hn,e1,e2,e3,zj,zj,zj,g1,g2,hmul,et,em,hll];refine ze (by simp;omega) (ze (w4 (by omega)) (ze (by simp;omega) (ze (w4 (by omega)) (ze b2 (ze bn (ze b2 (ze bn ?_)))))));refine Cz 1 (la+1) (la-(k+2)+1) _ [f] v lo r _ _ _ k j hn (by omega) hlo (by omega) (by omega) (by omega) (by omega) (by simp;omega) hv hdr hz hv1 hle hrV hfin (((r.getD (k+2) 0*1000000000+r.getD (k+1) 0)/v.getD (k+1) 0).toNat+1) _ _ hq0 (by omega) (by omega) ⟨hm0,by omega⟩ hdm ?_;rw[hW,hV];exact MA hP (by decide) hq0 hv' gv2.1 hu'' gu2.2 hdm hm1
theorem Aj(a v:List Int)(n la:Nat)(f:Int)(hla:a.length=la)(hla9:la<=9000)(hnl:n<=la)(hq:∀u:List Int,u.length=la+1->Aw zg u->zc zg u=zc zg a*f->Ends LV (L2 1 v n (la+1) (la-n+1) (((la-n+1:Nat):Int)-1) (zm (la-n+1) 0) u [f]) Q):
  ∀(m:Nat) (u:List Int),u.length+m=la+1->Aw zg u->zc zg u=zc zg a*f->Ends LV (L1 a 1 v n u.length u [f]) Q
 |0,u,hl,hd,he=>by
  have e1:zh .i64 ((a.length:Int)+1)=((la+1:Nat):Int):=by rw[wr _ (by omega) (by omega)];omega
  have e2:zh .i64 ((u.length:Int)-(n:Int))=((la-n+1:Nat):Int):=by rw[wr _ (by omega) (by omega)];omega
  have e3:zh .i64 (((la-n+1:Nat):Int)-1)=((la-n+1:Nat):Int)-1:=wr _ (by omega) (by omega);refine zu (Ar ..) ?_;conv=>zeta
  rw[e1,e2,e3,zj];refine yd (by simp;omega) (ze (by simp;omega) ?_);have hul:u.length=la+1:=by omega
  rw[hul];exact hq u hul hd he
 |m+1,u,hl,hd,he=>by
  have e1:zh .i64 ((a.length:Int)+1)=((la+1:Nat):Int):=by rw[wr _ (by omega) (by omega)];omega
  refine zu (Ar ..) ?_;conv=>zeta
  rw[e1];refine ze (by simp;omega) (ze (by simp;omega) ?_);have:=Aj a v n la f hla hla9 hnl hq m (u++[0]) (by simp;omega) (E7 hd (by decide)) (by rw[B8,qc,qu];exact he);rw[qv]at this;exact this
set_option maxHeartbeats 1000000 in
theorem ok:Ag Bg 164 Qh:=by
 refine B1 lU (fun(i:List Int×List Int) hi=>?_);obtain⟨a,b⟩:=i;have hi:(A4 a&&A4 b&&decide (a.length<=9000)&&decide (b.length<=9000)&&decide (0<Ai b))=true:=hi;rw[zl,zl,zl,zl,w5,w5,w5]at hi;obtain⟨⟨⟨⟨na,nb⟩,la9⟩,lb9⟩,hb0⟩:=hi;obtain⟨_,da,za⟩:=Bk na;obtain⟨_,db,zb⟩:=Bk nb;have hb0:0<zc zg b:=hb0;have ha0:=AA (b:=zg) (by decide) da;have hg:∀q r ob,q=By (Ai a/Ai b)->r=By (Ai a % Ai b)->Ad Qh (a,b) (PV.tup [PV.dat li q,PV.dat li r]) ob:=fun q r ob e1 e2=>y9 rfl rfl (Prod.ext e1 e2)
 have hbne:b≠[]:=by rintro rfl;simp[zc]at hb0
 have hblen:b.length≠0:=fun h=>hbne (yc.1 h)
 refine yw (Am a b) (ze (by rw[na,nb];rfl) (zt (fun c=>?_) (fun c=>?_)))
 ·have c:=w6 c;have hlt:zc zg a<zc zg b:=by
   unfold BZ at c;have c:(if zc zg a<zc zg b then(-1:Int)else if zc zg a>zc zg b then 1 else 0)<0:=c;split at c
   ·assumption
   ·split at c<;>omega
  refine zp (y9 rfl rfl ?_);show([],a)=(By (zc zg a/zc zg b),By (zc zg a % zc zg b));rw[qi ha0 hlt,Int.emod_eq_of_lt ha0 hlt];exact Prod.ext rfl (Ij (by decide) da za)
 ·have c:=w7 c;have hge:zc zg b<=zc zg a:=by
   rcases yg (zc zg a) (zc zg b)with g|g
   ·have:BZ (Ai a) (Ai b)= -1:=wd g;omega
   ·exact g
  have hll:b.length<=a.length:=by
   rcases Nat.lt_or_ge a.length b.length with g|g
   ·have:=Eu (b:=zg) (by decide) da db zb g;omega
   ·exact g
  refine zt (fun c1=>?_) (fun c1=>?_)
  ·have c1:b.length=1:=by
    have:(b.length:Int)=1:=by simpa using c1
    omega
   obtain⟨d,rfl⟩:=jl.1 c1;have hd:0<d/\d<1000000000:=Gr (k:=0) db zb rfl;have m0:=yq (zc zg a) (show d≠0 by omega);have m1:=yn (zc zg a) hd.1;refine ze rfl (ze (Aa (Aa (J7 (by omega) da) (w4 hd.1)) (w4 hd.2)) (ze rfl (zp (hg _ _ _ ?_ ?_))))
   ·show By (zc zg a/d)=By (zc zg a/zc zg [d]);rw[Ee]
   ·show Aq [zc zg a % d]=By (zc zg a % zc zg [d]);rw[Ee,FU (fun x hx=>by rw[qf]at hx;subst hx;show 0<=_/\_<(1000000000:Int);omega)];show By (zc zg [_])=_;rw[Ee]
  ·have c1:b.length≠1:=by
    have:(b.length:Int)≠1:=by simpa using c1
    omega
   obtain⟨k,hk⟩:∃k,b.length=k+2:=⟨b.length-2,by omega⟩;obtain⟨y0,y1⟩:=Gr (k:=k+1) db zb hk;have e1:zh .i64 (((k+2:Nat):Int)-1)=((k+1:Nat):Int):=by rw[wr _ (by omega) (by omega)];omega
   have e2:zh .i64 (b.getD (k+1) 0+1)=b.getD (k+1) 0+1:=wr _ (by omega) (by omega);have f0:0<1000000000/(b.getD (k+1) 0+1):=by
    have:=Int.le_ediv_of_mul_le (a:=1) (b:=1000000000) (c:=b.getD (k+1) 0+1) (by omega) (by omega);omega
   have f1:1000000000/(b.getD (k+1) 0+1)<1000000000:=qj (by omega) (by omega);have f2:1000000000/(b.getD (k+1) 0+1)*(b.getD (k+1) 0+1)<=1000000000:=Int.ediv_mul_le _ (by omega);have e3:zh .i64 (yu 1000000000 (b.getD (k+1) 0+1))=1000000000/(b.getD (k+1) 0+1):=by
    rw[zx (by decide)];exact wr _ (by omega) (by omega)
   rw[hk,e1,zj,e2,e3];generalize 1000000000/(b.getD (k+1) 0+1)=f at*;have hdf:Aw zg [f]:=fun x hx=>by rw[qf]at hx;subst hx;show 0<=_/\_<(1000000000:Int);omega
   have hvf:Ai [f]=f:=Ee f;rw[hvf];have hv1:(zg:Int)^(k+1)<=zc zg b*f:=by
    have a1:=Db (b:=zg) (by decide) db zb hbne;rw[hk,show k+2-1=k+1 by omega]at a1;have a2:=zk (show 1<=f by omega) (zr hb0);omega
   have hv2:zc zg b*f<(zg:Int)^(k+2):=by
    have b1:zc zg b=zc zg (b.take (k+1))+(zg:Int)^(k+1)*b.getD (k+1) 0:=by
     rw[<-AE,zq (by omega)]
    have b2:=Br (b:=zg) (by decide) (AL db (k+1));rw[ya,yi (by omega)]at b2;have hp:=AN (b:=zg) (by decide) (k+1);have b3:zc zg b<(zg:Int)^(k+1)*(b.getD (k+1) 0+1):=by
     rw[zw,yv];omega
    have b4:=yy b3 f0;have b5:=zk f2 (zr hp);have b6:(zg:Int)^(k+2)=(zg:Int)^(k+1)*1000000000:=zy ..;rw[yh,zz (b.getD (k+1) 0+1) f]at b4;omega
   have hV0:0<=zc zg b*f:=yf (zr hb0) (by omega);have hU0:0<=zc zg a*f:=yf ha0 (by omega);have hU1:zc zg a*f<(zg:Int)^(a.length+1):=by
    have a1:=Br (b:=zg) (by decide) da;have a2:=yy a1 f0;have a3:=zk (show f<=1000000000 by omega) (zr (AN (b:=zg) (by decide) a.length));have a4:(zg:Int)^(a.length+1)=(zg:Int)^a.length*1000000000:=zy ..;omega
   have vd:=Fc (b:=zg) (by decide) (zc zg b*f);have vz:=XE (b:=zg) (by decide) (zc zg b*f);have vv:zc zg (Sp.dg zg (zc zg b*f))=zc zg b*f:=CP (by decide) hV0;have vl:=Z9 (b:=zg) (by decide) vd vz (k:=k+1) (by rw[vv];exact hv1) (by rw[vv];exact hv2);have v1:=(Gr vd vz vl).1;have ud:=Fc (b:=zg) (by decide) (zc zg a*f);have uv:zc zg (Sp.dg zg (zc zg a*f))=zc zg a*f:=CP (by decide) hU0;have ul:=Nh (k:=a.length+1) hU0 hU1;have hfa:Sp.hR [f]=true:=QG (by simp) hdf;have bd:decide ((2*(0+(By (Ai a*f)).length)+1000)*8<=281474976710656)=true:=w4 (by have:(By (Ai a*f)).length<=a.length+1:=ul;omega);refine ze (by simp;omega) (ze (w4 (by omega)) (ze (by rw[QG lb9 db,hfa];rfl) (ze (by rw[QG la9 da,hfa];rfl) (ze bd ?_))));have ez:kc 0 (By (Ai a*f)).length=(By (Ai a*f)).length:=j8 _;have evl:(By (Ai b*f)).length=k+2:=vl;rw[ez,qt,evl];refine Aj a (By (Ai b*f)) (k+2) a.length f rfl la9 (by omega) (fun u hul hud huv=>?_) (a.length+1-(By (Ai a*f)).length) (By (Ai a*f)) (by have:(By (Ai a*f)).length<=a.length+1:=ul;omega) ud uv;have hpn:=AN (b:=zg) (by decide) (a.length-(k+2)+1);have start:zc zg (u.drop (a.length-(k+2)+1))<zc zg (By (Ai b*f)):=by
    have a1:=B7 zg u (a.length-(k+2)+1) (by omega);have a2:=AA (b:=zg) (by decide) (AL hud (a.length-(k+2)+1));have a3:=Br (b:=zg) (by decide) da;have a4:=yy a3 f0;have a5:(zg:Int)^a.length=(zg:Int)^(a.length-(k+2)+1)*(zg:Int)^(k+1):=by rw[<-j0,show a.length-(k+2)+1+(k+1)=a.length by omega]
    have a6:=Db (b:=zg) (by decide) db zb hbne;rw[hk,show k+2-1=k+1 by omega]at a6;have a7:=zn a6 (show 0<=f by omega);have a8:=zk a7 (zr hpn);rw[a5,yh]at a4;show _<zc zg (Sp.dg zg (zc zg b*f));rw[vv];refine z8 (a:=(zg:Int)^(a.length-(k+2)+1)) ?_ (zr hpn);omega
   have go:=AQ (Q:=Ad Qh (a,b)) (By (Ai b*f)) k a.length f ⟨f0,f1⟩ evl la9 (by omega) vd (by have:0<(By (Ai b*f)).getD (k+1) 0:=v1;omega) (zc zg a*f) (fun u' qs ob hud' hdq hlt' he=>by
    have vv':zc zg (By (Ai b*f))=zc zg b*f:=vv;rw[vv']at he hlt';have e:zc zg u'=f*(zc zg a-zc zg qs*zc zg b):=by
     have x1:zc zg b*f*zc zg qs=f*(zc zg qs*zc zg b):=by
      rw[zz (zc zg b) f,yh,zz (zc zg b)]
     rw[x1,zz (zc zg a)]at he;rw[yz];omega
    have h0:=AA (b:=zg) (by decide) hud';have r0:0<=zc zg a-zc zg qs*zc zg b:=by
     rw[e]at h0;exact Int.nonneg_of_mul_nonneg_right h0 f0
    have r1:zc zg a-zc zg qs*zc zg b<zc zg b:=by
     rw[e,zz (zc zg b) f]at hlt';exact z8 hlt' (by omega)
    obtain⟨u1,u2⟩:=(yr (a:=zc zg a) (b:=zc zg b) (r:=zc zg a-zc zg qs*zc zg b) (q:=zc zg qs) hb0).2 ⟨by rw[zz (zc zg b)];omega,r0,r1⟩;refine hg _ _ ob ?_ ?_
    ·rw[FU hdq];show By (zc zg qs)=By (zc zg a/zc zg b);rw[u1]
    ·show By (zc zg u'/f)=By (zc zg a % zc zg b);rw[u2,e,jf _ (by omega)]) (a.length-(k+2)+1) u [] (by simp) hul hud (fun x hx=>by cases hx) start (by rw[huv];simp[zc])
   rw[qp]at go;exact go
end T164
theorem kN:DM vQ:=Ab T164.ok AP
namespace T92
variable {Q:PV->Ob->Prop}
theorem Aj(g:Nat)(L:Int)(hL:∀n:Nat,(n:Int)<L->A4 (By (n:Int))=true/\Ai (By (n:Int))=n/\(By (n:Int)).length<=9000)(hq:∀ob,Q (.dat li (By (g:Int))) ob):∀(f x y:Nat),y<f->ke x y=g->(x:Int)<L->(y:Int)<L->
  Ends vQ (L1 (By (x:Int)) (By (y:Int))) Q
 |0,x,y,h,_,_,_=>by omega
 |f+1,x,y,hy,hg,bx,by'=>by
  obtain⟨nx,vx,lx⟩:=hL x bx;obtain⟨ny,vy,ly⟩:=hL y by'
  refine zu (Ar ..) ?_;conv=>zeta
  by_cases h0:y=0
  ·subst h0;rw[Nat.gcd_zero_right]at hg;subst hg;exact yd rfl (zp (hq _))
  ·have hlt:x % y<y:=Nat.mod_lt _ (by omega);have hl:(By (y:Int)).length≠0:=by
    intro h;have:=yc.1 h;rw[this]at vy;simp[Ai,zc]at vy;omega
   rw[vx,vy,Te];refine ze (by simp;omega) (ze (Aa (Aa (Aa (Aa nx ny) (w4 lx)) (w4 ly)) (w4 (by omega))) ?_);exact Aj g L hL hq f y (x % y) (by omega) (by rw[jm, <-Nat.gcd_rec,jm];exact hg) by' (by omega)
theorem Tw{a:List Int}(h:A4 a=true):a=By (Ai a)/\0<=Ai a:=by
 obtain⟨_,d,z⟩:=Bk h;exact⟨Ij (by decide) d z,AA (by decide) d⟩
theorem VU(n:Nat)(h:(n:Int)<(zg:Int)^9000):A4 (By (n:Int))=true/\Ai (By (n:Int))=n/\(By (n:Int)).length<=9000:=by
 obtain⟨a,_,b,c⟩:=Fm (n:=(n:Int)) (k:=9000) (Int.natCast_nonneg n) h (by decide);exact⟨a,b,c⟩
theorem ok:Ag Bg 92 K8:=by
 refine B1 kN (fun(i:List Int×List Int) hi=>?_);obtain⟨a,b⟩:=i;have hi:(A4 a&&A4 b&&decide (a.length<=9000)&&decide (b.length<=9000))=true:=hi;rw[zl,zl,zl,w5,w5]at hi;obtain⟨⟨⟨na,nb⟩,la9⟩,lb9⟩:=hi;obtain⟨ea,a0⟩:=Tw na;obtain⟨eb,b0⟩:=Tw nb;have la:Ai a<(zg:Int)^9000:=qg (Br (b:=zg) (by decide) (Bk na).2.1) (AH (by decide) la9);have lb:Ai b<(zg:Int)^9000:=qg (Br (b:=zg) (by decide) (Bk nb).2.1) (AH (by decide) lb9);have key:∀(x y:Nat),Ai a=x->Ai b=y->Ends vQ (L1 a b) (Ad K8 (a,b)):=by
  intro x y hx hy;rw[ea,eb,hx,hy];rw[hx]at la;rw[hy]at lb;refine Aj (ke x y) _ VU (fun ob=>y9 rfl rfl ?_) (y+1) x y (Nat.lt_succ_self _) rfl la lb;have e:Sp.gI (Ai (By (x:Int))) (Ai (By (y:Int)))=((ke x y:Nat):Int):=by
   rw[(VU x la).2.1,(VU y lb).2.1,FQ];rfl
  exact wi By e.symm
 obtain⟨x,hx⟩:=qh a0;obtain⟨y,hy⟩:=qh b0;exact yw (Am a b) (key x y hx hy)
end T92
theorem lS:DM ZE:=
 Ab (GH (by kernel_rfl) (BA (by kernel_rfl))) (Ab (GH (by kernel_rfl) (BA (by kernel_rfl))) (Ab (GH (by kernel_rfl) (BA (by kernel_rfl))) (Ab (GH (by kernel_rfl) (BA (by kernel_rfl))) AP)))
theorem Fa:DM M5:=fun g sp h=>by cases h
namespace T211
variable {Q:PV->Ob->Prop}
theorem wA:∀i:Fin 10,(Dk.getD i.1 0).toNat<128:=by decide
theorem EE(s:List UInt8)(i:Nat)(o:List Bool)(hi:i<10)(ho:o.length=256)(h:Ends ZE (L2 s Dk Dk ((i+1:Nat):Int) (o.set (Dk.getD i 0).toNat true)) Q):Ends ZE (L2 s Dk Dk (i:Int) o) Q:=by
 have hl:Dk.length=10:=rfl;have hc:=wA ⟨i,hi⟩;have hc:(Dk.getD i 0).toNat<128:=hc;have e:zh .i64 ((i:Int)+1)=((i+1:Nat):Int):=by rw[wr _ (by omega) (by omega)];omega
 refine zu (AZ ..) ?_;conv=>zeta
 rw[hl,e,zj,zj];exact ze (w4 (by omega)) (ze (Aa (w4 (by omega)) (w4 (by omega))) (yd (w8 (by omega)) (ze (Aa (w4 (show(0:Int)<=((Dk.getD i 0).toNat:Int)by omega)) (w4 (by omega))) (ze (w4 (by omega)) h))))
def Tb(o:List Bool):Prop:=o.length=256/\∀c:UInt8,o.getD c.toNat false=BL c
theorem Cg(s t v0:List UInt8)(v4:Int)(o0:List Bool)(v0':List UInt8)(o1 o0':List Bool)(p1 p0:List Bool)(hT:Tb p1):∀(w:List UInt8),(∀ob,Q (.dat .str (w.dropWhile BL)) ob)->Ends ZE (L7 s t v0 v4 o0 v0' o1 o0' w p1 p0) Q
 |[],hq=>zu (F9 ..) (yd (by simp) (zp (hq _)))
 |c::r,hq=>by
  have hc:c.toNat<256:=c.toNat_lt;have g0:(c::r).getD 0 0=c:=rfl;have e:(List.drop 1 (c::r)).take (j9 (c::r).length 1)=r:=by show r.take ((r.length+1)-1)=r;rw[qe];exact qd
  refine zu (F9 ..) ?_;conv=>zeta
  rw[g0,zj,hT.2,hT.1,e];refine ze (by simp) (ze (by simp) (ze (Aa (w4 (show(0:Int)<=(c.toNat:Int)by omega)) (w4 (by omega))) (ze (w4 hc) (zt (fun d=>?_) (fun d=>ze (by simp) ?_)))))
  ·have d:BL c=false:=by simpa using d
   rw[yt,wc (by rw[d];decide)]at hq;exact zp (hq _)
  ·have d:BL c=true:=by simpa using d
   rw[yt,wd d]at hq;exact Cg s t v0 v4 o0 v0' o1 o0' p1 p0 hT r hq
theorem BQ(s t v0:List UInt8)(v4:Int)(o0:List Bool)(o1 o0':List Bool)(hT:Tb o1):∀(n:Nat) (w:List UInt8),w.length=n->n<=1000000->(∀ob,Q (.dat .str (((w.reverse.dropWhile BL).reverse).dropWhile BL)) ob)->Ends ZE (L4 s t v0 v4 o0 w o1 o0') Q
 |0,w,hl,_,hq=>by
  have:w=[]:=yc.1 hl;subst this;exact zu (DD ..) (yd (by simp) (zu (Jz ..) (yd (by simp) (zp (hq _)))))
 |n+1,w,hl,hn,hq=>by
  obtain⟨p,c,rfl⟩:∃p c,w=p++[c]:=by
   have hne:w≠[]:=by rintro rfl;simp at hl
   exact⟨w.dropLast,w.getLast hne,(qq hne).symm⟩
  have hp:p.length=n:=by simpa using hl
  have hc:c.toNat<256:=c.toNat_lt;have e1:zh .i64 (((p++[c]).length:Int)-1)=(n:Int):=by rw[hl,wr _ (by omega) (by omega)];omega
  have g1:(p++[c]).getD n 0=c:=Dr _ _ _ _ hp;have t1:(p++[c]).take n=p:=by rw[<-hp];exact j5
  have hr:(p++[c]).reverse=c::p.reverse:=by simp
  rw[hr,yt]at hq;refine zu (DD ..) (ze (w4 (by omega)) ?_);rw[e1,zj,g1,t1,zj,hT.2,hT.1,hl];refine ze (by simp;omega) (ze (Aa (w4 (show(0:Int)<=(c.toNat:Int)by omega)) (w4 (by omega))) (ze (w4 hc) (zt (fun d=>?_) (fun d=>ze (by simp) ?_))))
  ·have d:BL c=false:=by simpa using d
   rw[wc (by rw[d];decide),List.reverse_cons,List.reverse_reverse]at hq;exact Cg s t v0 v4 o0 _ o1 o0' o1 o0' hT (p++[c]) hq
  ·have d:BL c=true:=by simpa using d
   rw[wd d]at hq;exact BQ s t v0 v4 o0 o1 o0' hT n p hp (by omega) hq
theorem wE{o:List Bool}(h1:o.length=256)(h2:∀c:Fin 256,o.getD c.1 false=(Nat.ble 48 c.1&&Nat.ble c.1 57)):Tb o:=by
 refine⟨h1,fun c=>?_⟩;have:=h2 ⟨c.toNat,c.toNat_lt⟩;rw[show o.getD c.toNat false=_ from this];unfold BL;rw[Bool.eq_iff_iff];simp[Nat.ble_eq]
set_option maxRecDepth 10000 in
theorem ok:Ag Bg 211 VQ:=by
 refine B1 lS (fun(i:List UInt8×List UInt8) hi=>?_);obtain⟨s,t⟩:=i;have hi:(decide (t=Dk)&&decide (s.length<=1000000))=true:=hi;rw[zl,w5,w5]at hi;obtain⟨rfl,hl⟩:=hi;have hq:∀ob,Ad VQ (s,Dk) (.dat .str (((s.reverse.dropWhile BL).reverse).dropWhile BL)) ob:=fun ob=>y9 rfl rfl rfl
 refine yw (Am s Dk) (zt (fun c=>?_) (fun c=>yd (by decide) (yd (by decide) ?_)))
 ·have c:s=[]:=by simpa using c
  subst c;exact zp (hq _)
 ·refine EE s 0 _ (by decide) rfl (EE s 1 _ (by decide) rfl (EE s 2 _ (by decide) rfl (EE s 3 _ (by decide) rfl (EE s 4 _ (by decide) rfl (EE s 5 _ (by decide) rfl (EE s 6 _ (by decide) rfl (EE s 7 _ (by decide) rfl (EE s 8 _ (by decide) rfl (EE s 9 _ (by decide) rfl ?_)))))))));refine zu (AZ ..) (yd (by decide) (ze (by decide+kernel) (ze (by decide+kernel) (ze (by decide+kernel) (ze rfl (BQ s _ _ _ _ _ _ (wE rfl ?_) s.length s rfl hl hq))))));decide+kernel
end T211
theorem mQ:DM zS:=Ab T211.ok AP
theorem dropWhile_nil{p:UInt8->Bool}:∀ {l:List UInt8},l.dropWhile p=[]↔l.all p=true
 |[]=>by simp
 |a::l=>by
  rw[yt,List.all_cons];cases h:p a with
  |true=>simp only[wk,jg];exact dropWhile_nil
  |false=>simp
theorem Iz{p:UInt8->Bool}:∀ {l:List UInt8} {a:UInt8} {r:List UInt8},l.dropWhile p=a::r->p a=false
 |[],a,r,h=>by simp at h
 |b::l,a,r,h=>by
  rw[yt]at h;cases hb:p b with
  |true=>rw[hb,wd rfl]at h;exact Iz h
  |false=>
   rw[hb]at h;simp at h;rw[<-h.1];exact hb
theorem Lw(s:List UInt8):Ou s=[]↔Al s=true:=by
 unfold Ou Al;rw[dropWhile_nil,ji];constructor
 ·intro h;cases hd:s.reverse.dropWhile BL with
  |nil=>have:=dropWhile_nil.1 hd;rwa [ji]at this
  |cons a r=>
   rw[hd,List.all_cons,Iz hd]at h;cases h
 ·intro h;have:s.reverse.dropWhile BL=[]:=dropWhile_nil.2 (by rwa [ji]);rw[this];rfl
theorem T151.ok:Ag Bg 151 LF:=by
 refine B1 mQ (fun(s:List UInt8) hl=>?_);have hl:s.length<=1000000:=w6 hl;have hq:∀v b ob,v=.bl b\/v=.dat .bool b->b=AT s->Ad LF s v ob:=by
  rintro v b ob (rfl|rfl) hb
  ·exact y9 rfl rfl hb
  ·exact y9 rfl rfl hb
 refine yw (T151.Am s) (zt (fun c=>ze ?_ (zt (fun d=>ze ?_ (zt (fun e=>zp (hq _ _ _ (.inl rfl) ?_)) (fun e=>zp (hq _ _ _ (.inr rfl) ?_)))) (fun d=>zp (hq _ _ _ (.inl rfl) ?_)))) (fun c=>zp (hq _ _ _ (.inl rfl) ?_)))
 ·exact Aa (w4 rfl) (w4 hl)
 ·have c:s≠[]:=by simpa using c
  have:s.length≠0:=fun h=>c (yc.1 h)
  exact w4 (by omega)
 ·have c:s≠[]:=by simpa using c
  have d:Ou s=[]:=by simpa using d
  have d:=(Lw s).1 d;have e:s.getD 0 0≠48:=by
   intro h;rw[h]at e;exact wh e (by decide)
  unfold AT;rw[d,w4 c,w4 e];rfl
 ·have c:s≠[]:=by simpa using c
  have d:Ou s=[]:=by simpa using d
  have d:=(Lw s).1 d;have e:s.getD 0 0=48:=by
   have:((s.getD 0 0).toNat:Int)=48:=by simpa using e
   exact UInt8.toNat_inj.1 (by show _=48;omega)
  unfold AT;rw[d,w4 c,w8 (by rw[e];exact fun h=>h rfl)];show(s==[48])=decide (s=[48]);rw[Bool.eq_iff_iff];simp
 ·have d:¬Ou s=[]:=by simpa using d
  have d:Al s=false:=by
   cases h:Al s with
   |true=>exact wh ((Lw s).2 h) d
   |false=>rfl
  unfold AT;rw[d];simp
 ·have c:s=[]:=by simpa using c
  subst c;rfl
theorem T149.ok:Ag Bg 149 qL:=by
 refine B1 Fa (fun(i:List UInt8×List UInt8) hi=>?_);obtain⟨s,t⟩:=i;have hi:(decide (t=[45])&&decide (s.length<=1000000))=true:=hi;rw[zl,w5,w5]at hi;obtain⟨rfl,hl⟩:=hi;have hno:s.getD 0 0≠45->(s,false)=(AY s,Sp.preB s):=fun h=>by
  unfold AY Sp.preB;rw[wc h,w8 h]
 refine yw (T149.Am s [45]) ?_;conv=>zeta
 cases s with
 |nil=>exact yd (by decide) (zp (y9 rfl rfl (hno (by decide))))
 |cons c r=>
  have ht:(c::r).take 1=[c]:=rfl;refine ze (by simp;omega) (ze (by simp) ?_);show Ends M5 (.ite (!List.take 1 (c::r)==[45]) _ _) _;rw[ht];refine zt (fun d=>zp (y9 rfl rfl (hno ?_))) (fun d=>ze (by simp) (zp (y9 rfl rfl ?_)))
  ·show c≠45;rintro rfl;exact wh d (by decide)
  ·have d:c=45:=by simpa using d
   subst d;show(((List.drop 1 ((45:UInt8)::r)).take (j9 ((45:UInt8)::r).length 1)),true)=(AY (45::r),Sp.preB (45::r));have e:(List.drop 1 ((45:UInt8)::r)).take (j9 ((45:UInt8)::r).length 1)=r:=by show r.take ((r.length+1)-1)=r;rw[qe];exact qd
   rw[e];rfl
theorem sD{F:Fz}{s:List UInt8}{c:Int}{args:List V}(h:LQ F (Af [Sh.str,Sh.int .u8] (s,c)) args):args=[.str s,.int .u8 c]:=by
 have:=h (fun _=>none) 0;simp only[Af,Cb,Bc]at this;obtain⟨a,as1,rfl,h1,b,as2,rfl,h2,rfl⟩:=this;simp only[PR,DC,List.cons.injEq,wn]at h1 h2;rw[h1,h2]
theorem T316.ok:Ag Bg 316 pP:=by
 refine .inr ⟨PK.indexByte.run,by kernel_rfl,fun F h args i ha hp=>?_⟩;obtain⟨s,c⟩:=i;have:=sD ha;subst this;refine⟨Ug (s.findIdx? fun x=>x==c.toNat.toUInt8),rfl,fun ρ N=>?_⟩;show PR F ρ N (.dat i64 (Oa s c)) _;unfold Oa;cases s.findIdx? fun x=>x==c.toNat.toUInt8 with
 |none=>simp[PR,DC,Ug]
 |some i=>simp[PR,DC,Ug,Det.i64]
theorem kY:DM XH2:=Ab T316.ok AP
theorem VG{p:UInt8->Bool}{s:List UInt8}{i:Nat}(h:s.findIdx? p=some i):i<s.length:=(List.findIdx?_eq_some_iff_getElem.1 h).1
theorem T150.ok:Ag Bg 150 iY:=by
 refine B1 kY (fun(i:List UInt8×List UInt8) hi=>?_);obtain⟨s,t⟩:=i;have hi:(decide (t=[47])&&decide (s.length<=1000000))=true:=hi;rw[zl,w5,w5]at hi;obtain⟨rfl,hl⟩:=hi;have hany:s.any (fun x=>x==47)=(s.findIdx? fun x=>x==47).isSome:=by
  rw[List.findIdx?_isSome]
 refine yw (T150.Am s [47]) (yd (by decide) (zt (fun c=>?_) (fun c=>ze (by decide) (ze (by decide) (ze (by decide) ?_)))))
 ·have c:s=[47]:=by
   have:[47]=s:=by simpa using c
   exact this.symm
  subst c;exact ze rfl (ze rfl (ze rfl (zp (y9 rfl rfl rfl))))
 ·have ei:Oa s (((([47]:List UInt8).getD 0 0).toNat:Nat):Int)=match s.findIdx? (fun x=>x==47)with
   |some i=>(i:Int)
   |none=> -1:=rfl
  cases hf:s.findIdx? (fun x=>x==47)with
  |none=>
   rw[hf]at ei;have ei:Oa s (((([47]:List UInt8).getD 0 0).toNat:Nat):Int)= -1:=ei;rw[ei];refine yd (by decide) (zp (y9 rfl rfl ?_));show(s,[],false)=(Ay s,Sp.AM s,Bn s);unfold Ay Sp.AM Bn;rw[hany,hf];rfl
  |some k=>
   rw[hf]at ei;have ei:Oa s (((([47]:List UInt8).getD 0 0).toNat:Nat):Int)=(k:Int):=ei;have hk:=VG hf;have e1:zh .i64 ((k:Int)+(([47]:List UInt8).length:Int))=((k+1:Nat):Int):=by
    show zh .i64 ((k:Int)+1)=_;rw[wr _ (by omega) (by omega)];omega
   rw[ei,e1,zj,zj];refine ze (by simp) (ze (by simp;omega) (ze (by simp;omega) (zp (y9 rfl rfl ?_))));show(s.take k,(s.drop (k+1)).take (j9 s.length (k+1)),true)=(Ay s,Sp.AM s,Bn s);unfold Ay Sp.AM Bn;have e2:(s.drop (k+1)).take (j9 s.length (k+1))=s.drop (k+1):=zq (by rw[qk];exact Nat.le_refl _);rw[hany,hf,e2];rfl
end Go.Pe
