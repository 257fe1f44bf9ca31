import Derived.Test.YtmcnicakonagdaaGreatDoorX11
import Derived.Test.YtmcnicakonagdaaGreatDoorX10
/- A part of a proof (no law is stated here). Made by program out of texts by AI agents. -/
set_option maxRecDepth 10000
open Go.Sp renaming val -> zc, B9 -> ze, vI -> zl, A2 -> jl, sg -> j0
open Go.Pe.Ends renaming tt -> zd, leaf -> zm, ite -> zp, Aq -> zq, ff -> z8, eq -> yt
open Go.IntKind renaming wrap -> zf
open Int renaming toNat_natCast -> zg, mul_le_mul_of_nonneg_left -> zh, mul_le_mul_of_nonneg_right -> zk, le_of_lt -> zo, mul_add -> zr, tdiv_eq_ediv_of_nonneg -> zt, pow_succ -> zu, mul_comm -> zw, tmod_eq_emod_of_nonneg -> zx, lt_of_mul_lt_mul_left -> zy, mul_left_comm -> ya, mul_nonneg -> yb, lt_or_le -> yc, mul_assoc -> yd, pow_zero -> yf, one_mul -> yh, emod_lt_of_pos -> yi, mul_ediv_add_emod -> yk, emod_nonneg -> yn, ediv_emod_unique -> yo, tdiv -> yq, mul_one -> yr, mul_lt_mul_of_pos_right -> yv, mul_sub -> yw, pow_pos -> yx, fdiv_eq_ediv_of_nonneg -> yy, mul_zero -> y7, lt_of_lt_of_le -> qd, eq_ofNat_of_zero_le -> qe, ediv_eq_zero_of_lt -> qf, ediv_lt_of_lt_mul -> qg, ediv_nonneg -> ql, add_zero -> qp, mul_lt_mul_of_pos_left -> qu, tmod -> qv, le_refl -> qx, add_assoc -> qy, mul_ediv_cancel_left -> q9, zero_mul -> jg, sub_mul -> jm, pow_add -> jo, mul_neg -> jz
open Bool renaming and_eq_true -> zi, true_and -> jc
open List renaming replicate -> zj, take_of_length_le -> zn, length_take -> zz, append_assoc -> z6, length_eq_zero_iff -> z7, getD_eq_getElem?_getD -> yj, dropWhile_cons -> yp, take_append_drop -> yu, take_length -> y8, mem_singleton -> qc, length_drop -> qh, mem_cons -> qi, replicate_succ' -> qj, mem_append -> qk, append_nil -> qm, dropLast_concat_getLast -> qn, nil_append -> qo, length_append -> qq, drop_drop -> qt, getLast?_eq_getElem? -> qw, getElem?_eq_getElem -> qz, drop_length -> je, all_reverse -> jf, length_eq_one_iff -> ji, drop_eq_nil_of_le -> jk, take_left -> jt
open Nat renaming min_eq_left -> ye, add_sub_cancel -> y9, add_comm -> jh, gcd_comm -> jj, zero_add -> j5, sub -> j6, add -> j7, gcd -> j8
open BitVec renaming ofInt -> yg
open Go.Pe.Ad renaming of -> yz
namespace Go.Pe
open Sp
open Go.Det
namespace T221
variable {Q:PV->Ob->Prop}
theorem Abj(q x:Int):QH q x*18446744073709551616+Ih q x=q*x/\0<=Ih q x/\Ih q x<18446744073709551616:=by
 unfold QH Ih;generalize q*x=P;omega
theorem CA(v9:Int)(v10:List Int)(v11n:Nat)(v12:Int)(v13n:Nat)(o1 o0:List Int)(v0c:Nat)(v:List Int)(k j:Nat)(lo:List Int)(m:Nat)(r0 o1':List Int)
  (hn:v.length=k+2) (hn9:k+2<=9000) (hm:k+3<=m) (hlo:lo.length=j) (hjv:j<v13n) (hj1:j<o1'.length) (hv:Aw Ai v)
  (hr:r0.length=m) (hd:Aw Ai r0) (hz:zc Ai (r0.drop (k+3))=0) (hv1:1<=v.getD (k+1) 0)
  (hfin:∀(q:Int) (r:List Int),r.length=m->Aw Ai r->(0<=q/\q<18446744073709551616)->zc Ai r<zc Ai v->zc Ai r=zc Ai r0-q*zc Ai v->Ends JA (L4 v9 v10 v11n v12 v13n (zf .i64 ((j:Int)-1)) (o1'.set j q) (lo++r)) Q):
  ∀(f:Nat) (q r o:Int),0<=q->q<f->q<18446744073709551616->Sp.u64 r=true->(o=0\/o=1)->q*v.getD (k+1) 0+(r+18446744073709551616*o)=r0.getD (k+2) 0*18446744073709551616+r0.getD (k+1) 0->zc Ai r0<(q+1)*zc Ai v->
   Ends JA (L5 v9 v10 v11n v12 v13n j o1 o0 j (k+3) v0c v ((k+2:Nat):Int) q r o o1' (lo++r0)) Q
 |0,q,r,o,h0,hf,_,_,_,_,_=>by omega
 |f+1,q,r,o,h0,hf,hB,hr64,ho,he,hup=>by
  have uq:Sp.u64 q=true:=CJ h0 hB;have uv2:=AS hv k;have uv1:=AS hv (k+1);have uu2:=AS hd k;have gv2:=jl uv2;have gv1:=jl uv1;have gu2:=jl uu2;have gr:=jl hr64;have hP:=AO (b:=Ai) (by decide) k;have hW:=nG Ai r0 k (by omega) hz;have hV:=mQ Ai v k hn;have hu':=AA (b:=Ai) (by decide) (AM hd k);have hu'':=Bu (b:=Ai) (by decide) (AM hd k);have hv':=AA (b:=Ai) (by decide) (AM hv k);have hv'':=Bu (b:=Ai) (by decide) (AM hv k);rw[zz,ye (by omega)]at hu'' hv'';have exit:q*v.getD k 0<=(r+18446744073709551616*o)*18446744073709551616+r0.getD k 0->Ends JA (L7 v9 v10 v11n v12 v13n j o1 o0 j (k+3) v0c v ((k+2:Nat):Int) q 0 0 ((k+2:Nat):Int) 0 o1' (lo++r0)) Q:=by
   intro hx;refine lY v9 v10 v11n v12 v13n o1 o0 v0c v (k+2) j lo m r0 o1' hn hn9 hm hlo hjv hj1 hv hr hd hz hfin q uq hup ?_;rw[hW,hV];exact Ud hP ⟨hv',hv''⟩ hu' ⟨h0,hB⟩ hv1 gv2.1 he hx
  have e1:zf .i64 (((k+2:Nat):Int)-2)=(k:Int):=by rw[wr _ (by omega) (by omega)];omega
  have e2:zf .i64 (((k+2:Nat):Int)-1)=((k+1:Nat):Int):=by rw[wr _ (by omega) (by omega)];omega
  obtain⟨w1,w2,w3⟩:=Abj q (v.getD k 0);have hlw:decide (j7 k j<(lo++r0).length)=true:=lw hlo (by omega);refine zq (Es ..) (zp (fun c=>?_) (fun c=>?_))
  ·have c:o=0:=by simpa using c
   subst c;rw[e1,e2,zg,zg,gw hlo];refine zd (by simp;omega) (zd (Aa uq uv2) ?_);have dec:r*18446744073709551616+r0.getD k 0<q*v.getD k 0->Ends JA (L5 v9 v10 v11n v12 v13n j o1 o0 j (k+3) v0c v ((k+2:Nat):Int) (zf .u64 (q-1)) (HW r (v.getD (k+1) 0) 0) (NX r (v.getD (k+1) 0) 0) o1' (lo++r0)) Q:=by
    intro hx;obtain⟨a1,a2,a3⟩:=LM hr64 uv1 (c:=0) (by decide);have hq1:1<=q:=by
     rcases yc 0 q with g|g
     ·exact g
     ·have:q=0:=by omega
      subst this;rw[jg]at hx;omega
    rw[wu (q-1) (by omega) (by omega)];refine CA v9 v10 v11n v12 v13n o1 o0 v0c v k j lo m r0 o1' hn hn9 hm hlo hjv hj1 hv hr hd hz hv1 hfin f (q-1) _ _ (by omega) (by omega) (by omega) a1 (by omega) ?_ ?_
    ·rw[jm,yh,a3];omega
    ·have he':q*v.getD (k+1) 0+r=r0.getD (k+2) 0*18446744073709551616+r0.getD (k+1) 0:=by omega
     have:=Vk (B:=Ai) (u0:=r0.getD (k+2) 0) (u1:=r0.getD (k+1) 0) (u2:=r0.getD k 0) hP hv' hu'' h0 (v1:=v.getD (k+1) 0) (v2:=v.getD k 0) (r:=r) he' hx;rw[<-hW, <-hV]at this;rw[show q-1+1=q by omega];exact this
   refine zp (fun c1=>exit ?_) (fun c1=>zp (fun c2=>zd (by simp;omega) (zd hlw (zp (fun c3=>exit ?_) (fun c3=>zd (by simp;omega) (zd (Aa (Aa (Aa hr64 uv1) rfl) rfl) (dec ?_)))))) (fun c2=>zd (by simp;omega) (zd (Aa (Aa (Aa hr64 uv1) rfl) rfl) (dec ?_))))
   ·have c1:=w6 c1;omega
   ·have c2:QH q (v.getD k 0)=r:=by simpa using c2
    have c3:=w6 c3;omega
   ·have c2:QH q (v.getD k 0)=r:=by simpa using c2
    have c3:=w7 c3;omega
   ·have c1:=w7 c1;have c2:QH q (v.getD k 0)≠r:=by simpa using c2
    omega
  ·have c:o≠0:=by simpa using c
   refine exit ?_;have a:=zh (show v.getD k 0<=18446744073709551615 by omega) h0;omega
theorem BX(s:Int)(v:List Int)(k la:Nat)(hn:v.length=k+2)(hla:la<=9000)(hkl:k+2<=la)(hv:Aw Ai v)(hv1:1<=v.getD (k+1) 0)(W0:Int)
  (hq:∀u qs:List Int,u.length=la+1->Aw Ai u->Aw Ai qs->zc Ai u<zc Ai v->qs.length=la-(k+2)+1->W0=zc Ai u+zc Ai v*zc Ai qs->Ends JA (L6 s (la+1) ((k+2:Nat):Int) (la-(k+2)+1) ((k+2:Nat):Int) 0 qs u) Q):
  ∀(t:Nat) (u qs:List Int),t+qs.length=la-(k+2)+1->u.length=la+1->Aw Ai u->Aw Ai qs->zc Ai (u.drop t)<zc Ai v->W0=zc Ai u+zc Ai v*((Ai:Int)^t*zc Ai qs)->
   Ends JA (L4 s v (la+1) ((k+2:Nat):Int) (la-(k+2)+1) ((t:Int)-1) (zj t 0++qs) u) Q
 |0,u,qs,hl,hu,hd,hdq,hlt,he=>by
  refine zq (CT ..) (z8 (by simp) ?_);exact hq u qs hu hd hdq hlt (by omega) (by rw[he,yf,yh])
 |j+1,u,qs,hl,hu,hd,hdq,hlt,he=>by
  obtain⟨lo,r,rfl,hlo⟩:∃lo r:List Int,u=lo++r/\lo.length=j:=⟨u.take j,u.drop j,(yu j u).symm,by rw[zz];omega⟩;have hdlo:Aw Ai lo:=fun d hd'=>hd d (qk.2 (.inl hd'))
  have hdr:Aw Ai r:=fun d hd'=>hd d (qk.2 (.inr hd'))
  have hrl:r.length=la+1-j:=by rw[qq]at hu;omega
  have hdrop:∀z:List Int,(lo++z).drop j=z:=fun z=>by rw[<-hlo];exact List.drop_left
  have hr0:r=r.getD 0 0::r.drop 1:=by
   have:=Ch (l:=r) (i:=0) (by omega);rw[List.drop_zero]at this;exact this
  have hd1:(lo++r).drop (j+1)=r.drop 1:=by rw[jh j 1,jh 1 j, <-qt,hdrop]
  rw[hd1]at hlt;have g0:=J1 (b:=Ai) (by decide) hdr 0;have hvr:zc Ai r=r.getD 0 0+18446744073709551616*zc Ai (r.drop 1):=by
   conv=>lhs;rw[hr0]
   rfl
  have hVlt:=Bu (b:=Ai) (by decide) hv;rw[hn]at hVlt;have g0:0<=r.getD 0 0/\r.getD 0 0<18446744073709551616:=g0;have hrV:zc Ai r<18446744073709551616*zc Ai v:=by rw[hvr];omega
  have hz:zc Ai (r.drop (k+3))=0:=by
   refine Jq (b:=Ai) (by decide) hdr (by omega) ?_;have ep:(Ai:Int)^(k+3)=(Ai:Int)^(k+2)*18446744073709551616:=zu ..;rw[ep];omega
  have uu0:=AS hdr (k+2);have uu1:=AS hdr (k+1);have uu2:=AS hdr k;have uv1:=AS hv (k+1);have gu0:=jl uu0;have gu1:=jl uu1;have gu2:=jl uu2;have gv1:=jl uv1;have gv2:=jl (AS hv k);have hP:=AO (b:=Ai) (by decide) k;have hW:=nG Ai r k (by omega) hz;have hV:=mQ Ai v k hn;have hu':=AA (b:=Ai) (by decide) (AM hdr k);have hu'':=Bu (b:=Ai) (by decide) (AM hdr k);have hv':=AA (b:=Ai) (by decide) (AM hv k);rw[zz,ye (by omega)]at hu'';have hle:r.getD (k+2) 0<=v.getD (k+1) 0:=by
   have a1:=Cj Ai (r.drop 1) (k+1) (by rw[qh];omega);have a2:(r.drop 1).drop (k+1)=r.getD (k+2) 0::r.drop (k+3):=by
    rw[qt,show 1+(k+1)=k+2 by omega];exact Ch (by omega)
   have a3:zc Ai (r.getD (k+2) 0::r.drop (k+3))=r.getD (k+2) 0:=by
    show r.getD (k+2) 0+(Ai:Int)*zc Ai (r.drop (k+3))=_;rw[hz];omega
   rw[a2,a3]at a1;have b1:zc Ai v=zc Ai (v.take (k+1))+(Ai:Int)^(k+1)*v.getD (k+1) 0:=by
    rw[<-AE,zn (by omega)]
   have b2:=Bu (b:=Ai) (by decide) (AM hv (k+1));rw[zz,ye (by omega)]at b2;have c1:=AA (b:=Ai) (by decide) (AM (EH hdr 1) (k+1));have c2:(Ai:Int)^(k+1)*r.getD (k+2) 0<(Ai:Int)^(k+1)*(v.getD (k+1) 0+1):=by
    rw[zr,yr];omega
   have:=zy c2 (zo (AO (by decide) (k+1)));omega
  have hfin:∀(q:Int) (r':List Int),r'.length=la+1-j->Aw Ai r'->(0<=q/\q<18446744073709551616)->zc Ai r'<zc Ai v->zc Ai r'=zc Ai r-q*zc Ai v->Ends JA (L4 s v (la+1) ((k+2:Nat):Int) (la-(k+2)+1) (zf .i64 ((j:Int)-1)) ((zj (j+1) 0++qs).set j q) (lo++r')) Q:=by
   intro q r' h1 h2 h3 h4 h5;have es:(zj (j+1) (0:Int)++qs).set j q=zj j 0++(q::qs):=by
    rw[qj,z6];exact Dx _ _ _ _ (by simp)
   rw[es,wr ((j:Int)-1) (by omega) (by omega)];refine BX s v k la hn hla hkl hv hv1 W0 hq j (lo++r') (q::qs) (by simp;omega) (by simp;omega) (EW hdlo h2) (fun d hd'=>?_) (by rw[hdrop];exact h4) ?_
   ·rcases qi.1 hd' with rfl|hd'
    ·exact h3
    ·exact hdq d hd'
   ·rw[he,CX,CX,hlo,h5,K8];show zc Ai lo+(Ai:Int)^j*zc Ai r+zc Ai v*((Ai:Int)^j*(18446744073709551616*zc Ai qs))=zc Ai lo+(Ai:Int)^j*(zc Ai r-q*zc Ai v)+zc Ai v*((Ai:Int)^j*(q+18446744073709551616*zc Ai qs));have x1:zc Ai v*((Ai:Int)^j*q)=(Ai:Int)^j*(q*zc Ai v):=by
     rw[ya,zw (zc Ai v) q]
    rw[yw,zr ((Ai:Int)^j) q,zr (zc Ai v),x1];omega
  have ez:j7 0 j=j:=j5 j;have e0:(((j+1:Nat):Int)-1)=(j:Int):=by omega
  have e1:zf .i64 (zf .i64 ((j:Int)+((k+2:Nat):Int))+1)=((j+(k+3):Nat):Int):=by
   rw[wr ((j:Int)+((k+2:Nat):Int)) (by omega) (by omega),wr _ (by omega) (by omega)];omega
  have e2:zf .i64 (((k+2:Nat):Int)-1)=((k+1:Nat):Int):=by rw[wr _ (by omega) (by omega)];omega
  have e3:j6 (j+(k+3)) j=k+3:=by show j+(k+3)-j=_;omega
  have lw1:decide (j7 (k+2) j<(lo++r).length)=true:=lw hlo (by omega);have lw2:decide (j7 (k+1) j<(lo++r).length)=true:=lw hlo (by omega);rw[e0];refine zq (CT ..) (zd (by simp) ?_);rw[hn,e1,e2,zg,zg,zg,zg,ez,e3,gw hlo,gw hlo];have b1:(decide ((0:Int)<=((k+2:Nat):Int))&&decide (((k+2:Nat):Int)<((k+3:Nat):Int)))=true:=by simp;omega
  have b2:(decide ((0:Int)<=((k+1:Nat):Int))&&decide (((k+1:Nat):Int)<((k+2:Nat):Int)))=true:=by simp;omega
  have b3:(decide ((0:Int)<=((k+1:Nat):Int))&&decide (((k+1:Nat):Int)<((k+3:Nat):Int)))=true:=by simp;omega
  have hjl:j<(zj (j+1) (0:Int)++qs).length:=by simp;omega
  refine zd (by simp;omega) (zd b1 (zd lw1 (zd b2 (zp (fun c=>?_) (fun c=>?_)))))
  ·have c:=w6 c;obtain⟨a1,a2,a3⟩:=LM uu1 uv1 (c:=0) (by decide);refine zd b3 (zd lw2 (zd b2 (zd (Aa (Aa (Aa uu1 uv1) rfl) rfl) ?_)));refine CA s v (la+1) _ _ _ _ _ v k j lo (la+1-j) r _ hn (by omega) (by omega) hlo (by omega) hjl hv hrl hdr hz hv1 hfin 18446744073709551616 _ _ _ (by decide) (by decide) (by decide) a1 (by omega) ?_ ?_
   ·rw[a3];omega
   ·exact hrV
  ·have c:=w7 c;obtain⟨d1,d2,d3,d4,d5⟩:=dqr (r:=r.getD (k+2) 0) (x:=r.getD (k+1) 0) (d:=v.getD (k+1) 0) (by omega) (by omega) gu1;refine zd b1 (zd lw1 (zd b3 (zd lw2 (zd b2 (zd (Aa (Aa (Aa uu0 uu1) uv1) (w4 (by omega))) ?_)))));refine CA s v (la+1) _ _ _ _ _ v k j lo (la+1-j) r _ hn (by omega) (by omega) hlo (by omega) hjl hv hrl hdr hz hv1 hfin 18446744073709551616 _ _ _ d2 d3 d3 (CJ d4 (by omega)) (.inl rfl) ?_ ?_
   ·rw[<-d1];omega
   ·rw[hW,hV];exact MY hP (by decide) d2 hv' gv2.1 hu'' gu2.2 d1 d5
end T221
theorem UG{a b:Int}{s:Nat}(ha:0<=a)(hb:0<=b)(h:b<2^s)(hm:a*2^s+b<18446744073709551616):aU .u64 b (a*2^s)=a*2^s+b:=by
 have:=XF ha hb h hm;rw[<-this];show zf .u64 (((yg 64 b|||yg 64 (a*2^s)).toNat:Nat):Int)=zf .u64 (((yg 64 (a*2^s)|||yg 64 b).toNat:Nat):Int);rw[BitVec.or_comm]
theorem Xo{s:Nat}(hs:s<=63):(18446744073709551616:Int)=2^s*2^(64-s):=by rw[<-jo,show s+(64-s)=64 by omega];rfl
namespace T221
variable {Q:PV->Ob->Prop}
theorem ET(s:Nat)(hs:s<=63)(la n m:Nat)(hn:n<=la)(hla:la<=9000)(u qs:List Int)(hu:u.length=la+1)(hd:Aw Ai u)(hz:zc Ai (u.drop n)=0)(hm:qs.length=m)(hm9:m<=9000)(hdq:Aw Ai qs)
  (hq:∀(w:List Int) ob,Aw Ai w->zc Ai w=zc Ai u/2^s->Q (.tup [.dat Dq (Av qs),.dat Dq (Av w)]) ob):
  ∀(k i:Nat) (p:List Int),i+k=n->p.length=i->Aw Ai p->zc Ai p+(Ai:Int)^i*(zc Ai (u.drop i)/2^s)=zc Ai u/2^s->
   Ends JA (L6 s (la+1) n m n i qs (p++u.drop i)) Q
 |0,i,p,hi,hp,hdp,he=>by
  have hi:i=n:=by omega
  subst hi;have ht:(p++u.drop i).take i=p:=by rw[<-hp];exact jt
  have ht2:qs.take m=qs:=zn (by omega);rw[hz,Int.zero_ediv,y7,qp]at he;refine zq (Fi ..) (z8 (by simp) ?_);rw[zg,ht,ht2];refine zd (by simp;omega) (zd (Aa (by simp;omega) (Ej (by omega) hdq)) (zd (Aa (by simp;omega) (Ej (by omega) hdp)) (zm (hq p _ hdp he))))
 |k+1,i,p,hi,hp,hdp,he=>by
  have d1:=Ch (l:=u) (i:=i) (by omega);have d2:=Ch (l:=u) (i:=i+1) (by omega);have gx:=jl (AS hd i);have gy:=jl (AS hd (i+1));have g1:(p++u.drop i).getD i 0=u.getD i 0:=by rw[d1];exact DD _ _ _ _ hp
  have s1:∀z,(p++u.drop i).set i z=p++z::u.drop (i+1):=fun z=>by rw[d1];exact Dx _ _ _ _ hp
  have s2:∀z x,(p++z::u.drop (i+1)).set i x=(p++[x])++u.drop (i+1):=fun z x=>by rw[Dx _ _ _ _ hp,z6];rfl
  have g2:∀z,(p++z::u.drop (i+1)).getD i 0=z:=fun z=>DD _ _ _ _ hp
  have g3:∀z,(p++z::u.drop (i+1)).getD (i+1) 0=u.getD (i+1) 0:=fun z=>by
   rw[d2,show p++z::u.getD (i+1) 0::u.drop (i+1+1)=(p++[z])++u.getD (i+1) 0::u.drop (i+1+1)by rw[z6];rfl];exact DD _ _ _ _ (by simp[hp])
  have hlen:∀z,(p++z::u.drop (i+1)).length=la+1:=fun z=>by simp;omega
  have hlen0:(p++u.drop i).length=la+1:=by simp;omega
  have e2:zf .i64 ((i:Int)+1)=((i+1:Nat):Int):=by rw[wr _ (by omega) (by omega)];omega
  have e3:zf .i64 ((64:Int)-(s:Int))=((64-s:Nat):Int):=by rw[wr _ (by omega) (by omega)];omega
  have em:Min.min s 64=s:=by omega
  have em2:Min.min (64-s) 64=64-s:=by omega
  have hB:=Xo hs;have hc:(0:Int)<2^s:=yx (by decide);have hd':(0:Int)<2^(64-s):=yx (by decide);have efd:Int.fdiv (u.getD i 0) ((2:Int)^s)=u.getD i 0/2^s:=yy _ (zo hc);have a0:0<=u.getD i 0/2^s:=ql gx.1 (zo hc);have a1:u.getD i 0/2^s<2^(64-s):=qg hc (by rw[zw, <-hB];exact gx.2);have m0:=yn (u.getD (i+1) 0) (show(2:Int)^s≠0 by omega);have m1:=yi (u.getD (i+1) 0) hc;have p0:0<=(u.getD (i+1) 0 % 2^s)*2^(64-s):=yb m0 (zo hd');have p1:(u.getD (i+1) 0 % 2^s)*2^(64-s)<=18446744073709551616-2^(64-s):=by
   have:=zk (show u.getD (i+1) 0 % 2^s<=2^s-1 by omega) (zo hd');rw[jm,yh, <-hB]at this;exact this
  have hnew:0<=u.getD i 0/2^s+(u.getD (i+1) 0 % 2^s)*2^(64-s)/\u.getD i 0/2^s+(u.getD (i+1) 0 % 2^s)*2^(64-s)<18446744073709551616:=by omega
  have ewy:zf .u64 (u.getD (i+1) 0*2^(64-s))=(u.getD (i+1) 0 % 2^s)*2^(64-s):=by
   rw[La];exact(Um (b:=18446744073709551616) (c:=2^(64-s)) (d:=2^s) (k:=0) hd' hc (by rw[hB,zw]) ⟨qx _,hd'⟩ gy).1
  have eio:aU .u64 (u.getD i 0/2^s) ((u.getD (i+1) 0 % 2^s)*2^(64-s))=u.getD i 0/2^s+(u.getD (i+1) 0 % 2^s)*2^(64-s):=by
   rw[UG m0 a0 a1 (by omega),Int.add_comm]
  have next:∀z,z=u.getD i 0/2^s+(u.getD (i+1) 0 % 2^s)*2^(64-s)->Ends JA (L6 s (la+1) n m n ((i+1:Nat):Int) qs ((p++[z])++u.drop (i+1))) Q:=by
   intro z hz';refine ET s hs la n m hn hla u qs hu hd hz hm hm9 hdq hq k (i+1) (p++[z]) (by omega) (by simp[hp]) (D5 hdp (by rw[hz'];exact CJ hnew.1 hnew.2)) ?_;rw[<-he,E6,hp,K8,qy, <-zr];congr 2;have:=cU (b:=18446744073709551616) (c:=2^s) (d:=2^(64-s)) (x:=u.getD i 0) (y:=u.getD (i+1) 0) (X:=zc Ai (u.drop (i+1+1))) hc hB;rw[hz',d1,d2];exact this.symm
  have b1:(decide ((0:Int)<=(i:Int))&&decide ((i:Int)<((la+1:Nat):Int)))=true:=by simp;omega
  have b2:(decide ((0:Int)<=((i+1:Nat):Int))&&decide (((i+1:Nat):Int)<((la+1:Nat):Int)))=true:=by simp;omega
  refine zq (Fi ..) (zd (by simp;omega) ?_);rw[e2,e3,zg,zg,zg,zg,em,em2,g1,efd,s1,g2,g3,s2,ewy,eio,hlen,hlen0];refine zd b1 (zd (w4 (by omega)) (zd (by simp) (zd b1 (zd (w4 (by omega)) (zp (fun c=>zd (by simp;omega) (zd b1 (zd (w4 (by omega)) (zd b2 (zd (w4 (by omega)) (zd (by simp) (zd b1 (zd (w4 (by omega)) (next _ rfl))))))))) (fun c=>?_))))));have c:=w7 c;have hs0:s=0:=by omega
  subst hs0;rw[show ∀z:Int,p++z::u.drop (i+1)=(p++[z])++u.drop (i+1)from fun z=>by rw[z6];rfl];refine next _ ?_;rw[yf,Int.emod_one,jg,qp]
theorem RQ{X:A6}{F:Int->List Int->Tr}(w:List Int)(s:Nat)(hs:s<=63)(hd:Aw Ai w)
  (DJ:∀(i:Nat) (o:List Int),i<w.length->o.length=w.length+1->Ends X (F ((i+1:Nat):Int) (if 0<s then(o.set i (aU .u64 (o.getD i 0) (zf .u64 (w.getD i 0*2^s)))).set (i+1) (Int.fdiv (w.getD i 0) (2^(64-s)))else o.set i (aU .u64 (o.getD i 0) (zf .u64 (w.getD i 0*2^s))))) Q->Ends X (F i o) Q)
  (hend:∀o:List Int,o.length=w.length+1->Aw Ai o->zc Ai o=2^s*zc Ai w->Ends X (F w.length o) Q):
  ∀(k i:Nat) (p:List Int) (c:Int),i+k=w.length->p.length=i->Aw Ai p->(0<=c/\c<2^s)->zc Ai p+(Ai:Int)^i*c=2^s*zc Ai (w.take i)->Ends X (F i (p++c::zj k 0)) Q
 |0,i,p,c,hi,hp,hdp,hc,he=>by
  have hi:i=w.length:=by omega
  subst hi;have hP:(2:Int)^s<=18446744073709551616:=by
   have:=Xo hs;have h1:(1:Int)<=2^(64-s):=yx (by decide);have h2:=zh h1 (show(0:Int)<=2^s from zo (yx (by decide)));omega
  rw[y8]at he;refine hend _ (by simp[hp]) (D5 hdp (CJ hc.1 (by omega))) ?_;rw[<-he];show zc Ai (p++[c])=_;rw[E6,hp]
 |k+1,i,p,c,hi,hp,hdp,hc,he=>by
  have gx:=jl (AS hd i);have hB:=Xo hs;have h2s:(0:Int)<2^s:=yx (by decide);have h2d:(0:Int)<2^(64-s):=yx (by decide);obtain⟨s1,s2,s3,s4,s5,s6⟩:=Um (b:=18446744073709551616) (c:=2^s) (d:=2^(64-s)) (x:=w.getD i 0) (k:=c) h2s h2d hB hc gx;have efd:Int.fdiv (w.getD i 0) ((2:Int)^(64-s))=w.getD i 0/2^(64-s):=yy _ (zo h2d);have g1:(p++c::zj (k+1) 0).getD i 0=c:=DD _ _ _ _ hp;have st:∀z:Int,(p++c::zj (k+1) 0).set i z=p++z::zj (k+1) 0:=fun z=>Dx _ _ _ _ hp
  have st2:∀z y:Int,(p++z::zj (k+1) 0).set (i+1) y=(p++[z])++y::zj k 0:=fun z y=>by
   rw[show p++z::zj (k+1) (0:Int)=(p++[z])++0::zj k 0 by rw[z6];rfl];exact Dx _ _ _ _ (by simp[hp])
  have eio:aU .u64 c ((w.getD i 0 % 2^(64-s))*2^s)=(w.getD i 0 % 2^(64-s))*2^s+c:=UG (yn _ (by omega)) hc.1 hc.2 s2;have go:=RQ w s hs hd DJ hend k (i+1) (p++[(w.getD i 0 % 2^(64-s))*2^s+c]) (w.getD i 0/2^(64-s)) (by omega) (by simp[hp]) (D5 hdp (CJ (by omega) s2)) ⟨s4,s5⟩ (by
   rw[E6,hp,K8,AE,zr (2^s), <-he,qy,qy, <-zr,ya (2^s), <-zr];congr 2;rw[zw (2^s)];omega)
  refine DJ i _ (by omega) (by simp;omega) ?_;rw[La,s1,efd,g1,eio,st,st2];by_cases h0:0<s
  ·rw[wd h0];exact go
  ·have hs0:s=0:=by omega
   subst hs0;have hz:w.getD i 0/2^(64-0)=0:=qf gx.1 gx.2;rw[hz]at go;rw[wc h0,show ∀z:Int,p++z::zj (k+1) (0:Int)=(p++[z])++0::zj k 0 from fun z=>by rw[z6];rfl];exact go
end T221
theorem pG:Ey JA:=
 Ab T199.ok (Ab T218.ok (Ab T187.ok (Ab T217.ok (Ab T233.ok (Ab bN (Ab T256.ok AU))))))
theorem Kg{w:List Int}(hd:Aw Ai w)(hn:Sp.nz w){k:Nat}(hl:w.length=k+1):0<w.getD k 0/\w.getD k 0<18446744073709551616:=by
 have g:=jl (AS hd k);refine⟨?_,g.2⟩;have e:w.getLast?=some (w.getD k 0):=by
  rw[qw,hl,y9,yj,qz (by omega)];rfl
 unfold Sp.nz at hn;rw[e]at hn;have:w.getD k 0≠0:=fun h=>hn (by rw[h])
 omega
namespace T221
set_option maxHeartbeats 1000000 in
theorem ok:Ag Bi 221 Gw:=by
 refine Cc pG (fun(i:List Int×List Int) hi=>?_);obtain⟨a,b⟩:=i;have hi:(Cf a&&Cf b&&decide (a.length<=9000)&&decide (b.length<=9000)&&decide (0<Am b))=true:=hi;rw[zi,zi,zi,zi,w5,w5,w5]at hi;obtain⟨⟨⟨⟨na,nb⟩,la9⟩,lb9⟩,hb0⟩:=hi;obtain⟨_,da,za⟩:=EV na;obtain⟨_,db,zb⟩:=EV nb;have hb0:0<zc Ai b:=hb0;have ha0:=AA (b:=Ai) (by decide) da;have hg:∀q r ob,q=Bw (Am a/Am b)->r=Bw (Am a % Am b)->Ad Gw (a,b) (PV.tup [PV.dat Dq q,PV.dat Dq r]) ob:=fun q r ob e1 e2=>yz rfl rfl (Prod.ext e1 e2)
 have fin:∀(q r:List Int) ob,Aw Ai q->Aw Ai r->zc Ai a=zc Ai q*zc Ai b+zc Ai r->zc Ai r<zc Ai b->Ad Gw (a,b) (PV.tup [PV.dat Dq (Av q),PV.dat Dq (Av r)]) ob:=by
  intro q r ob dq dr he hr;have hr0:=AA (b:=Ai) (by decide) dr;obtain⟨u1,u2⟩:=(yo (a:=zc Ai a) (b:=zc Ai b) (r:=zc Ai r) (q:=zc Ai q) hb0).2 ⟨by rw[zw (zc Ai b)];omega,hr0,hr⟩;refine hg _ _ ob ?_ ?_
  ·rw[Km dq];show Bw (zc Ai q)=Bw (zc Ai a/zc Ai b);rw[u1]
  ·rw[Km dr];show Bw (zc Ai r)=Bw (zc Ai a % zc Ai b);rw[u2]
 have hbne:b≠[]:=by rintro rfl;simp[zc]at hb0
 have hblen:b.length≠0:=fun h=>hbne (z7.1 h)
 refine yt (An a b) (zd (by rw[na,nb];rfl) (zp (fun c=>?_) (fun c=>?_)))
 ·have c:=w6 c;have hlt:zc Ai a<zc Ai b:=by
   unfold Co at c;have c:(if zc Ai a<zc Ai b then(-1:Int)else if zc Ai a>zc Ai b then 1 else 0)<0:=c;split at c
   ·assumption
   ·split at c<;>omega
  refine zm (yz rfl rfl ?_);show([],a)=(Bw (zc Ai a/zc Ai b),Bw (zc Ai a % zc Ai b));rw[qf ha0 hlt,Int.emod_eq_of_lt ha0 hlt];exact Prod.ext rfl (Ix (by decide) da za)
 ·have c:=w7 c;have hge:zc Ai b<=zc Ai a:=by
   rcases yc (zc Ai a) (zc Ai b)with g|g
   ·have:Co (Am a) (Am b)= -1:=wd g;omega
   ·exact g
  have hll:b.length<=a.length:=by
   rcases Nat.lt_or_ge a.length b.length with g|g
   ·have:=EJ (b:=Ai) (by decide) da db zb g;omega
   ·exact g
  refine zp (fun c1=>?_) (fun c1=>?_)
  ·have c1:b.length=1:=by
    have:(b.length:Int)=1:=by simpa using c1
    omega
   obtain⟨d,rfl⟩:=ji.1 c1;have hd:0<d/\d<18446744073709551616:=Kg (k:=0) db zb rfl;have e1:zf .i64 ((a.length:Int)-1)=(a.length:Int)-1:=wr _ (by omega) (by omega);rw[e1,zg];refine zd (by simp;omega) ?_;have:=Ao (Q:=Ad Gw (a,[d])) a d da hd (by omega) (fun q r ob dq dr he=>by
    refine fin q [r] ob dq (fun x hx=>by rw[qc]at hx;subst hx;exact⟨dr.1,by show x<18446744073709551616;omega⟩) ?_ ?_
    ·rw[val_one,val_one];exact he
    ·rw[val_one,val_one];exact dr.2) a.length [] 0 (by simp) (fun x hx=>by cases hx) ⟨qx _,hd.1⟩ (by rw[je];simp[zc])
   rw[qm]at this;exact this
  ·have c1:b.length≠1:=by
    have:(b.length:Int)≠1:=by simpa using c1
    omega
   obtain⟨k,hk⟩:∃k,b.length=k+2:=⟨b.length-2,by omega⟩;obtain⟨y0,y1⟩:=Kg (k:=k+1) db zb hk;obtain⟨s,hs,hs63,hlt,_⟩:=TC y0 y1;have hB:=Xo hs63;have h2s:(0:Int)<2^s:=yx (by decide);have h2d:(0:Int)<2^(64-s):=yx (by decide);have hyd:b.getD (k+1) 0<2^(64-s):=by
    rw[hB,zw (b.getD (k+1) 0)]at hlt;exact zy hlt (zo h2s)
   have hv1:(Ai:Int)^(k+1)<=2^s*zc Ai b:=by
    have a1:=Dk (b:=Ai) (by decide) db zb hbne;rw[hk,show k+2-1=k+1 by omega]at a1;have a2:=zk (show(1:Int)<=2^s by omega) (zo hb0);omega
   have hv2:2^s*zc Ai b<(Ai:Int)^(k+2):=by
    have b1:zc Ai b=zc Ai (b.take (k+1))+(Ai:Int)^(k+1)*b.getD (k+1) 0:=by
     rw[<-AE,zn (by omega)]
    have b2:=Bu (b:=Ai) (by decide) (AM db (k+1));rw[zz,ye (by omega)]at b2;have hp:=AO (b:=Ai) (by decide) (k+1);have b3:zc Ai b<(Ai:Int)^(k+1)*2^(64-s):=by
     have:=zh (show b.getD (k+1) 0+1<=2^(64-s)by omega) (zo hp);rw[zr,yr]at this;omega
    have b4:=qu b3 h2s;have b5:(2:Int)^s*((Ai:Int)^(k+1)*2^(64-s))=(Ai:Int)^(k+2):=by
     rw[ya, <-hB];exact(zu ..).symm
    rw[b5]at b4;exact b4
   have hls:∀o:List Int,Aw Ai o->zc Ai o=2^s*zc Ai b->Aw Ai (Av o)/\(Av o).length=k+2/\zc Ai (Av o)=2^s*zc Ai b/\1<=(Av o).getD (k+1) 0:=by
    intro o ho hv;have hd':=HN ho;have hv':zc Ai (Av o)=2^s*zc Ai b:=by rw[Jp,hv]
    have hl':=gC (b:=Ai) (by decide) hd' (Lg o) (k:=k+1) (by rw[hv'];exact hv1) (by rw[hv'];exact hv2);have:=(Kg hd' (Lg o) hl').1;exact⟨hd',hl',hv',by omega⟩
   have e2:zf .i64 (((k+2:Nat):Int)-1)=((k+1:Nat):Int):=by rw[wr _ (by omega) (by omega)];omega
   have e3:zf .i64 (((k+2:Nat):Int)+1)=((k+3:Nat):Int):=by rw[wr _ (by omega) (by omega)];omega
   have e4:zf .i64 ((a.length:Int)+1)=((a.length+1:Nat):Int):=by rw[wr _ (by omega) (by omega)];omega
   have e5:zf .i64 ((a.length:Int)-((k+2:Nat):Int))=((a.length-(k+2):Nat):Int):=by rw[wr _ (by omega) (by omega)];omega
   have e6:zf .i64 (((a.length-(k+2):Nat):Int)+1)=((a.length-(k+2)+1:Nat):Int):=by rw[wr _ (by omega) (by omega)];omega
   have e7:zf .i64 ((64:Int)-(s:Int))=((64-s:Nat):Int):=by rw[wr _ (by omega) (by omega)];omega
   have em:Min.min s 64=s:=by omega
   have em2:Min.min (64-s) 64=64-s:=by omega
   rw[hk,e2,e3,zg,zg,hs];refine zd (by simp;omega) (zd (CJ (by omega) y1) (zd (by simp;omega) ?_));refine RQ (F:=fun i o=>L2 a b s (k+3) b ((k+2:Nat):Int) i o) b s hs63 db (fun i o hi ho h=>?_) (fun o hol hod hov=>?_) (k+2) 0 [] 0 (by omega) rfl (fun x hx=>by cases hx) ⟨qx _,h2s⟩ (by simp[zc])
   ·have ei:zf .i64 ((i:Int)+1)=((i+1:Nat):Int):=by rw[wr _ (by omega) (by omega)];omega
    have b1:(decide ((0:Int)<=(i:Int))&&decide ((i:Int)<((k+3:Nat):Int)))=true:=by simp;omega
    refine zq (AV ..) (zd (by simp;omega) ?_);rw[ei,e7,zg,zg,zg,zg,em,em2];refine zd (by simp;omega) (zd b1 (zd (w4 (by omega)) (zd (by simp) (zd b1 (zd (w4 (by omega)) (zp (fun c=>zd (by simp) (zd (by simp;omega) (zd (by simp;omega) ?_))) (fun c=>?_)))))))
    ·have c:=w6 c;rw[wd (by omega)]at h;exact h
    ·have c:=w7 c;rw[wc (by omega)]at h;exact h
   obtain⟨vd,vl,vv,v1⟩:=hls o hod hov;have eo:o.take (k+3)=o:=zn (by omega);rw[hk];refine zq (AV ..) (z8 (by simp) ?_);rw[eo,e4,zg,hk,e2,zg,hs];refine zd (Aa (by simp;omega) (Ej (by omega) hod)) (zd (by simp;omega) ?_);refine RQ (F:=fun i o'=>L3 a b s (k+3) b ((k+2:Nat):Int) ((k+2:Nat):Int) o s (a.length+1) a a.length i o' o) a s hs63 da (fun i o' hi ho h=>?_) (fun u hul hud huv=>?_) a.length 0 [] 0 (by omega) rfl (fun x hx=>by cases hx) ⟨qx _,h2s⟩ (by simp[zc])
   ·have ei:zf .i64 ((i:Int)+1)=((i+1:Nat):Int):=by rw[wr _ (by omega) (by omega)];omega
    have b1:(decide ((0:Int)<=(i:Int))&&decide ((i:Int)<((a.length+1:Nat):Int)))=true:=by simp;omega
    refine zq (C5 ..) (zd (by simp;omega) ?_);rw[ei,e7,zg,zg,zg,zg,em,em2];refine zd (by simp;omega) (zd b1 (zd (w4 (by omega)) (zd (by simp) (zd b1 (zd (w4 (by omega)) (zp (fun c=>zd (by simp) (zd (by simp;omega) (zd (by simp;omega) ?_))) (fun c=>?_)))))))
    ·have c:=w6 c;rw[wd (by omega)]at h;exact h
    ·have c:=w7 c;rw[wc (by omega)]at h;exact h
   refine zq (C5 ..) (z8 (by simp) ?_);rw[eo,vl,e5,e6,zg,hk,e2,zg,hs];refine zd (by simp;omega) ?_;have hpn:=AO (b:=Ai) (by decide) (a.length-(k+2)+1);have start:zc Ai (u.drop (a.length-(k+2)+1))<zc Ai (Av o):=by
    have a1:=Cj Ai u (a.length-(k+2)+1) (by omega);have a2:=AA (b:=Ai) (by decide) (AM hud (a.length-(k+2)+1));have a3:=Bu (b:=Ai) (by decide) da;have a4:=qu a3 h2s;have a5:(Ai:Int)^a.length=(Ai:Int)^(a.length-(k+2)+1)*(Ai:Int)^(k+1):=by rw[<-jo];congr 1;omega
    have a6:=Dk (b:=Ai) (by decide) db zb hbne;rw[hk,show k+2-1=k+1 by omega]at a6;have a7:=zh a6 (zo h2s);have a8:=zh a7 (zo hpn);rw[a5,ya]at a4;rw[vv];refine zy (a:=(Ai:Int)^(a.length-(k+2)+1)) ?_ (zo hpn);omega
   have go:=BX (Q:=Ad Gw (a,b)) s (Av o) k a.length vl la9 (by omega) vd v1 (2^s*zc Ai a) (fun u' qs hul' hud' hdq hlt' hql he=>by
    have hz:zc Ai (u'.drop (k+2))=0:=Jq (b:=Ai) (by decide) hud' (by omega) (by rw[vv]at hlt';omega);refine ET s hs63 a.length (k+2) (a.length-(k+2)+1) (by omega) la9 u' qs hul' hud' hz hql (by omega) hdq (fun w ob hw hwv=>?_) (k+2) 0 [] (by omega) rfl (fun x hx=>by cases hx) (by simp[zc]);have e:zc Ai u'=2^s*(zc Ai a-zc Ai qs*zc Ai b):=by
     rw[vv,yd,zw (zc Ai b)]at he;rw[yw];omega
    have ew:zc Ai w=zc Ai a-zc Ai qs*zc Ai b:=by
     rw[hwv,e];exact q9 _ (by omega)
    refine fin qs w ob hdq hw (by omega) ?_;rw[vv,e]at hlt';have:=zy hlt' (zo h2s);omega) (a.length-(k+2)+1) u [] (by simp) hul hud (fun x hx=>by cases hx) start (by rw[huv];simp[zc])
   rw[qm,show((a.length-(k+2)+1:Nat):Int)-1=((a.length-(k+2):Nat):Int)by omega]at go;exact go
end T221
theorem Rl:Ag Bi 221 Gw:=T221.ok
theorem mS:Ey XF0:=fun g sp h=>by cases h
theorem T121n.ok:Ag Bi 121 Zv:=by
 refine Cc mS (fun(n:Int) _=>?_);refine yt (T121n.An n) (zm (yz rfl rfl ?_));show(n,[])=(n,Ca n);rw[Ek]
theorem nV:Ey yN:=
 Ab T121n.ok (Ab Rl (Ab (T189.ok Fm) (Ab (T190.ok Fm) (Ab T175.ok (Ab T146.ok (Ab T137.ok AU))))))
theorem Xf{m D:Int}(hD:0<D):(m % D=0->(-m)/D= -(m/D)/\(-m) % D=0)/\(m % D≠0->(-m)/D= -(m/D)-1/\(-m) % D=D-m % D):=by
 have e:=yk m D;have r0:=yn m (show D≠0 by omega);have r1:=yi m hD;refine⟨fun h=>?_,fun h=>?_⟩
 ·exact(yo (a:= -m) (b:=D) (r:=0) (q:= -(m/D)) hD).2 ⟨by rw[jz];omega,by omega,by omega⟩
 ·exact(yo (a:= -m) (b:=D) (r:=D-m % D) (q:= -(m/D)-1) hD).2 ⟨by rw[yw,jz,yr];omega,by omega,by omega⟩
theorem qD{m D:Int}(hm:0<=m)(hD:0<D):(0<=m/D/\m/D<=m)/\(0<=m % D/\m % D<=m/\m % D<D):=by
 have e:=yk m D;have q0:0<=m/D:=ql hm (by omega);have q1:m/D<=m:=Int.ediv_le_self _ hm;have r0:=yn m (show D≠0 by omega);have r1:=yi m hD;have:=yb (show 0<=D by omega) q0;exact⟨⟨q0,q1⟩,r0,by omega,r1⟩
theorem YH(n:Bool){v:Int}(h:0<=v):Ae (j0 n v)=v:=by
 rw[DA,Ah];split<;>omega
theorem DO{n:Int}(h:Ae n<(Ai:Int)^9000):Bc (CI n)=true:=by
 have:=Ns h (by omega);unfold Bc;exact Aa this.1 (w4 this.2)
theorem gK{a b:AT}(h:0<zl a+zl b):EC a b=CI (zl a+zl b):=by
 unfold EC;split
 ·next c=>
  have:=En c.2.2;rw[Bp c.1,Bp c.2.1]at h ⊢;exact(B5 (by omega)).symm
 ·rfl
theorem Nv:((1:Int),Ca (1:Int))=CI 1:=by rw[Ek];rfl
namespace T197
theorem Rv{a b:AT}(q:Int)(h: -9223372036854775808<q/\q<9223372036854775808)(hq:Hu a b=CI q\/(-9223372036854775808<q/\Hu a b=Ni (CI (q+1)) (1,[])/\q+1<9223372036854775808)):Hu a b=(q,[]):=by
 rcases hq with hq|⟨h1,hq,h2⟩
 ·rw[hq,B5 h]
 ·rw[hq,B5 (by omega)];unfold Ni De;rw[wd ⟨rfl,by decide⟩];unfold EC;rw[wd ⟨rfl,rfl,DM (by show _<=q+1+ -1;omega) (by show q+1+ -1<_;omega)⟩];show(q+1+ -1,[])=(q,[]);rw[show q+1+ -1=q by omega]
set_option maxHeartbeats 1000000 in
theorem ok:Ag Bi 197 GR:=by
 refine Cc nV (fun(i:(Int×List Int)×(Int×List Int)) hi=>?_);obtain⟨a,b⟩:=i;have hi:(Bc a&&Bc b&&decide (0<zl b))=true:=hi;rw[zi,zi,w5]at hi;obtain⟨⟨ha,hb⟩,hD⟩:=hi;obtain⟨oa,_,na,_,va,ba⟩:=words ha;obtain⟨ob,_,nb,_,vb,bb⟩:=words hb;have eD:Ae (zl b)=zl b:=by rw[Ah];omega
 have hM:=AG (zl a);have eM:Ae (zl a)=if zl a<0 then -zl a else zl a:=rfl
 obtain⟨⟨q0,q1⟩,r0,r1,r2⟩:=qD (D:=zl b) hM hD;obtain⟨z1,z2⟩:=Xf (m:=Ae (zl a)) hD;have hdiv:R0 (Bw (Ae (zl a))) (Bw (Ae (zl b)))=true:=by
  unfold R0;exact Aa (Aa (Aa (Aa na nb) (w4 (JZ hM ba))) (w4 (JZ (AG _) bb))) (w4 (by rw[vb,eD];exact hD))
 have fin:∀(q r:AT) v ob,YT GR.outs v ob=some (true,(q,r))->q=Hu a b->r=CI (zl a % zl b)->Ad GR (a,b) v ob:=fun q r v ob h e1 e2=>yz h rfl (by rw[e1,e2];rfl)
 have slow:Ends yN (L1 (decide (zl a<0)) (Bw (Am (Bw (Ae (zl a)))/Am (Bw (Ae (zl b))))) (Bw (Am (Bw (Ae (zl a))) % Am (Bw (Ae (zl b))))) 0 0 b.1 b.2) (Ad GR (a,b)):=by
  rw[va,vb,eD];obtain⟨nq,_,vq⟩:=C6 (n:=Ae (zl a)/zl b) (k:=9000) q0 (by omega) (by omega);obtain⟨nr,_,vr⟩:=C6 (n:=Ae (zl a) % zl b) (k:=9000) r0 (by omega) (by omega);have jr:Bc (CI (j0 (decide (zl a<0)) (Ae (zl a) % zl b)))=true:=DO (by rw[YH _ r0];omega);have jq:Bc (CI (j0 (decide (zl a<0)) (Ae (zl a)/zl b)))=true:=DO (by rw[YH _ q0];omega);have j1:Bc ((1:Int),Ca (1:Int))=true:=by rw[Nv];decide
  have es:H3 (CE (j0 (decide (zl a<0)) (Ae (zl a) % zl b)),CC (j0 (decide (zl a<0)) (Ae (zl a) % zl b)))=Sp.Ou (j0 (decide (zl a<0)) (Ae (zl a) % zl b)):=by
   show Sp.Ou (zl (CI _))=_;rw[Cw]
  refine zq (Au ..) (zd nq (zd nr ?_));rw[vq,vr];refine zq (AV ..) (zd (B2 jr).1 ?_);rw[es];refine zp (fun c=>?_) (fun c=>?_)
  ·have c:=w6 c;have c2:j0 (decide (zl a<0)) (Ae (zl a) % zl b)<0:=by
    rw[Kx]at c;split at c
    ·assumption
    ·split at c<;>omega
   have hn:zl a<0:=by
    rcases yc (zl a) 0 with g|g
    ·exact g
    ·rw[DA,wc (by simp;omega)]at c2;omega
   have hr:Ae (zl a) % zl b≠0:=by
    rw[DA,wd (w4 hn)]at c2;omega
   obtain⟨z3,z4⟩:=z2 hr;refine zd rfl (zd (Aa jq j1) (zd (Aa jr hb) (zm (fin (Ni (CI (j0 (decide (zl a<0)) (Ae (zl a)/zl b))) (1,Ca 1)) (EC (CI (j0 (decide (zl a<0)) (Ae (zl a) % zl b))) b) _ _ rfl ?_ ?_))))
   ·unfold Hu;rw[wd ⟨hn,hr⟩,Ek,DA,wd (w4 hn)]
   ·have ev:zl a= -Ae (zl a):=by rw[eM,wd hn];omega
    have ep:zl (CI (j0 (decide (zl a<0)) (Ae (zl a) % zl b)))= -(Ae (zl a) % zl b):=by rw[Cw,DA,wd (w4 hn)]
    have e5:zl a % zl b=zl b-Ae (zl a) % zl b:=by rw[<-z4, <-ev]
    rw[gK (by rw[ep];omega),ep,e5];congr 1;omega
  ·have c:=w7 c;have c2:¬(zl a<0/\Ae (zl a) % zl b≠0):=by
    rintro⟨hn,hr⟩;rw[DA,wd (w4 hn),Kx,wd (by omega)]at c;omega
   refine zm (fin (CI (j0 (decide (zl a<0)) (Ae (zl a)/zl b))) (CI (j0 (decide (zl a<0)) (Ae (zl a) % zl b))) _ _ rfl ?_ ?_)
   ·unfold Hu;rw[wc c2]
   ·congr 1;rcases yc (zl a) 0 with g|g
    ·have hr:Ae (zl a) % zl b=0:=by
      rcases yc 0 (Ae (zl a) % zl b)with g2|g2
      ·exact wh ⟨g,by omega⟩ c2
      ·omega
     have ev:zl a= -Ae (zl a):=by rw[eM,wd g];omega
     have:=(z1 hr).2;rw[<-ev]at this;rw[this,hr,DA];split<;>rfl
    ·rw[DA,wc (by simp;omega),eM,wc (by omega)]
 refine yt (An a b) (zp (fun c1=>zp (fun c2=>zp (fun c3=>?_) (fun c3=>?_)) (fun c2=>?_)) (fun c1=>?_))
 ·have a2:=Pk c1;have b2:=Pk c2;have c3:a.1≠ -9223372036854775808:=by simpa using c3
  have ra:=En (n:=a.1) (by
   have:=oa;unfold Sp.Dp at this;rw[zi]at this;exact this.1)
  have rb:=En (n:=b.1) (by
   have:=ob;unfold Sp.Dp at this;rw[zi]at this;exact this.1)
  have ea:=Bp a2;have eb:=Bp b2;rw[ea]at eM;rw[eb]at hD r2;rw[ea,eb]at q0 q1 r0 r1 z1 z2;rw[ea]at r2;have hq:yq a.1 b.1=if a.1<0 then -(Ae a.1/b.1)else Ae a.1/b.1:=by
   rw[eM];split
   ·have:=Int.neg_tdiv (-a.1) b.1;rw[Int.neg_neg]at this;rw[this,zt (by omega)]
   ·exact zt (by omega)
  have hr:qv a.1 b.1=if a.1<0 then -(Ae a.1 % b.1)else Ae a.1 % b.1:=by
   rw[eM];split
   ·have:=Int.neg_tmod (-a.1) b.1;rw[Int.neg_neg]at this;rw[this,zx (by omega)]
   ·exact zx (by omega)
  refine zd (w4 (by omega)) (zd (w4 (by omega)) (zp (fun c=>?_) (fun c=>?_)))
  ·have c:=w6 c;rw[hr]at c;have hn:a.1<0:=by split at c<;>omega
   rw[wd hn]at c hq hr;rw[wd hn]at eM;obtain⟨z3,z4⟩:=z2 (by omega);have ev:a.1= -Ae a.1:=by omega
   have hqm:Ae a.1/b.1<9223372036854775807:=by
    rcases yc (Ae a.1/b.1) 9223372036854775807 with g|g
    ·exact g
    ·have:=yk (Ae a.1) b.1;have:=zk (show 1<=b.1 by omega) q0;omega
   refine zm (fin (zf .i64 (zf .i64 (yq a.1 b.1)-1),[]) (zf .i64 (qv a.1 b.1+b.1),[]) _ _ rfl ?_ ?_)
   ·rw[hq,wr (-(Ae a.1/b.1)) (by omega) (by omega),wr _ (by omega) (by omega)];refine(Rv _ (by omega) (.inr ⟨by omega,?_,by omega⟩)).symm;unfold Hu;rw[ea,eb,wd ⟨hn,by omega⟩,show -(Ae a.1/b.1)-1+1= -(Ae a.1/b.1)by omega]
   ·rw[hr,wr _ (by omega) (by omega)];have:a.1 % b.1=b.1-Ae a.1 % b.1:=by rw[<-z4, <-ev]
    rw[ea,eb,this,B5 (by omega)];congr 1;omega
  ·have c:=w7 c;rw[hr]at c;refine zm (fin (zf .i64 (yq a.1 b.1),[]) (qv a.1 b.1,[]) _ _ rfl ?_ ?_)
   ·have hqq:Hu a b=CI (yq a.1 b.1):=by
     unfold Hu;rw[ea,eb,hq,wc (by rintro⟨h1,h2⟩;rw[wd h1]at c;omega),DA];by_cases h:a.1<0
     ·rw[wd (w4 h),wd h]
     ·rw[wc (by simp;omega),wc h]
    have hb': -9223372036854775808<yq a.1 b.1/\yq a.1 b.1<9223372036854775808:=by
     rw[hq,eM]at*;split<;>split at q1<;>split at q0<;>omega
    rw[wr _ (by omega) (by omega)];exact(Rv _ hb' (.inl hqq)).symm
   ·rw[hr];by_cases h:a.1<0
    ·rw[wd h]at c ⊢;have hz:Ae a.1 % b.1=0:=by omega
     rw[wd h]at eM;have ev:a.1= -Ae a.1:=by omega
     have:=(z1 hz).2;rw[<-ev]at this;rw[ea,eb,this,hz];rfl
    ·rw[wc h]at c ⊢;rw[wc h]at eM;rw[ea,eb,eM,B5 (by rw[eM]at r0 r1;omega)]
 ·exact zd oa (zd ob (zd hdiv slow))
 ·exact zd oa (zd ob (zd hdiv slow))
 ·exact zd oa (zd ob (zd hdiv slow))
end T197
theorem nO:Ey zJ:=
 Ab T197.ok (Ab T196.ok (Ab T137.ok AU))
theorem rJ{a:AT}(h:Sp.Dp a=true):Uu a=CI (Ae (zl a)):=by
 have hn:=oR h;obtain⟨hr,hw⟩:=DZ h;unfold Uu;by_cases h0:a.1<0
 ·rw[wd h0,Ah];unfold De;have hneg:=hn.1 h0;split
  ·next c=>rw[Bp c.1]at hneg ⊢;rw[B5 (by omega)];congr 1;omega
  ·congr 1;omega
 ·rw[wc h0];obtain⟨s,w⟩:=a;have h0:¬s<0:=h0;rcases hw with hw|⟨h1,h2,h3⟩
  ·have hw:w=[]:=hw;subst hw;have hr: -9223372036854775808<=s/\s<9223372036854775808:=hr;rw[EL,Ah,B5 (by omega)];congr 1;omega
  ·obtain⟨_,d,z⟩:=EV h1;have h2:s=1\/s= -1:=h2;have h3:9223372036854775808<=Am w:=h3;have hne:w≠[]:=by rintro rfl;exact wh h3 (by decide)
   have hs:s=1:=by omega
   subst hs;rw[V0 hne,wc (by decide),Ah];have:=SW (w:=w) false d z h3;rw[wc (by decide),wc (by decide)]at this;rw[show((Am w).natAbs:Int)=Am w by omega,this]
theorem kH(n:Int):H3 (CE n,CC n)=Sp.Ou n:=by
 show Sp.Ou (zl (CI _))=_;rw[Cw]
theorem LK(n:Int):zl (CE n,CC n)=n:=Cw n
theorem XG(m n:Int):Xn (CE m,CC m) (CE n,CC n)=CE (m % n)/\Xk (CE m,CC m) (CE n,CC n)=CC (m % n):=by
 constructor
 ·show CE (zl (CI _) % zl (CI _))=_;rw[Cw,Cw]
 ·show CC (zl (CI _) % zl (CI _))=_;rw[Cw,Cw]
theorem FC{n:Int}(h:Bc (CI n)=true):Bc (CE n,CC n)=true:=h
theorem Nr{a:AT}(h:Sp.Dp a=true):O6 a=CE (Ae (zl a))/\PZ a=CC (Ae (zl a)):=by
 unfold O6 PZ;rw[rJ h];exact⟨rfl,rfl⟩
theorem Tv(x y:Nat):((x:Int) % (y:Int))=((x % y:Nat):Int):=rfl
theorem mZ(a b:AT)(n:Int)(h:n=Sp.gI (zl a) (zl b)):(CE n,CC n)=(M5 a b,ML a b):=by subst h;rfl
namespace T144
variable {Q:PV->Ob->Prop}
theorem pO(n:Nat)(h:(n:Int)<(Ai:Int)^9000):Bc (CI (n:Int))=true:=DO (by rw[Ah,Int.natAbs_natCast];exact h)
theorem Ao(g:Nat)(o2 L:Int)(hL:∀n:Nat,(n:Int)<L->Bc (CI (n:Int))=true)(hq:∀ob,Q (.agg [.dat i64 (CE (g:Int)),.dat (.nlist u64) (CC (g:Int))]) ob):∀(f x y:Nat),y<f->j8 x y=g->(x:Int)<L->(y:Int)<L->
  Ends zJ (L1 o2 (CE (y:Int)) (CC (y:Int)) (CE (x:Int)) (CC (x:Int))) Q
 |0,x,y,h,_,_,_=>by omega
 |f+1,x,y,hy,hg,bx,by'=>by
  have jx:Bc (CI (x:Int))=true:=hL x bx;have jy:Bc (CI (y:Int))=true:=hL y by'
  refine zq (Au ..) (zd (B2 (FC jy)).1 ?_);rw[kH,(XG _ _).1,(XG _ _).2,LK,Tv];by_cases h0:y=0
  ·subst h0;rw[Nat.gcd_zero_right]at hg;subst hg;exact z8 rfl (zm (hq _))
  ·have hlt:x % y<y:=Nat.mod_lt _ (by omega);refine zd ?_ (zd (Aa (Aa (FC jx) (FC jy)) (w4 (by omega))) ?_)
   ·rw[Kx,wc (by omega),wd (by omega)];rfl
   ·exact Ao g o2 L hL hq f y (x % y) (by omega) (by rw[jj, <-Nat.gcd_rec,jj];exact hg) by' (by omega)
theorem ok:Ag Bi 144 Yi:=by
 refine Cc nO (fun(i:(Int×List Int)×(Int×List Int)) hi=>?_);obtain⟨a,b⟩:=i;have hi:(Bc a&&Bc b)=true:=hi;rw[zi]at hi;obtain⟨ha,hb⟩:=hi;have oa:=(B2 ha).1;have ob:=(B2 hb).1;have ba:=bounds ha;have bb:=bounds hb;rw[Ah]at ba bb;refine yt (An a b) (zd oa (zd ob ?_));show Ends zJ (L1 0 (O6 b) (PZ b) (O6 a) (PZ a)) _;rw[(Nr oa).1,(Nr oa).2,(Nr ob).1,(Nr ob).2,Ah,Ah];refine Ao (j8 (zl a).natAbs (zl b).natAbs) 0 _ pO (fun ob=>yz rfl rfl (mZ a b _ ?_)) ((zl b).natAbs+1) _ _ (Nat.lt_succ_self _) rfl ba bb;rw[FA];rfl
end T144
theorem AaL(n:Nat)(h:n<9223372036854775808):Hq .i64 (n:Int) 1=((n % 2:Nat):Int):=by
 have e:(yg 64 (n:Int)&&&yg 64 1).toNat=n % 2:=by
  rw[BitVec.toNat_and];have h1:(yg 64 (n:Int)).toNat=n:=by rw[BitVec.ofInt_natCast,BitVec.toNat_ofNat];exact Nat.mod_eq_of_lt (by omega)
  have h2:(yg 64 1).toNat=2^1-1:=by decide
  rw[h1,h2,Nat.and_two_pow_sub_one_eq_mod]
 show zf .i64 (((yg 64 (n:Int)&&&yg 64 1).toNat:Nat):Int)=_;rw[e];exact wr _ (by omega) (by omega)
namespace T185
variable {Q:PV->Ob->Prop}
theorem Uh{c:Int}(h:c≠0):1<=Ae c:=by rw[Ah];omega
theorem YP(c:Int):∀k:Nat,Ae (c^k)=Ae c^k
 |0=>by rw[yf,yf];rfl
 |k+1=>by rw[zu,zu,I6,YP c k]
theorem one_le_pow{c:Int}(h:1<=c):∀k:Nat,1<=c^k
 |0=>by rw[yf];decide
 |k+1=>by
  rw[zu];have:=zk (one_le_pow h k) (show 0<=c by omega);omega
theorem Aad{p c L:Int}{k:Nat}(hL:1<L)(h:Ae (p*c^k)<L)(h1:c=0->Ae p<=1)(h2:c≠0->p≠0):Ae p<L/\(1<=k->Ae c<L)/\(2<=k->Ae (c*c)<L)/\(1<=k->Ae (p*c)<L):=by
 by_cases hc:c=0
 ·subst hc;have:=h1 rfl;have e:Ae 0=0:=rfl;exact⟨by omega,fun _=>by rw[e];omega,fun _=>by rw[y7,e];omega,fun _=>by rw[y7,e];omega⟩
 ·have hp:=Uh (h2 hc);have hc1:=Uh hc;rw[I6,YP]at h;rw[I6,I6];generalize Ae p=P at*;generalize Ae c=C at*;have k0:1<=C^k:=one_le_pow hc1 k;have a1:P<=P*C^k:=by
   have:=zh k0 (show 0<=P by omega);omega
  have aC:C^k<=P*C^k:=by
   have:=zk hp (show 0<=C^k by omega);omega
  refine⟨by omega,fun hk=>?_,fun hk=>?_,fun hk=>?_⟩
  ·obtain⟨j,rfl⟩:∃j,k=j+1:=⟨k-1,by omega⟩;rw[zu]at aC h;have:=zk (one_le_pow hc1 j) (show 0<=C by omega);omega
  ·obtain⟨j,rfl⟩:∃j,k=j+2:=⟨k-2,by omega⟩;have e:C^(j+2)=C^j*(C*C):=by rw[zu,zu,yd]
   rw[e]at aC h;have:=zk (one_le_pow hc1 j) (yb (show 0<=C by omega) (show 0<=C by omega));omega
  ·obtain⟨j,rfl⟩:∃j,k=j+1:=⟨k-1,by omega⟩;have e:P*C^(j+1)=C^j*(P*C):=by rw[zu,ya]
   rw[e]at h;have:=zk (one_le_pow hc1 j) (yb (show 0<=P by omega) (show 0<=C by omega));omega
theorem Y0{p c:Int}{k j:Nat}(h:k=2*j):p*(c*c)^j=p*c^k:=by
 subst h;rw[Int.pow_mul,zu,zu,yf,yh]
theorem kZ{p c:Int}{k j:Nat}(h:k=2*j+1):p*c*(c*c)^j=p*c^k:=by
 subst h;rw[zu,Int.pow_mul,show c^2=c*c by rw[zu,zu,yf,yh],yd,zw c]
theorem Aam{x:Int}(h:x<(18446744073709551616:Int)^(4000:Nat)):x<(Ai:Int)^9000:=
 qd h (AL (b:=Ai) (by decide) (by omega))
theorem Ao(o1 R:Int)(hR:Ae R<(18446744073709551616:Int)^(4000:Nat))(hq:∀ob,Q (.agg [.dat i64 (CE R),.dat (.nlist u64) (CC R)]) ob):
  ∀(f k:Nat) (p:Int) (a:AT),k<f->k<=100000->(1<=k->Bc a=true)->p*zl a^k=R->(zl a=0->Ae p<=1)->(zl a≠0->p≠0)->
   Ends yR (L1 (k:Int) (CE p) (CC p) o1 a.1 a.2) Q
 |0,k,p,a,h,_,_,_,_,_=>by omega
 |f+1,k,p,a,hk,hk2,ha,he,h1,h2=>by
  have hL:(1:Int)<(18446744073709551616:Int)^(4000:Nat):=qd (show(1:Int)<18446744073709551616^(1:Nat)by decide) (AL (b:=18446744073709551616) (by decide) (by omega));rw[<-he]at hR;obtain⟨s1,s2,s3,s4⟩:=Aad hL hR h1 h2;by_cases h0:k=0
  ·subst h0;rw[yf,yr]at he;subst he;exact zq (Au ..) (z8 (by simp) (zm (hq _)))
  ·have jp:Bc (CE p,CC p)=true:=DO (Aam s1);have ja:Bc a=true:=ha (by omega);have ef:Int.fdiv (k:Int) ((2:Int)^(1:Nat))=((k/2:Nat):Int):=by
    rw[yy _ (by decide)];rfl
   have m1:(FD (CE p,CC p) a,FT (CE p,CC p) a)=CI (p*zl a):=by
    show CI (zl (CI p)*zl a)=_;rw[Cw]
   have m1s:FD (CE p,CC p) (a.1,a.2)=CE (p*zl a):=wi Prod.fst m1;have m1w:FT (CE p,CC p) (a.1,a.2)=CC (p*zl a):=wi Prod.snd m1;have m2:zl (F6 a a)=zl a*zl a:=Ep a a;have sq:∀q:Int,1<k->q*(zl a*zl a)^(k/2)=p*zl a^k->(zl a=0->Ae q<=1)->(zl a≠0->q≠0)->Ends yR (L1 ((k/2:Nat):Int) (CE q) (CC q) o1 (FD (a.1,a.2) (a.1,a.2)) (FT (a.1,a.2) (a.1,a.2))) Q:=by
    intro q hk1 hq' g1 g2;refine Ao o1 R (by rw[he]at hR;exact hR) hq f (k/2) q (F6 a a) (by omega) (by omega) (fun _=>DO (Aam (s3 (by omega)))) (by rw[m2,hq',he]) (fun z=>g1 ?_) (fun z=>g2 ?_)
    ·rw[m2]at z;rcases Int.mul_eq_zero.1 z with z|z<;>exact z
    ·rintro z2;rw[m2,z2]at z;exact z rfl
   have st:∀q:Int,k=1->q=R->Ends yR (L1 ((k/2:Nat):Int) (CE q) (CC q) o1 a.1 a.2) Q:=by
    intro q hk1 hq';subst hk1 hq';exact zq (Au ..) (z8 (by simp) (zm (hq _)))
   refine zq (Au ..) (zd (w4 (by omega)) ?_);rw[AaL k (by omega),ef,m1s,m1w];refine zp (fun c=>?_) (fun c=>?_)
   ·have c:((k % 2:Nat):Int)=1:=by simpa using c
    refine zd (Aa jp ja) (zp (fun d=>zd (Aa ja ja) (zd rfl ?_)) (fun d=>zd rfl ?_))
    ·have d:=w6 d;refine sq _ (by omega) (kZ (by omega)) (fun z=>by rw[z,y7];decide) (fun z=>?_);exact Int.mul_ne_zero (h2 z) z
    ·have d:=w7 d;have hk1:k=1:=by omega
     refine st _ hk1 ?_;rw[<-he,hk1,zu,yf,yh]
   ·have c:((k % 2:Nat):Int)≠1:=by simpa using c
    refine zp (fun d=>zd (Aa ja ja) (zd rfl ?_)) (fun d=>?_)
    ·have d:=w6 d;exact sq _ (by omega) (Y0 (by omega)) h1 h2
    ·have d:=w7 d;omega
theorem lX:Ey yR:=Ab T121n.ok (Ab T136.ok AU)
theorem ok:Ag Bi 185 gL:=by
 refine Cc lX (fun(i:(Int×List Int)×Int) hi=>?_);obtain⟨a,k⟩:=i;have hi:(Bc a&&(decide (0<=k)&&decide (k<=100000)&&decide (Ae (Sp.pI (zl a) k)<(18446744073709551616:Int)^(4000:Nat))))=true:=hi;rw[zi,zi,zi,w5,w5,w5,RO]at hi;obtain⟨ha,⟨k0,k1⟩,hR⟩:=hi;obtain⟨n,rfl⟩:=qe k0;have e1:Ca 1=CC 1:=by rw[Ek];rfl
 refine yt (An a n) (zd rfl ?_);rw[e1];refine Ao (Q:=Ad gL (a,(n:Int))) 0 (zl a^n) hR (fun ob=>yz rfl rfl ?_) (n+1) n 1 a (by omega) (by omega) (fun _=>ha) (yh _) (fun _=>by decide) (fun _=>by decide);show CI _=CI (Sp.pI (zl a) (n:Int));rw[RO];rfl
end T185
end Go.Pe
namespace Go.Sp
theorem OV{l:List Int}(h:JO l=true):l.length<=20000/\Aw B9 l:=by
 unfold JO at h;rw[zi,w5,List.all_eq_true]at h;exact⟨h.1,fun d hd=>by
  have:=h.2 d hd;rw[zi,w5,w5]at this;exact this⟩
theorem LB{l:List Int}(h1:l.length<=20000)(h2:Aw B9 l):JO l=true:=by
 unfold JO;rw[zi,w5,List.all_eq_true];exact⟨h1,fun d hd=>by
  have:=h2 d hd;rw[zi,w5,w5];exact this⟩
theorem tW{l:List Int}(h:hR l=true):l.length<=9000/\Aw B9 l:=by
 unfold hR at h;rw[zi,w5]at h;exact⟨h.2,(OV h.1).2⟩
theorem Rb{l:List Int}(h1:l.length<=9000)(h2:Aw B9 l):hR l=true:=by
 unfold hR;rw[LB (by omega) h2,jc];exact w4 h1
theorem Bo{l:List Int}(h:A9 l=true):l.length<=20000/\Aw B9 l/\nz l:=by
 unfold A9 at h;rw[zi]at h;have:=OV h.1;exact⟨this.1,this.2,by
  have:=h.2;unfold wJ at this;have:l.getLast?≠some 0:=w6 this;exact this⟩
theorem eQ{l:List Int}(h1:l.length<=20000)(h2:Aw B9 l)(h3:nz l):A9 l=true:=by
 unfold A9 wJ;rw[LB h1 h2,jc];exact w4 h3
theorem GF{l:List Int}(h:Aw B9 l)(i:Nat):0<=l.getD i 0/\l.getD i 0<1000000000:=J1 (by decide) h i
theorem Fh{l:List Int}{x:Int}(h:Aw B9 l)(hx:0<=x/\x<1000000000):Aw B9 (l++[x]):=EW h (fun d hd=>by rw[qc]at hd;subst hd;exact hx)
theorem Ci(l:List Int)(x:Int):val B9 (l++[x])=val B9 l+(B9:Int)^l.length*x:=by
 rw[CX];simp[val]
theorem JM(i:Nat)(c:Int):(B9:Int)^(i+1)*c=(B9:Int)^i*(1000000000*c):=by
 rw[zu,yd];rfl
theorem FL{l:List Int}(h:Aw B9 l):Av l=BV (At l):=XO (by decide) h
theorem Nq{n:Int}{k:Nat}(h0:0<=n)(h:n<(B9:Int)^k):(BV n).length<=k:=by
 refine NB B9 (by decide) k n.toNat n.toNat ?_;have e:((B9^k:Nat):Int)=(B9:Int)^k:=Int.natCast_pow ..;rw[<-e]at h;generalize B9^k=P at*;omega
theorem Hc{n:Int}{k:Nat}(h0:0<=n)(h:n<(B9:Int)^k)(hk:k<=9000):A9 (BV n)=true/\hR (BV n)=true/\At (BV n)=n/\(BV n).length<=k:=by
 have h1:=Nq h0 h;have h2:=Fp (b:=B9) (by decide) n;exact⟨eQ (by omega) h2 (Xj (by decide) n),Rb (by omega) h2,CV (by decide) h0,h1⟩
end Go.Sp
namespace Go.Pe
open Sp
open Go.Det
theorem R5:Ey lG:=fun g sp h=>by cases h
namespace T202
theorem Ao{Q:PV->Ob->Prop}:∀(n:Nat) (w:List Int),w.length=n->n<=20000->(∀ob,Q (.dat li (Av w)) ob)->Ends lG (L1 w) Q
 |0,w,hl,_,hq=>by
  have:w=[]:=z7.1 hl;subst this;exact zq (Au ..) (z8 (by simp) (zm (hq _)))
 |n+1,w,hl,hn,hq=>by
  obtain⟨p,x,rfl⟩:∃p x,w=p++[x]:=by
   have hne:w≠[]:=by rintro rfl;simp at hl
   exact⟨w.dropLast,w.getLast hne,(qn hne).symm⟩
  have hp:p.length=n:=by simpa using hl
  have e1:zf .i64 (((p++[x]).length:Int)-1)=(n:Int):=by rw[wr _ (by omega) (by omega)];omega
  have g1:(p++[x]).getD n 0=x:=DD _ _ _ _ hp;have t1:(p++[x]).take n=p:=by rw[<-hp];exact jt
  refine zq (Au ..) (zd (w4 (by omega)) ?_);rw[e1,zg,g1,t1];refine zd (by simp;omega) (zp (fun c=>zd (by simp;omega) ?_) (fun c=>?_))
  ·have c:x=0:=by simpa using c
   subst c;rw[Is]at hq;exact Ao n p hp (by omega) hq
  ·have c:x≠0:=by simpa using c
   rw[Iz (Yu c)]at hq;exact zm (hq _)
theorem ok:Ag Bi 202 SS:=by
 refine Cc R5 (fun(w:List Int) hw=>?_);have hw:w.length<=20000:=w6 hw;exact yt (An w) (Ao w.length w rfl hw (fun ob=>yz rfl rfl rfl))
end T202
theorem R6:Ey aW:=Ab T202.ok AU
theorem T159.ok:Ag Bi 159 Ig:=by
 refine Cc R6 (fun(i:Bool×List Int) hi=>?_);obtain⟨n,w⟩:=i;refine yt (T159.An n w) (zd hi (zp (fun c=>zm (yz rfl rfl ?_)) (fun c=>zm (yz rfl rfl ?_))))
 ·show(decide (((Av w).length:Int)>0),Av w)=(Cg n w,Av w);unfold Cg;rw[c,jc];congr 1;rw[decide_eq_decide];constructor
  ·intro h h2;rw[h2]at h;simp at h
  ·intro h;have:(Av w).length≠0:=fun h2=>h (z7.1 h2)
   omega
 ·show(false,Av w)=(Cg n w,Av w);unfold Cg;rw[c];rfl
namespace T161
theorem Ao{Q:PV->Ob->Prop}(a b:List Int)(ha:Aw ze a)(hb:Aw ze b)(hl:a.length=b.length)(h2:b.length<=20000)(hq:∀ob,Q (.dat i64 (Co (At a) (At b))) ob):∀(i:Nat),i<=a.length->a.drop i=b.drop i->Ends lG (L1 a b ((i:Int)-1)) Q
 |0,hi,he=>by
  have he:a=b:=he;have:Co (At a) (At b)=0:=by rw[he];unfold Co;simp
  rw[this]at hq;exact zq (Au ..) (z8 (by simp) (zm (hq _)))
 |i+1,hi,he=>by
  have e1:(((i+1:Nat):Int)-1)=(i:Int):=by omega
  have da:a.drop i=a.getD i 0::a.drop (i+1):=Ch (by omega);have db:b.drop i=b.getD i 0::a.drop (i+1):=by rw[he];exact Ch (by omega)
  rw[e1];refine zq (Au ..) (zd (by simp) ?_);rw[zg];refine zd (by simp;omega) (zd (by simp;omega) (zp (fun d=>?_) (fun d=>zd (by simp;omega) (zd (by simp;omega) (zp (fun c=>?_) (fun c=>?_))))))
  ·have d:=w6 d;have:=I8 (b:=ze) (by decide) ha hb da db d;have e:Co (At a) (At b)= -1:=by unfold Co;exact wd this
   rw[e]at hq;exact zm (hq _)
  ·have c:=w6 c;have:=I8 (b:=ze) (by decide) hb ha db da c;have e:Co (At a) (At b)=1:=by unfold Co At;rw[wc (by omega),wd (by omega)]
   rw[e]at hq;exact zm (hq _)
  ·have c:=w7 c;have d:=w7 d;rw[wr ((i:Int)-1) (by omega) (by omega)];exact Ao a b ha hb hl h2 hq i (by omega) (by rw[da,db,show a.getD i 0=b.getD i 0 by omega])
theorem ok:Ag Bi 161 YA:=by
 refine Cc R5 (fun(i:List Int×List Int) hi=>?_);obtain⟨a,b⟩:=i;have hi:(A9 a&&A9 b)=true:=hi;rw[zi]at hi;obtain⟨a1,a2,a3⟩:=Bo hi.1;obtain⟨b1,b2,b3⟩:=Bo hi.2;have hq:∀ob,Ad YA (a,b) (.dat i64 (Co (At a) (At b))) ob:=fun ob=>yz rfl rfl rfl
 refine yt (An a b) (zp (fun c=>zp (fun d=>?_) (fun d=>?_)) (fun c=>?_))
 ·have d:=w6 d;have e:Co (At a) (At b)= -1:=by unfold Co;exact wd (EJ (by decide) a2 b2 b3 (by omega))
  rw[e]at hq;exact zm (hq _)
 ·have d:=w7 d;have c:(a.length:Int)≠b.length:=by simpa using c
  have:=EJ (b:=ze) (by decide) b2 a2 a3 (by omega);have e:Co (At a) (At b)=1:=by
   unfold Co At;rw[wc (by omega),wd (by omega)]
  rw[e]at hq;exact zm (hq _)
 ·have c:(a.length:Int)=b.length:=by simpa using c
  rw[wr _ (by omega) (by omega)];exact Ao a b a2 b2 (by omega) b1 hq a.length (by omega) (by rw[je,jk (by omega)])
end T161
theorem ZT{x y o c:Int}(hx:0<=x/\x<1000000000)(hy:0<=y/\y<1000000000)(ho:0<=o/\o<1000000000)(hc:0<=c/\c<1000000000):
  zf .i64 (zf .i64 (o+zf .i64 (x*y))+c)=o+x*y+c/\qv (o+x*y+c) 1000000000=(o+x*y+c) % 1000000000/\zf .i64 (yq (o+x*y+c) 1000000000)=(o+x*y+c)/1000000000/\
  (0<=(o+x*y+c)/1000000000/\(o+x*y+c)/1000000000<1000000000)/\(0<=(o+x*y+c) % 1000000000/\(o+x*y+c) % 1000000000<1000000000):=by
 have h0:0<=x*y:=yb hx.1 hy.1;have h1:x*y<=999999999*999999999:=by
  have a:=zh (show y<=999999999 by omega) hx.1;have b:=zk (show x<=999999999 by omega) (show(0:Int)<=999999999 by omega);omega
 generalize x*y=P at*;have e1:zf .i64 P=P:=wr _ (by omega) (by omega);have e2:zf .i64 (o+P)=o+P:=wr _ (by omega) (by omega);have e3:yq (o+P+c) 1000000000=(o+P+c)/1000000000:=zt (by omega);refine⟨?_,zx (by omega),?_,by omega,by omega⟩
 ·rw[e1,e2];exact wr _ (by omega) (by omega)
 ·rw[e3];exact wr _ (by omega) (by omega)
namespace T163
variable {Q:PV->Ob->Prop}
theorem A4(x y:List Int)(n i:Nat)(hi:i<x.length)(hn:n=x.length+y.length)(hx9:x.length<=9000)(hy9:y.length<=9000)(hx:Aw ze x)(hy:Aw ze y)(p:List Int)(hp:p.length=i+y.length)(hdp:Aw ze p)
  (hq:∀q c,q.length=i+y.length->Aw ze q->(0<=c/\c<1000000000)->zc ze q+(ze:Int)^(i+y.length)*c=zc ze p+(ze:Int)^i*(x.getD i 0*zc ze y)->Ends aW (L1 x y n ((i+1:Nat):Int) ((q++[c])++zj (n-(i+y.length+1)) 0)) Q):∀(k j:Nat) (q:List Int) (c:Int),j+k=y.length->q.length=i+j->Aw ze q->(0<=c/\c<1000000000)->zc ze q+(ze:Int)^(i+j)*c=zc ze (p.take (i+j))+(ze:Int)^i*(x.getD i 0*zc ze (y.take j))->
  Ends aW (L2 x y n i c j (q++(p.drop (i+j)++zj (n-(i+y.length)) 0))) Q
 |0,j,q,c,hj,hl,hd,hc,he=>by
  have hj:j=y.length:=by omega
  subst hj;have e1:zf .i64 ((i:Int)+(y.length:Int))=((i+y.length:Nat):Int):=by rw[wr _ (by omega) (by omega)];omega
  have e2:zf .i64 ((i:Int)+1)=((i+1:Nat):Int):=by rw[wr _ (by omega) (by omega)];omega
  have ed:p.drop (i+y.length)=[]:=jk (by omega);have eg:(q++zj (n-(i+y.length)) (0:Int)).getD (i+y.length) 0=0:=by
   have:n-(i+y.length)=(n-(i+y.length+1))+1:=by omega
   rw[this,List.replicate_succ];exact DD _ _ _ _ hl
  refine zq (AV ..) (z8 (by simp) ?_);rw[e1,e2,zg,ed,qo,eg,Int.zero_add,wr c (by omega) (by omega),I4 q n _ c hl (by omega)];refine zd (by simp;omega) (zd (by simp;omega) (zd (by simp;omega) (zd (by simp;omega) (hq q c hl hd hc ?_))));rw[he,zn (by omega),y8]
 |k+1,j,q,c,hj,hl,hd,hc,he=>by
  have gx:=GF hx i;have gy:=GF hy j;have gp:=GF hdp (i+j);have ep:p.drop (i+j)=p.getD (i+j) 0::p.drop (i+j+1):=Ch (by omega);have e1:zf .i64 ((i:Int)+(j:Int))=((i+j:Nat):Int):=by rw[wr _ (by omega) (by omega)];omega
  have e2:zf .i64 ((j:Int)+1)=((j+1:Nat):Int):=by rw[wr _ (by omega) (by omega)];omega
  have lo:(q++(p.drop (i+j)++zj (n-(i+y.length)) (0:Int))).length=n:=by simp;omega
  have g1:(q++(p.drop (i+j)++zj (n-(i+y.length)) (0:Int))).getD (i+j) 0=p.getD (i+j) 0:=by
   rw[ep,List.cons_append];exact DD _ _ _ _ hl
  have s1:∀z,(q++(p.drop (i+j)++zj (n-(i+y.length)) (0:Int))).set (i+j) z=(q++[z])++(p.drop (i+(j+1))++zj (n-(i+y.length)) 0):=by
   intro z;rw[ep,List.cons_append,Dx _ _ _ _ hl,z6];rfl
  obtain⟨m1,m2,m3,m4,m5⟩:=ZT gx gy gp hc;refine zq (AV ..) (zd (by simp;omega) ?_);rw[e1,e2,zg,zg,zg,g1,m1,m2,m3,s1];have t1:(decide ((0:Int)<=((i+j:Nat):Int))&&decide (((i+j:Nat):Int)<(n:Int)))=true:=by simp;omega
  refine zd t1 (zd (w4 (by rw[lo];omega)) (zd (by simp;omega) (zd (by simp;omega) (zd rfl (zd t1 (zd (w4 (by rw[lo];omega)) (zd rfl ?_)))))));refine A4 x y n i hi hn hx9 hy9 hx hy p hp hdp hq k (j+1) _ _ (by omega) (by simp;omega) (Fh hd m5) m4 ?_;have ea:i+(j+1)=(i+j)+1:=by omega
  have eb:(ze:Int)^i*(x.getD i 0*((ze:Int)^j*y.getD j 0))=(ze:Int)^(i+j)*(x.getD i 0*y.getD j 0):=by
   rw[jo,yd,ya (x.getD i 0)]
  have e6:(p.getD (i+j) 0+x.getD i 0*y.getD j 0+c) % 1000000000+1000000000*((p.getD (i+j) 0+x.getD i 0*y.getD j 0+c)/1000000000)=x.getD i 0*y.getD j 0+p.getD (i+j) 0+c:=by
   generalize x.getD i 0*y.getD j 0=P;omega
  rw[ea,Ci,hl,JM,qy, <-zr,e6,AE _ p (i+j),AE _ y j,zr,zr,zr (x.getD i 0),zr,eb];omega
theorem Ao(x y:List Int)(n:Nat)(hn:n=x.length+y.length)(hx9:x.length<=9000)(hy9:y.length<=9000)(hx:Aw ze x)(hy:Aw ze y)(hq:∀ob,Q (.dat li (BV (At x*At y))) ob):∀(k i:Nat) (p:List Int),i+k=x.length->p.length=i+y.length->Aw ze p->zc ze p=zc ze (x.take i)*zc ze y->
  Ends aW (L1 x y n i (p++zj (n-(i+y.length)) 0)) Q
 |0,i,p,hi,hp,hd,he=>by
  have hi:i=x.length:=by omega
  subst hi;have ez:p++zj (n-(x.length+y.length)) (0:Int)=p:=by rw[hn,Nat.sub_self];simp
  have hv:At p=At x*At y:=by
   rw[y8]at he;exact he
  rw[ez];refine zq (Au ..) (z8 (by simp) ?_);rw[zn (by omega)];refine zd ?_ (zm ?_)
  ·simp;omega
  ·rw[FL hd,hv];exact hq _
 |k+1,i,p,hi,hp,hd,he=>by
  refine zq (Au ..) (zd (by simp;omega) ?_);have:=A4 (Q:=Q) x y n i (by omega) hn hx9 hy9 hx hy p hp hd (fun q c hl hdq hc hv=>by
   have:=Ao x y n hn hx9 hy9 hx hy hq k (i+1) (q++[c]) (by omega) (by simp;omega) (Fh hdq hc) (by
    rw[Ci,hl,hv,he,AE,Int.add_mul,yd])
   rw[show i+1+y.length=i+y.length+1 by omega]at this;exact this) y.length 0 (p.take i) 0 (by omega) (by simp;omega) (AM hd i) (by decide) (by simp[zc])
  rw[Nat.add_zero, <-z6,yu]at this;exact this
theorem ok:Ag Bi 163 XH:=by
 refine Cc R6 (fun(i:List Int×List Int) hi=>?_);obtain⟨x,y⟩:=i;have hi:(Sp.hR x&&Sp.hR y)=true:=hi;rw[zi]at hi;obtain⟨x1,x2⟩:=tW hi.1;obtain⟨y1,y2⟩:=tW hi.2;have e1:zf .i64 ((x.length:Int)+(y.length:Int))=((x.length+y.length:Nat):Int):=by rw[wr _ (by omega) (by omega)];omega
 refine yt (An x y) ?_;conv=>zeta
 rw[e1,zg];refine zd (by simp;omega) ?_;have:=Ao (Q:=Ad XH (x,y)) x y (x.length+y.length) rfl x1 y1 x2 y2 (fun ob=>yz rfl rfl rfl) x.length 0 (zj y.length 0) (by omega) (by simp) (fun d hd=>by rw[(List.mem_replicate.1 hd).2];decide) (by rw[ME];simp[zc]);rw[j5,List.replicate_append_replicate,show y.length+(x.length+y.length-y.length)=x.length+y.length by omega]at this;exact this
end T163
theorem aK{r x d:Int}(hd:0<d/\d<1000000000)(hr:0<=r/\r<d)(hx:0<=x/\x<1000000000):
  zf .i64 (zf .i64 (r*1000000000)+x)=r*1000000000+x/\zf .i64 (yq (r*1000000000+x) d)=(r*1000000000+x)/d/\qv (r*1000000000+x) d=(r*1000000000+x) % d/\
  (0<=(r*1000000000+x)/d/\(r*1000000000+x)/d<1000000000)/\(0<=(r*1000000000+x) % d/\(r*1000000000+x) % d<d)/\(r*1000000000+x)/d*d+(r*1000000000+x) % d=r*1000000000+x:=by
 have h:=yk (r*1000000000+x) d;rw[zw]at h;have q0:0<=(r*1000000000+x)/d:=ql (by omega) (by omega);have q1:(r*1000000000+x)/d<1000000000:=qg hd.1 (by omega);refine⟨?_,?_,zx (by omega),⟨q0,q1⟩,⟨yn _ (by omega),yi _ hd.1⟩,h⟩
 ·rw[wr (r*1000000000) (by omega) (by omega)];exact wr _ (by omega) (by omega)
 ·rw[zt (by omega)];exact wr _ (by omega) (by omega)
namespace T201
variable {Q:PV->Ob->Prop}
theorem Ao(a:List Int)(d:Int)(ha:Aw ze a)(hd:0<d/\d<1000000000)(hm:a.length<=20000)(hq:∀q r ob,Aw ze q->(0<=r/\r<d)->At a=At q*d+r->Q (.tup [.dat li (Av q),.dat i64 r]) ob):∀(i:Nat) (q:List Int) (r:Int),i+q.length=a.length->Aw ze q->(0<=r/\r<d)->zc ze (a.drop i)=zc ze q*d+r->
  Ends aW (L1 a d a.length r ((i:Int)-1) (zj i 0++q)) Q
 |0,q,r,hl,hdq,hr,he=>by
  have ht:((zj 0 0++q).take a.length)=q:=by
   rw[List.replicate_zero,qo];exact zn (by omega)
  refine zq (Au ..) (z8 (by simp) ?_);rw[ht];refine zd (Aa (by simp;omega) (w4 (by omega))) (zm (hq q r _ hdq hr he))
 |i+1,q,r,hl,hdq,hr,he=>by
  have e1:(((i+1:Nat):Int)-1)=(i:Int):=by omega
  have gx:=GF ha i;obtain⟨d1,d2,d3,d4,d5,d6⟩:=aK hd hr gx;have da:a.drop i=a.getD i 0::a.drop (i+1):=Ch (by omega);have es:∀x,(zj (i+1) (0:Int)++q).set i x=zj i 0++(x::q):=by
   intro x;rw[qj,z6];exact Dx _ _ _ _ (by simp)
  rw[e1];refine zq (Au ..) (zd (by simp) ?_);rw[zg,es,wr ((i:Int)-1) (by omega) (by omega),d1,d2,d3];refine zd (by simp;omega) (zd (w4 (by omega)) (zd (by simp;omega) (zd (by simp;omega) (zd (w4 (by omega)) ?_))));refine Ao a d ha hd hm hq i _ _ (by simp;omega) (fun x hx=>?_) d5 ?_
  ·rcases qi.1 hx with rfl|hx
   ·exact d4
   ·exact hdq x hx
  ·rw[da];show a.getD i 0+(1000000000:Int)*zc ze (a.drop (i+1))=((r*1000000000+a.getD i 0)/d+(1000000000:Int)*zc ze q)*d+(r*1000000000+a.getD i 0) % d;rw[he,Int.add_mul,zr,yd];omega
theorem ok:Ag Bi 201 VQ:=by
 refine Cc R6 (fun(i:List Int×Int) hi=>?_);obtain⟨a,d⟩:=i;have hi:(JO a&&decide (0<d)&&decide (d<1000000000))=true:=hi;rw[zi,zi,w5,w5]at hi;obtain⟨⟨ha,d0⟩,d1⟩:=hi;obtain⟨hl,hda⟩:=OV ha;refine yt (An a d) ?_;conv=>zeta
 rw[zg,wr ((a.length:Int)-1) (by omega) (by omega)];refine zd (by simp;omega) ?_;have:=Ao (Q:=Ad VQ (a,d)) a d hda ⟨d0,d1⟩ hl (fun q r ob hq hr he=>?_) a.length [] 0 (by simp) (fun x hx=>by cases hx) ⟨qx _,d0⟩ (by rw[je];simp[zc])
 ·rw[qm]at this;exact this
 ·refine yz rfl rfl ?_;show(Av q,r)=(BV (At a/d),At a % d);obtain⟨u1,u2⟩:=(yo (a:=At a) (b:=d) (r:=r) (q:=At q) d0).2 ⟨by rw[zw d];omega,hr.1,hr.2⟩;rw[FL hq,u1,u2]
end T201
theorem rU:Ey LR:=
 Ab T161.ok (Ab T202.ok (Ab T201.ok (Ab T163.ok AU)))
theorem Sa{t x y w:Int}(ht:0<=t/\t<1000000000)(hx:0<=x/\x<1000000000)(hy:0<=y/\y<1000000000)(hw:0<=w/\w<=1000000000):
  zf .i64 (zf .i64 (t*x)+w)=t*x+w/\qv (t*x+w) 1000000000=(t*x+w) % 1000000000/\zf .i64 (yq (t*x+w) 1000000000)=(t*x+w)/1000000000/\
  zf .i64 ((t*x+w)/1000000000+1)=(t*x+w)/1000000000+1/\zf .i64 (y-(t*x+w) % 1000000000)=y-(t*x+w) % 1000000000/\(0<=(t*x+w)/1000000000/\(t*x+w)/1000000000<1000000000)/\(0<=(t*x+w) % 1000000000/\(t*x+w) % 1000000000<1000000000):=by
 have h0:0<=t*x:=yb ht.1 hx.1;have h1:t*x<=999999999*999999999:=by
  have a:=zh (show x<=999999999 by omega) ht.1;have b:=zk (show t<=999999999 by omega) (show(0:Int)<=999999999 by omega);omega
 generalize t*x=P at*;have e1:zf .i64 P=P:=wr _ (by omega) (by omega);have e3:yq (P+w) 1000000000=(P+w)/1000000000:=zt (by omega);refine⟨?_,zx (by omega),?_,wr _ (by omega) (by omega),wr _ (by omega) (by omega),by omega,by omega⟩
 ·rw[e1];exact wr _ (by omega) (by omega)
 ·rw[e3];exact wr _ (by omega) (by omega)
theorem Zl(w r:List Int)(i:Nat)(h:i<w.length):(w++r).getD i 0=w.getD i 0:=by
 rw[yj,yj,List.getElem?_append_left h]
namespace T157
variable {Q:PV->Ob->Prop}
theorem gW{lo w z:List Int}{h:Int}{j i:Nat}(hlo:lo.length=j)(hi:i<w.length):(lo++(w++h::z)).getD (i+j) 0=w.getD i 0:=by
 rw[G2 _ _ _ _ hlo,Zl _ _ _ hi]
theorem sW{lo w z:List Int}{h:Int}{j i:Nat}(x:Int)(hlo:lo.length=j)(hi:i<w.length):(lo++(w++h::z)).set (i+j) x=lo++(w.set i x++h::z):=by
 rw[RD _ _ _ _ _ hlo,List.set_append_left _ _ hi]
theorem gH{lo w z:List Int}{h:Int}{j n:Nat}(hlo:lo.length=j)(hn:w.length=n):(lo++(w++h::z)).getD (n+j) 0=h:=by
 rw[G2 _ _ _ _ hlo];exact DD _ _ _ _ hn
theorem sH{lo w z:List Int}{h:Int}{j n:Nat}(x:Int)(hlo:lo.length=j)(hn:w.length=n):(lo++(w++h::z)).set (n+j) x=lo++(w++x::z):=by
 rw[RD _ _ _ _ _ hlo];congr 1;exact Dx _ _ _ _ hn
theorem NC(w z:List Int)(h:Int)(hz:zc ze z=0):zc ze (w++h::z)=zc ze w+(ze:Int)^w.length*h:=by
 rw[CX];show _+_*(h+(ze:Int)*zc ze z)=_;rw[hz,y7,qp]
theorem CA(v8n v11n v12n:Nat)(o2 o0 v lo z:List Int)(n j:Nat)(t h' X:Int)(hn:v.length=n)(hn9:n<=9000)(hlo:lo.length=j)(hj:j<=9000)(h11:n+j<v11n)(hjv:j<v12n)(hj1:j<o2.length)(hv:Aw ze v)(hz:zc ze z=0)(hdz:Aw ze z)(hh: -2000000000<=h'/\h'<=2000000000)
  (hX:0<=X/\X<(ze:Int)^n) (hlen:v11n=j+n+1+z.length)
  (hfin:∀r:List Int,r.length=n+1+z.length->Aw ze r->zc ze r=X->Ends LR (L2 v8n v n v11n v12n (zf .i64 ((j:Int)-1)) (o2.set j t) (lo++r) o0) Q):
  ∀(k i:Nat) (w:List Int) (c:Int),i+k=n->w.length=n->Aw ze w->(0<=c/\c<=1)->zc ze w+(ze:Int)^n*h'=X-zc ze v+zc ze (v.take i)-(ze:Int)^i*c->
   Ends LR (L5 v8n v n v11n v12n j t c i o2 (lo++(w++h'::z)) o0) Q
 |0,i,w,c,hi,hw,hd,hc,he=>by
  have hi:i=n:=by omega
  subst hi;have e1:zf .i64 ((j:Int)+(i:Int))=((i+j:Nat):Int):=by rw[wr _ (by omega) (by omega)];omega
  have hv1:v.take i=v:=zn (by omega);rw[hv1]at he;have a1:=AA (b:=ze) (by decide) hd;have a2:=Bu (b:=ze) (by decide) hd;rw[hw]at a2;have hp:=AO (b:=ze) (by decide) i;have e5:zc ze w+(ze:Int)^i*(h'+c)=X:=by rw[zr];omega
  have hzero:h'+c=0:=by
   rcases Int.lt_trichotomy (h'+c) 0 with g|g|g
   ·have:=zh (show h'+c<= -1 by omega) (zo hp);rw[jz,yr]at this;omega
   ·exact g
   ·have:=zh (show 1<=h'+c by omega) (zo hp);rw[yr]at this;omega
  have hll:i+j<(lo++(w++h'::z)).length:=by simp;omega
  refine zq (Es ..) (z8 (by simp) ?_);rw[e1,zg,zg,gH hlo hw,sH _ hlo hw,wr (h'+c) (by omega) (by omega),hzero];have t1:(decide ((0:Int)<=((i+j:Nat):Int))&&decide (((i+j:Nat):Int)<(v11n:Int)))=true:=by simp;omega
  refine zd t1 (zd (w4 hll) (zd t1 (zd (w4 hll) (zd (by simp;omega) (zd (w4 hj1) (hfin _ (by simp;omega) (EW hd (fun d hd'=>?_)) ?_))))))
  ·rcases qi.1 hd' with rfl|hd'
   ·decide
   ·exact hdz d hd'
  ·rw[NC _ _ _ hz,hw, <-e5,hzero]
 |k+1,i,w,c,hi,hw,hd,hc,he=>by
  have gx:=GF hv i;have gy:=GF hd i;have e1:zf .i64 ((i:Int)+(j:Int))=((i+j:Nat):Int):=by rw[wr _ (by omega) (by omega)];omega
  have e2:zf .i64 ((i:Int)+1)=((i+1:Nat):Int):=by rw[wr _ (by omega) (by omega)];omega
  have e3:zf .i64 (zf .i64 (w.getD i 0+v.getD i 0)+c)=w.getD i 0+v.getD i 0+c:=by
   rw[wr (w.getD i 0+v.getD i 0) (by omega) (by omega)];exact wr _ (by omega) (by omega)
  have e4:qv (w.getD i 0+v.getD i 0+c) 1000000000=(w.getD i 0+v.getD i 0+c) % 1000000000:=zx (by omega);have e5:zf .i64 (yq (w.getD i 0+v.getD i 0+c) 1000000000)=(w.getD i 0+v.getD i 0+c)/1000000000:=by
   rw[zt (by omega)];exact wr _ (by omega) (by omega)
  have hll:i+j<(lo++(w++h'::z)).length:=by simp;omega
  refine zq (Es ..) (zd (by simp;omega) ?_);rw[e1,e2,zg,zg,gW hlo (by omega),sW _ hlo (by omega),e3,e4,e5];have t1:(decide ((0:Int)<=((i+j:Nat):Int))&&decide (((i+j:Nat):Int)<(v11n:Int)))=true:=by simp;omega
  refine zd t1 (zd (w4 hll) (zd (by simp;omega) (zd rfl (zd t1 (zd (w4 hll) (zd rfl ?_))))));refine CA v8n v11n v12n o2 o0 v lo z n j t h' X hn hn9 hlo hj h11 hjv hj1 hv hz hdz hh hX hlen hfin k (i+1) _ _ (by omega) (by simp[hw]) (G5 hd i (by show 0<=_/\_<(1000000000:Int);omega)) (by omega) ?_;rw[Hz _ _ _ _ (by omega),JM,AE];have e6:(ze:Int)^i*((w.getD i 0+v.getD i 0+c) % 1000000000-w.getD i 0)=(ze:Int)^i*v.getD i 0+(ze:Int)^i*c-(ze:Int)^i*(1000000000*((w.getD i 0+v.getD i 0+c)/1000000000)):=by
   rw[<-zr, <-yw];congr 1;omega
  omega
theorem BX(v8n v11n v12n:Nat)(o2 o0 v lo z:List Int)(n j:Nat)(t h W:Int)(hn:v.length=n)(hn9:n<=9000)(hlo:lo.length=j)(hj:j<=9000)(h11:n+j<v11n)(hjv:j<v12n)(hj1:j<o2.length)(hv:Aw ze v)(hh:0<=h/\h<1000000000)(hlen:v11n=j+n+1+z.length)(ht:0<=t/\t<1000000000)
  (h0:∀(w:List Int) (h':Int),w.length=n->Aw ze w->0<=h'->zc ze w+(ze:Int)^n*h'=W-t*zc ze v->Ends LR (L2 v8n v n v11n v12n (zf .i64 ((j:Int)-1)) (o2.set j t) (lo++(w++h'::z)) o0) Q)
  (h1:∀(w:List Int) (h':Int),w.length=n->Aw ze w->h'<0-> -2000000000<=h'->zc ze w+(ze:Int)^n*h'=W-t*zc ze v->Ends LR (L5 v8n v n v11n v12n j (zf .i64 (t-1)) 0 0 o2 (lo++(w++h'::z)) o0) Q):
  ∀(k i:Nat) (w:List Int) (c:Int),i+k=n->w.length=n->Aw ze w->(0<=c/\c<=1000000000)->zc ze w+(ze:Int)^n*h=W-t*zc ze (v.take i)+(ze:Int)^i*c->
   Ends LR (L4 v8n v n v11n v12n j t c i o2 (lo++(w++h::z)) o0) Q
 |0,i,w,c,hi,hw,hd,hc,he=>by
  have hi:i=n:=by omega
  subst hi;have e1:zf .i64 ((j:Int)+(i:Int))=((i+j:Nat):Int):=by rw[wr _ (by omega) (by omega)];omega
  have hv1:v.take i=v:=zn (by omega);rw[hv1]at he;have hll:i+j<(lo++(w++h::z)).length:=by simp;omega
  have hll2:i+j<(lo++(w++(h-c)::z)).length:=by simp;omega
  have e5:zc ze w+(ze:Int)^i*(h-c)=W-t*zc ze v:=by rw[yw];omega
  refine zq (CT ..) (z8 (by simp) ?_);rw[e1,zg,zg,gH hlo hw,wr (h-c) (by omega) (by omega),sH _ hlo hw,gH hlo hw];have t1:(decide ((0:Int)<=((i+j:Nat):Int))&&decide (((i+j:Nat):Int)<(v11n:Int)))=true:=by simp;omega
  refine zd t1 (zd (w4 hll) (zd t1 (zd (w4 hll) (zd t1 (zd (w4 hll2) (zp (fun d=>?_) (fun d=>?_)))))))
  ·have d:=w6 d;exact h1 w (h-c) hw hd d (by omega) e5
  ·have d:=w7 d;exact zd (by simp;omega) (zd (w4 hj1) (h0 w (h-c) hw hd (by omega) e5))
 |k+1,i,w,c,hi,hw,hd,hc,he=>by
  have gx:=GF hv i;have gy:=GF hd i;obtain⟨m1,m2,m3,m4,m5,m6,m7⟩:=Sa ht gx gy hc;have e1:zf .i64 ((i:Int)+(j:Int))=((i+j:Nat):Int):=by rw[wr _ (by omega) (by omega)];omega
  have e2:zf .i64 ((i:Int)+1)=((i+1:Nat):Int):=by rw[wr _ (by omega) (by omega)];omega
  have hll:i+j<(lo++(w++h::z)).length:=by simp;omega
  have t1:(decide ((0:Int)<=((i+j:Nat):Int))&&decide (((i+j:Nat):Int)<(v11n:Int)))=true:=by simp;omega
  have go:∀(x c':Int),(0<=x/\x<1000000000)->(0<=c'/\c'<=1000000000)->c+(x-w.getD i 0)=1000000000*c'-t*v.getD i 0->Ends LR (L4 v8n v n v11n v12n j t c' ((i+1:Nat):Int) o2 (lo++(w.set i x++h::z)) o0) Q:=by
   intro x c' hx hc' hxc;refine BX v8n v11n v12n o2 o0 v lo z n j t h W hn hn9 hlo hj h11 hjv hj1 hv hh hlen ht h0 h1 k (i+1) _ _ (by omega) (by simp[hw]) (G5 hd i hx) hc' ?_;rw[Hz _ _ _ _ (by omega),JM,AE,zr t,ya t];have e6:(ze:Int)^i*c+(ze:Int)^i*(x-w.getD i 0)=(ze:Int)^i*(1000000000*c')-(ze:Int)^i*(t*v.getD i 0):=by
    rw[<-zr, <-yw,hxc]
   omega
  refine zq (CT ..) (zd (by simp;omega) ?_);rw[e1,e2,zg,zg,gW hlo (by omega),m1,m2,m3,m4,m5,sW _ hlo (by omega),sW _ hlo (by omega)];refine zd (by simp;omega) (zd t1 (zd (w4 hll) (zd rfl (zd rfl (zp (fun d=>?_) (fun d=>?_))))))
  ·have d:=w6 d;rw[wr (w.getD i 0-(t*v.getD i 0+c) % 1000000000+1000000000) (by omega) (by omega)];refine zd t1 (zd (w4 hll) (go _ _ (by omega) (by omega) ?_));generalize t*v.getD i 0=P at*;omega
  ·have d:=w7 d;refine zd t1 (zd (w4 hll) (go _ _ (by omega) (by omega) ?_));generalize t*v.getD i 0=P at*;omega
theorem rH(v8n v11n v12n:Nat)(o2 o0 v lo r0:List Int)(n j:Nat)(hn:v.length=n)(hn9:n<=9000)(hlo:lo.length=j)(hj:j<=9000)(hr:n+1<=r0.length)(hlen:v11n=j+r0.length)(hjv:j<v12n)(hj1:j<o2.length)(hv:Aw ze v)(hd:Aw ze r0)(hz:zc ze (r0.drop (n+1))=0)
  (hfin:∀(q:Int) (r:List Int),r.length=r0.length->Aw ze r->(0<=q/\q<1000000000)->zc ze r<zc ze v->zc ze r=zc ze r0-q*zc ze v->Ends LR (L2 v8n v n v11n v12n (zf .i64 ((j:Int)-1)) (o2.set j q) (lo++r) o0) Q)
  (q:Int) (hq:0<=q/\q<1000000000) (h1:zc ze r0<(q+1)*zc ze v) (h2:q*zc ze v<zc ze r0+zc ze v):
  Ends LR (L4 v8n v n v11n v12n j q 0 0 o2 (lo++r0) o0) Q:=by
 have hdec:r0=r0.take n++r0.getD n 0::r0.drop (n+1):=by
  rw[<-Ch (by omega)];exact(yu n r0).symm
 have gh:=GF hd n;have hdw:=AM hd n;have hdz:=EH hd (n+1);have hlw:(r0.take n).length=n:=by rw[zz];omega
 have hlz:(r0.drop (n+1)).length=r0.length-(n+1):=qh ..;have hW:zc ze r0=zc ze (r0.take n)+(ze:Int)^n*r0.getD n 0:=by
  conv=>lhs;rw[hdec]
  rw[NC _ _ _ hz,hlw]
 have hVlt:=Bu (b:=ze) (by decide) hv;rw[hn]at hVlt;have hV0:=AA (b:=ze) (by decide) hv;have hW0:=AA (b:=ze) (by decide) hd;have hp:=AO (b:=ze) (by decide) n;rw[Int.add_mul,yh]at h1;rw[hdec];refine BX v8n v11n v12n o2 o0 v lo (r0.drop (n+1)) n j q (r0.getD n 0) (zc ze r0) hn hn9 hlo hj (by omega) hjv hj1 hv gh (by omega) hq (fun w h' a b c d=>?_) (fun w h' a b c c2 d=>?_) n 0 (r0.take n) 0 (by omega) hlw hdw (by decide) (by rw[<-hW];simp[zc])
 ·have b0:=AA (b:=ze) (by decide) b;have hz':h'=0:=by
   rcases yc 0 h' with g|g
   ·have:=zh (show 1<=h' by omega) (zo hp);omega
   ·omega
  refine hfin q _ (by simp;omega) (EW b (fun x hx=>?_)) hq ?_ ?_
  ·rcases qi.1 hx with rfl|hx
   ·rw[hz'];decide
   ·exact hdz x hx
  ·rw[NC _ _ _ hz,a,d];omega
  ·rw[NC _ _ _ hz,a,d]
 ·have b0:=Bu (b:=ze) (by decide) b;rw[a]at b0;have hneg:zc ze r0-q*zc ze v<0:=by
   have:=zh (show h'<= -1 by omega) (zo hp);rw[jz,yr]at this;omega
  have hq1:1<=q:=by
   rcases yc 0 q with g|g
   ·exact g
   ·have:q=0:=by omega
    subst this;rw[jg]at hneg;omega
  rw[wr (q-1) (by omega) (by omega)];refine CA v8n v11n v12n o2 o0 v lo (r0.drop (n+1)) n j (q-1) h' (zc ze r0-q*zc ze v+zc ze v) hn hn9 hlo hj (by omega) hjv hj1 hv hz hdz (by omega) (by omega) (by omega) (fun r a' b' d'=>?_) n 0 w 0 (by omega) a b (by decide) (by rw[d];simp[zc]<;>omega);refine hfin (q-1) r (by omega) b' (by omega) (by omega) ?_;rw[d',jm,yh];omega
theorem Dd(v8n v11n v12n:Nat)(o2 o0 v lo r0:List Int)(a2 a1 a0:List Int)(k j:Nat)(hn:v.length=k+2)(hn9:k+2<=9000)(hlo:lo.length=j)(hj:j<=9000)(hr:k+3<=r0.length)(hlen:v11n=j+r0.length)(hjv:j<v12n)(hj1:j<o2.length)(hv:Aw ze v)(hd:Aw ze r0)(hz:zc ze (r0.drop (k+3))=0)(hv1:1<=v.getD (k+1) 0)
  (hle:r0.getD (k+2) 0<=v.getD (k+1) 0) (hBV:zc ze r0<1000000000*zc ze v)
  (hfin:∀(q:Int) (r:List Int),r.length=r0.length->Aw ze r->(0<=q/\q<1000000000)->zc ze r<zc ze v->zc ze r=zc ze r0-q*zc ze v->Ends LR (L2 v8n v ((k+2:Nat):Int) v11n v12n (zf .i64 ((j:Int)-1)) (o2.set j q) (lo++r) o0) Q):
  ∀(f:Nat) (q r:Int),0<=q->q<f->q<=2000000000000000000->(0<=r/\r<1000000000)->q*v.getD (k+1) 0+r=r0.getD (k+2) 0*1000000000+r0.getD (k+1) 0->zc ze r0<(q+1)*zc ze v->
   Ends LR (L3 v8n v ((k+2:Nat):Int) v11n v12n j a2 a1 a0 v11n v j ((k+2:Nat):Int) q r o2 (lo++r0) o0) Q
 |0,q,r,h0,hf,_,_,_,_=>by omega
 |f+1,q,r,h0,hf,hmax,hr1,he,hup=>by
  have gv2:=GF hv k;have gv1:=GF hv (k+1);have gu2:=GF hd k;have gu1:=GF hd (k+1);have hP:=AO (b:=ze) (by decide) k;have hW:=nG ze r0 k (by omega) hz;have hV:=mQ ze v k hn;have hu':=AA (b:=ze) (by decide) (AM hd k);have hu'':=Bu (b:=ze) (by decide) (AM hd k);have hv':=AA (b:=ze) (by decide) (AM hv k);have hv'':=Bu (b:=ze) (by decide) (AM hv k);have hV0:=AA (b:=ze) (by decide) hv;rw[zz,ye (by omega)]at hu'' hv'';have exit:∀q R:Int,0<=q->q<1000000000->q*v.getD (k+1) 0+R=r0.getD (k+2) 0*1000000000+r0.getD (k+1) 0->zc ze r0<(q+1)*zc ze v->q*v.getD k 0<=R*1000000000+r0.getD k 0->Ends LR (L4 v8n v ((k+2:Nat):Int) v11n v12n j q 0 0 o2 (lo++r0) o0) Q:=by
   intro q R q0 q1 hqe hqu hx;refine rH v8n v11n v12n o2 o0 v lo r0 (k+2) j hn hn9 hlo hj hr hlen hjv hj1 hv hd hz hfin q ⟨q0,q1⟩ hqu ?_;rw[hW,hV];exact Ud hP ⟨hv',hv''⟩ hu' ⟨q0,q1⟩ hv1 gv2.1 hqe hx
  have e1:zf .i64 (((k+2:Nat):Int)-2)=(k:Int):=by rw[wr _ (by omega) (by omega)];omega
  have e2:zf .i64 (((k+2:Nat):Int)-1)=((k+1:Nat):Int):=by rw[wr _ (by omega) (by omega)];omega
  have e3:zf .i64 (zf .i64 ((j:Int)+((k+2:Nat):Int))-2)=((k+j:Nat):Int):=by
   rw[wr ((j:Int)+((k+2:Nat):Int)) (by omega) (by omega),wr _ (by omega) (by omega)];omega
  have g3:(lo++r0).getD (k+j) 0=r0.getD k 0:=G2 _ _ _ _ hlo;have b1:(decide ((0:Int)<=((k+1:Nat):Int))&&decide (((k+1:Nat):Int)<(v.length:Int)))=true:=by simp;omega
  have dec:zc ze r0<q*zc ze v->Ends LR (.ite (decide (zf .i64 (r+v.getD (k+1) 0)>=(1000000000:Int))) (L4 v8n v ((k+2:Nat):Int) v11n v12n j (zf .i64 (q-1)) 0 0 o2 (lo++r0) o0) (L3 v8n v ((k+2:Nat):Int) v11n v12n j a2 a1 a0 v11n v j ((k+2:Nat):Int) (zf .i64 (q-1)) (zf .i64 (r+v.getD (k+1) 0)) o2 (lo++r0) o0)) Q:=by
   intro hx;have hW0:=AA (b:=ze) (by decide) hd;have hq1:1<=q:=by
    rcases yc 0 q with g|g
    ·exact g
    ·have:q=0:=by omega
     subst this;rw[jg]at hx;omega
   have he':(q-1)*v.getD (k+1) 0+(r+v.getD (k+1) 0)=r0.getD (k+2) 0*1000000000+r0.getD (k+1) 0:=by rw[jm,yh];omega
   have hup':zc ze r0<(q-1+1)*zc ze v:=by rw[show q-1+1=q by omega];exact hx
   rw[wr (q-1) (by omega) (by omega),wr (r+v.getD (k+1) 0) (by omega) (by omega)];refine zp (fun c=>?_) (fun c=>?_)
   ·have c:=w6 c;have hlt:q-1<1000000000:=by
     rcases yc (q-1) 1000000000 with g|g
     ·exact g
     ·have a:=zk g (show 0<=v.getD (k+1) 0 by omega);have b:=zk hle (show(0:Int)<=1000000000 by omega);omega
    refine exit (q-1) _ (by omega) hlt he' hup' ?_;have a:=zh (show v.getD k 0<=999999999 by omega) (show 0<=q-1 by omega);omega
   ·have c:=w7 c;exact Dd v8n v11n v12n o2 o0 v lo r0 a2 a1 a0 k j hn hn9 hlo hj hr hlen hjv hj1 hv hd hz hv1 hle hBV hfin f (q-1) _ (by omega) (by omega) (by omega) (by omega) he' hup'
  refine zq (C5 ..) ?_;conv=>zeta
  rw[e1,e2,e3,zg,zg,zg,g3];refine zp (fun c=>zd b1 (dec ?_)) (fun c=>zd (by simp;omega) (zd (by simp;omega) (zd (by simp;omega) (zp (fun d=>zd b1 (dec ?_)) (fun d=>?_)))))
  ·have c:=w6 c;have:=zk c hV0;omega
  ·have c:=w7 c;have d:=w6 d;have a:=zh (show v.getD k 0<=999999999 by omega) h0;have b:=yb h0 gv2.1;rw[wr (q*v.getD k 0) (by omega) (by omega),wr (r*1000000000) (by omega) (by omega),wr _ (by omega) (by omega)]at d;have:=Vk (B:=ze) (u0:=r0.getD (k+2) 0) (u1:=r0.getD (k+1) 0) (u2:=r0.getD k 0) hP hv' hu'' h0 (v1:=v.getD (k+1) 0) (v2:=v.getD k 0) (r:=r) he d;rw[<-hW, <-hV]at this;exact this
  ·have c:=w7 c;have d:=w7 d;have a:=zh (show v.getD k 0<=999999999 by omega) h0;have b:=yb h0 gv2.1;rw[wr (q*v.getD k 0) (by omega) (by omega),wr (r*1000000000) (by omega) (by omega),wr _ (by omega) (by omega)]at d;exact exit q r h0 (by omega) he hup (by omega)
end T157
theorem Gj{w:List Int}(hd:Aw ze w)(hn:Sp.nz w){k:Nat}(hl:w.length=k+1):0<w.getD k 0/\w.getD k 0<1000000000:=by
 have g:=GF hd k;refine⟨?_,g.2⟩;have e:w.getLast?=some (w.getD k 0):=by
  rw[qw,hl,y9,yj,qz (by omega)];rfl
 unfold Sp.nz at hn;rw[e]at hn;have:w.getD k 0≠0:=fun h=>hn (by rw[h])
 omega
theorem Eu(d:Int):zc ze [d]=d:=by simp[zc]
namespace T157
variable {Q:PV->Ob->Prop}
theorem A4(v:List Int)(k la:Nat)(f:Int)(hf:0<f/\f<1000000000)(hn:v.length=k+2)(hla:la<=9000)(hkl:k+2<=la)(hv:Aw ze v)(hv1:1<=v.getD (k+1) 0)(W0:Int)
  (hq:∀(u qs:List Int) ob,Aw ze u->Aw ze qs->zc ze u<zc ze v->W0=zc ze u+zc ze v*zc ze qs->Q (.tup [.dat li (Av qs),.dat li (BV (zc ze u/f))]) ob):
  ∀(t:Nat) (u qs:List Int),t+qs.length=la-(k+2)+1->u.length=la+1->Aw ze u->Aw ze qs->zc ze (u.drop t)<zc ze v->W0=zc ze u+zc ze v*((ze:Int)^t*zc ze qs)->
   Ends LR (L2 1 v ((k+2:Nat):Int) (la+1) (la-(k+2)+1) ((t:Int)-1) (zj t 0++qs) u [f]) Q
 |0,u,qs,hl,hu,hd,hdq,hlt,he=>by
  have hlt:zc ze u<zc ze v:=hlt;have hVlt:=Bu (b:=ze) (by decide) hv;rw[hn]at hVlt;have hz:zc ze (u.drop (k+2))=0:=Jq (b:=ze) (by decide) hd (by omega) (by omega);have hvu:zc ze (u.take (k+2))=zc ze u:=by
   rw[Cj ze u (k+2) (by omega),hz,y7,qp]
  have ht:(zj 0 0++qs).take (la-(k+2)+1)=qs:=by
   rw[List.replicate_zero,qo];exact zn (by omega)
  have htr:=HN (AM hd (k+2));have hlr:(Av (u.take (k+2))).length<=9000:=by
   rw[FL (AM hd (k+2))];refine Nat.le_trans (Nq (k:=k+2) (AA (by decide) (AM hd (k+2))) ?_) (by omega);show zc ze (u.take (k+2))<_;rw[hvu];omega
  have e1:At (Av (u.take (k+2)))=zc ze u:=by
   show zc ze (Av _)=_;rw[Jp,hvu]
  refine zq (AV ..) (z8 (by simp) ?_);rw[zg,ht,e1];refine zd (by simp;omega) (zd rfl (zd rfl (zd (by simp;omega) (zd (Aa (Aa (LB (by omega) htr) (w4 hf.1)) (w4 hf.2)) (zd (by simp;omega) (zm (hq u qs _ hd hdq hlt (by rw[he,yf,yh]))))))))
 |j+1,u,qs,hl,hu,hd,hdq,hlt,he=>by
  obtain⟨lo,r,rfl,hlo⟩:∃lo r:List Int,u=lo++r/\lo.length=j:=⟨u.take j,u.drop j,(yu j u).symm,by rw[zz];omega⟩;have hdlo:Aw ze lo:=fun d hd'=>hd d (qk.2 (.inl hd'))
  have hdr:Aw ze r:=fun d hd'=>hd d (qk.2 (.inr hd'))
  have hrl:r.length=la+1-j:=by rw[qq]at hu;omega
  have hdrop:∀z:List Int,(lo++z).drop j=z:=fun z=>by rw[<-hlo];exact List.drop_left
  have hr0:r=r.getD 0 0::r.drop 1:=by
   have:=Ch (l:=r) (i:=0) (by omega);rw[List.drop_zero]at this;exact this
  have hd1:(lo++r).drop (j+1)=r.drop 1:=by rw[jh j 1,jh 1 j, <-qt,hdrop]
  rw[hd1]at hlt;have g0:=GF hdr 0;have hvr:zc ze r=r.getD 0 0+1000000000*zc ze (r.drop 1):=by
   conv=>lhs;rw[hr0]
   rfl
  have hVlt:=Bu (b:=ze) (by decide) hv;rw[hn]at hVlt;have hrV:zc ze r<1000000000*zc ze v:=by rw[hvr];omega
  have hz:zc ze (r.drop (k+3))=0:=by
   refine Jq (b:=ze) (by decide) hdr (by omega) ?_;have ep:(ze:Int)^(k+3)=(ze:Int)^(k+2)*1000000000:=zu ..;rw[ep];omega
  have gu0:=GF hdr (k+2);have gu1:=GF hdr (k+1);have gu2:=GF hdr k;have gv1:=GF hv (k+1);have gv2:=GF hv k;have hP:=AO (b:=ze) (by decide) k;have hW:=nG ze r k (by omega) hz;have hV:=mQ ze v k hn;have hu'':=Bu (b:=ze) (by decide) (AM hdr k);have hv':=AA (b:=ze) (by decide) (AM hv k);rw[zz,ye (by omega)]at hu'';have hle:r.getD (k+2) 0<=v.getD (k+1) 0:=by
   have a1:=Cj ze (r.drop 1) (k+1) (by rw[qh];omega);have a2:(r.drop 1).drop (k+1)=r.getD (k+2) 0::r.drop (k+3):=by
    rw[qt,show 1+(k+1)=k+2 by omega];exact Ch (by omega)
   have a3:zc ze (r.getD (k+2) 0::r.drop (k+3))=r.getD (k+2) 0:=by
    show r.getD (k+2) 0+(ze:Int)*zc ze (r.drop (k+3))=_;rw[hz];omega
   rw[a2,a3]at a1;have b1:zc ze v=zc ze (v.take (k+1))+(ze:Int)^(k+1)*v.getD (k+1) 0:=by
    rw[<-AE,zn (by omega)]
   have b2:=Bu (b:=ze) (by decide) (AM hv (k+1));rw[zz,ye (by omega)]at b2;have c1:=AA (b:=ze) (by decide) (AM (EH hdr 1) (k+1));have c2:(ze:Int)^(k+1)*r.getD (k+2) 0<(ze:Int)^(k+1)*(v.getD (k+1) 0+1):=by
    rw[zr,yr];omega
   have:=zy c2 (zo (AO (by decide) (k+1)));omega
  have hfin:∀(q:Int) (r':List Int),r'.length=r.length->Aw ze r'->(0<=q/\q<1000000000)->zc ze r'<zc ze v->zc ze r'=zc ze r-q*zc ze v->Ends LR (L2 1 v ((k+2:Nat):Int) (la+1) (la-(k+2)+1) (zf .i64 ((j:Int)-1)) ((zj (j+1) 0++qs).set j q) (lo++r') [f]) Q:=by
   intro q r' h1 h2 h3 h4 h5;have es:(zj (j+1) (0:Int)++qs).set j q=zj j 0++(q::qs):=by
    rw[qj,z6];exact Dx _ _ _ _ (by simp)
   rw[es,wr ((j:Int)-1) (by omega) (by omega)];refine A4 v k la f hf hn hla hkl hv hv1 W0 hq j (lo++r') (q::qs) (by simp;omega) (by simp;omega) (EW hdlo h2) (fun d hd'=>?_) (by rw[hdrop];exact h4) ?_
   ·rcases qi.1 hd' with rfl|hd'
    ·exact h3
    ·exact hdq d hd'
   ·rw[he,CX,CX,hlo,h5,JM];show zc ze lo+(ze:Int)^j*zc ze r+zc ze v*((ze:Int)^j*(1000000000*zc ze qs))=zc ze lo+(ze:Int)^j*(zc ze r-q*zc ze v)+zc ze v*((ze:Int)^j*(q+1000000000*zc ze qs));have x1:zc ze v*((ze:Int)^j*q)=(ze:Int)^j*(q*zc ze v):=by
     rw[ya,zw (zc ze v) q]
    rw[yw,zr ((ze:Int)^j) q,zr (zc ze v),x1];omega
  have e0:(((j+1:Nat):Int)-1)=(j:Int):=by omega
  have e1:zf .i64 ((j:Int)+((k+2:Nat):Int))=((k+2+j:Nat):Int):=by rw[wr _ (by omega) (by omega)];omega
  have e2:zf .i64 (((k+2+j:Nat):Int)-1)=((k+1+j:Nat):Int):=by rw[wr _ (by omega) (by omega)];omega
  have e3:zf .i64 (((k+2:Nat):Int)-1)=((k+1:Nat):Int):=by rw[wr _ (by omega) (by omega)];omega
  have g1:(lo++r).getD (k+2+j) 0=r.getD (k+2) 0:=G2 _ _ _ _ hlo;have g2:(lo++r).getD (k+1+j) 0=r.getD (k+1) 0:=G2 _ _ _ _ hlo;have hll:(lo++r).length=la+1:=hu;have hmul:zf .i64 (zf .i64 (r.getD (k+2) 0*1000000000)+r.getD (k+1) 0)=r.getD (k+2) 0*1000000000+r.getD (k+1) 0:=by
   rw[wr (r.getD (k+2) 0*1000000000) (by omega) (by omega)];exact wr _ (by omega) (by omega)
  have htop0:0<=r.getD (k+2) 0*1000000000+r.getD (k+1) 0:=by omega
  have hq0:0<=(r.getD (k+2) 0*1000000000+r.getD (k+1) 0)/v.getD (k+1) 0:=ql htop0 (by omega);have hqs:(r.getD (k+2) 0*1000000000+r.getD (k+1) 0)/v.getD (k+1) 0<=r.getD (k+2) 0*1000000000+r.getD (k+1) 0:=Int.ediv_le_self _ htop0;have hdm:=yk (r.getD (k+2) 0*1000000000+r.getD (k+1) 0) (v.getD (k+1) 0);have hm0:=yn (r.getD (k+2) 0*1000000000+r.getD (k+1) 0) (show v.getD (k+1) 0≠0 by omega);have hm1:=yi (r.getD (k+2) 0*1000000000+r.getD (k+1) 0) (show 0<v.getD (k+1) 0 by omega);rw[zw]at hdm;have et:zf .i64 (yq (r.getD (k+2) 0*1000000000+r.getD (k+1) 0) (v.getD (k+1) 0))=(r.getD (k+2) 0*1000000000+r.getD (k+1) 0)/v.getD (k+1) 0:=by
   rw[zt htop0];exact wr _ (by omega) (by omega)
  have em:qv (r.getD (k+2) 0*1000000000+r.getD (k+1) 0) (v.getD (k+1) 0)=(r.getD (k+2) 0*1000000000+r.getD (k+1) 0) % v.getD (k+1) 0:=zx htop0;have b2:(decide ((0:Int)<=((k+1:Nat):Int))&&decide (((k+1:Nat):Int)<((k+2:Nat):Int)))=true:=by simp;omega
  have bn:decide (v.getD (k+1) 0≠0)=true:=w4 (by omega);rw[e0];refine zq (AV ..) (zd (by simp) ?_);rw[hn,e1,e2,e3,zg,zg,zg,g1,g2,hmul,et,em,hll];refine zd (by simp;omega) (zd (w4 (by omega)) (zd (by simp;omega) (zd (w4 (by omega)) (zd b2 (zd bn (zd b2 (zd bn ?_)))))));refine Dd 1 (la+1) (la-(k+2)+1) _ [f] v lo r _ _ _ k j hn (by omega) hlo (by omega) (by omega) (by omega) (by omega) (by simp;omega) hv hdr hz hv1 hle hrV hfin (((r.getD (k+2) 0*1000000000+r.getD (k+1) 0)/v.getD (k+1) 0).toNat+1) _ _ hq0 (by omega) (by omega) ⟨hm0,by omega⟩ hdm ?_;rw[hW,hV];exact MY hP (by decide) hq0 hv' gv2.1 hu'' gu2.2 hdm hm1
theorem Ao(a v:List Int)(n la:Nat)(f:Int)(hla:a.length=la)(hla9:la<=9000)(hnl:n<=la)(hq:∀u:List Int,u.length=la+1->Aw ze u->zc ze u=zc ze a*f->Ends LR (L2 1 v n (la+1) (la-n+1) (((la-n+1:Nat):Int)-1) (zj (la-n+1) 0) u [f]) Q):
  ∀(m:Nat) (u:List Int),u.length+m=la+1->Aw ze u->zc ze u=zc ze a*f->Ends LR (L1 a 1 v n u.length u [f]) Q
 |0,u,hl,hd,he=>by
  have e1:zf .i64 ((a.length:Int)+1)=((la+1:Nat):Int):=by rw[wr _ (by omega) (by omega)];omega
  have e2:zf .i64 ((u.length:Int)-(n:Int))=((la-n+1:Nat):Int):=by rw[wr _ (by omega) (by omega)];omega
  have e3:zf .i64 (((la-n+1:Nat):Int)-1)=((la-n+1:Nat):Int)-1:=wr _ (by omega) (by omega);refine zq (Au ..) ?_;conv=>zeta
  rw[e1,e2,e3,zg];refine z8 (by simp;omega) (zd (by simp;omega) ?_);have hul:u.length=la+1:=by omega
  rw[hul];exact hq u hul hd he
 |m+1,u,hl,hd,he=>by
  have e1:zf .i64 ((a.length:Int)+1)=((la+1:Nat):Int):=by rw[wr _ (by omega) (by omega)];omega
  refine zq (Au ..) ?_;conv=>zeta
  rw[e1];refine zd (by simp;omega) (zd (by simp;omega) ?_);have:=Ao a v n la f hla hla9 hnl hq m (u++[0]) (by simp;omega) (Fh hd (by decide)) (by rw[Ci,y7,qp];exact he);rw[qq]at this;exact this
set_option maxHeartbeats 1000000 in
theorem ok:Ag Bi 157 QF:=by
 refine Cc rU (fun(i:List Int×List Int) hi=>?_);obtain⟨a,b⟩:=i;have hi:(A9 a&&A9 b&&decide (a.length<=9000)&&decide (b.length<=9000)&&decide (0<At b))=true:=hi;rw[zi,zi,zi,zi,w5,w5,w5]at hi;obtain⟨⟨⟨⟨na,nb⟩,la9⟩,lb9⟩,hb0⟩:=hi;obtain⟨_,da,za⟩:=Bo na;obtain⟨_,db,zb⟩:=Bo nb;have hb0:0<zc ze b:=hb0;have ha0:=AA (b:=ze) (by decide) da;have hg:∀q r ob,q=BV (At a/At b)->r=BV (At a % At b)->Ad QF (a,b) (PV.tup [PV.dat li q,PV.dat li r]) ob:=fun q r ob e1 e2=>yz rfl rfl (Prod.ext e1 e2)
 have hbne:b≠[]:=by rintro rfl;simp[zc]at hb0
 have hblen:b.length≠0:=fun h=>hbne (z7.1 h)
 refine yt (An a b) (zd (by rw[na,nb];rfl) (zp (fun c=>?_) (fun c=>?_)))
 ·have c:=w6 c;have hlt:zc ze a<zc ze b:=by
   unfold Co at c;have c:(if zc ze a<zc ze b then(-1:Int)else if zc ze a>zc ze b then 1 else 0)<0:=c;split at c
   ·assumption
   ·split at c<;>omega
  refine zm (yz rfl rfl ?_);show([],a)=(BV (zc ze a/zc ze b),BV (zc ze a % zc ze b));rw[qf ha0 hlt,Int.emod_eq_of_lt ha0 hlt];exact Prod.ext rfl (Ix (by decide) da za)
 ·have c:=w7 c;have hge:zc ze b<=zc ze a:=by
   rcases yc (zc ze a) (zc ze b)with g|g
   ·have:Co (At a) (At b)= -1:=wd g;omega
   ·exact g
  have hll:b.length<=a.length:=by
   rcases Nat.lt_or_ge a.length b.length with g|g
   ·have:=EJ (b:=ze) (by decide) da db zb g;omega
   ·exact g
  refine zp (fun c1=>?_) (fun c1=>?_)
  ·have c1:b.length=1:=by
    have:(b.length:Int)=1:=by simpa using c1
    omega
   obtain⟨d,rfl⟩:=ji.1 c1;have hd:0<d/\d<1000000000:=Gj (k:=0) db zb rfl;have m0:=yn (zc ze a) (show d≠0 by omega);have m1:=yi (zc ze a) hd.1;refine zd rfl (zd (Aa (Aa (LB (by omega) da) (w4 hd.1)) (w4 hd.2)) (zd rfl (zm (hg _ _ _ ?_ ?_))))
   ·show BV (zc ze a/d)=BV (zc ze a/zc ze [d]);rw[Eu]
   ·show Av [zc ze a % d]=BV (zc ze a % zc ze [d]);rw[Eu,FL (fun x hx=>by rw[qc]at hx;subst hx;show 0<=_/\_<(1000000000:Int);omega)];show BV (zc ze [_])=_;rw[Eu]
  ·have c1:b.length≠1:=by
    have:(b.length:Int)≠1:=by simpa using c1
    omega
   obtain⟨k,hk⟩:∃k,b.length=k+2:=⟨b.length-2,by omega⟩;obtain⟨y0,y1⟩:=Gj (k:=k+1) db zb hk;have e1:zf .i64 (((k+2:Nat):Int)-1)=((k+1:Nat):Int):=by rw[wr _ (by omega) (by omega)];omega
   have e2:zf .i64 (b.getD (k+1) 0+1)=b.getD (k+1) 0+1:=wr _ (by omega) (by omega);have f0:0<1000000000/(b.getD (k+1) 0+1):=by
    have:=Int.le_ediv_of_mul_le (a:=1) (b:=1000000000) (c:=b.getD (k+1) 0+1) (by omega) (by omega);omega
   have f1:1000000000/(b.getD (k+1) 0+1)<1000000000:=qg (by omega) (by omega);have f2:1000000000/(b.getD (k+1) 0+1)*(b.getD (k+1) 0+1)<=1000000000:=Int.ediv_mul_le _ (by omega);have e3:zf .i64 (yq 1000000000 (b.getD (k+1) 0+1))=1000000000/(b.getD (k+1) 0+1):=by
    rw[zt (by decide)];exact wr _ (by omega) (by omega)
   rw[hk,e1,zg,e2,e3];generalize 1000000000/(b.getD (k+1) 0+1)=f at*;have hdf:Aw ze [f]:=fun x hx=>by rw[qc]at hx;subst hx;show 0<=_/\_<(1000000000:Int);omega
   have hvf:At [f]=f:=Eu f;rw[hvf];have hv1:(ze:Int)^(k+1)<=zc ze b*f:=by
    have a1:=Dk (b:=ze) (by decide) db zb hbne;rw[hk,show k+2-1=k+1 by omega]at a1;have a2:=zh (show 1<=f by omega) (zo hb0);omega
   have hv2:zc ze b*f<(ze:Int)^(k+2):=by
    have b1:zc ze b=zc ze (b.take (k+1))+(ze:Int)^(k+1)*b.getD (k+1) 0:=by
     rw[<-AE,zn (by omega)]
    have b2:=Bu (b:=ze) (by decide) (AM db (k+1));rw[zz,ye (by omega)]at b2;have hp:=AO (b:=ze) (by decide) (k+1);have b3:zc ze b<(ze:Int)^(k+1)*(b.getD (k+1) 0+1):=by
     rw[zr,yr];omega
    have b4:=yv b3 f0;have b5:=zh f2 (zo hp);have b6:(ze:Int)^(k+2)=(ze:Int)^(k+1)*1000000000:=zu ..;rw[yd,zw (b.getD (k+1) 0+1) f]at b4;omega
   have hV0:0<=zc ze b*f:=yb (zo hb0) (by omega);have hU0:0<=zc ze a*f:=yb ha0 (by omega);have hU1:zc ze a*f<(ze:Int)^(a.length+1):=by
    have a1:=Bu (b:=ze) (by decide) da;have a2:=yv a1 f0;have a3:=zh (show f<=1000000000 by omega) (zo (AO (b:=ze) (by decide) a.length));have a4:(ze:Int)^(a.length+1)=(ze:Int)^a.length*1000000000:=zu ..;omega
   have vd:=Fp (b:=ze) (by decide) (zc ze b*f);have vz:=Xj (b:=ze) (by decide) (zc ze b*f);have vv:zc ze (Sp.dg ze (zc ze b*f))=zc ze b*f:=CV (by decide) hV0;have vl:=gC (b:=ze) (by decide) vd vz (k:=k+1) (by rw[vv];exact hv1) (by rw[vv];exact hv2);have v1:=(Gj vd vz vl).1;have ud:=Fp (b:=ze) (by decide) (zc ze a*f);have uv:zc ze (Sp.dg ze (zc ze a*f))=zc ze a*f:=CV (by decide) hU0;have ul:=Nq (k:=a.length+1) hU0 hU1;have hfa:Sp.hR [f]=true:=Rb (by simp) hdf;have bd:decide ((2*(0+(BV (At a*f)).length)+1000)*8<=281474976710656)=true:=w4 (by have:(BV (At a*f)).length<=a.length+1:=ul;omega);refine zd (by simp;omega) (zd (w4 (by omega)) (zd (by rw[Rb lb9 db,hfa];rfl) (zd (by rw[Rb la9 da,hfa];rfl) (zd bd ?_))));have ez:j7 0 (BV (At a*f)).length=(BV (At a*f)).length:=j5 _;have evl:(BV (At b*f)).length=k+2:=vl;rw[ez,qo,evl];refine Ao a (BV (At b*f)) (k+2) a.length f rfl la9 (by omega) (fun u hul hud huv=>?_) (a.length+1-(BV (At a*f)).length) (BV (At a*f)) (by have:(BV (At a*f)).length<=a.length+1:=ul;omega) ud uv;have hpn:=AO (b:=ze) (by decide) (a.length-(k+2)+1);have start:zc ze (u.drop (a.length-(k+2)+1))<zc ze (BV (At b*f)):=by
    have a1:=Cj ze u (a.length-(k+2)+1) (by omega);have a2:=AA (b:=ze) (by decide) (AM hud (a.length-(k+2)+1));have a3:=Bu (b:=ze) (by decide) da;have a4:=yv a3 f0;have a5:(ze:Int)^a.length=(ze:Int)^(a.length-(k+2)+1)*(ze:Int)^(k+1):=by rw[<-jo,show a.length-(k+2)+1+(k+1)=a.length by omega]
    have a6:=Dk (b:=ze) (by decide) db zb hbne;rw[hk,show k+2-1=k+1 by omega]at a6;have a7:=zk a6 (show 0<=f by omega);have a8:=zh a7 (zo hpn);rw[a5,yd]at a4;show _<zc ze (Sp.dg ze (zc ze b*f));rw[vv];refine zy (a:=(ze:Int)^(a.length-(k+2)+1)) ?_ (zo hpn);omega
   have go:=A4 (Q:=Ad QF (a,b)) (BV (At b*f)) k a.length f ⟨f0,f1⟩ evl la9 (by omega) vd (by have:0<(BV (At b*f)).getD (k+1) 0:=v1;omega) (zc ze a*f) (fun u' qs ob hud' hdq hlt' he=>by
    have vv':zc ze (BV (At b*f))=zc ze b*f:=vv;rw[vv']at he hlt';have e:zc ze u'=f*(zc ze a-zc ze qs*zc ze b):=by
     have x1:zc ze b*f*zc ze qs=f*(zc ze qs*zc ze b):=by
      rw[zw (zc ze b) f,yd,zw (zc ze b)]
     rw[x1,zw (zc ze a)]at he;rw[yw];omega
    have h0:=AA (b:=ze) (by decide) hud';have r0:0<=zc ze a-zc ze qs*zc ze b:=by
     rw[e]at h0;exact Int.nonneg_of_mul_nonneg_right h0 f0
    have r1:zc ze a-zc ze qs*zc ze b<zc ze b:=by
     rw[e,zw (zc ze b) f]at hlt';exact zy hlt' (by omega)
    obtain⟨u1,u2⟩:=(yo (a:=zc ze a) (b:=zc ze b) (r:=zc ze a-zc ze qs*zc ze b) (q:=zc ze qs) hb0).2 ⟨by rw[zw (zc ze b)];omega,r0,r1⟩;refine hg _ _ ob ?_ ?_
    ·rw[FL hdq];show BV (zc ze qs)=BV (zc ze a/zc ze b);rw[u1]
    ·show BV (zc ze u'/f)=BV (zc ze a % zc ze b);rw[u2,e,q9 _ (by omega)]) (a.length-(k+2)+1) u [] (by simp) hul hud (fun x hx=>by cases hx) start (by rw[huv];simp[zc])
   rw[qm]at go;exact go
end T157
theorem mO:Ey XG3:=Ab T157.ok AU
namespace T129
variable {Q:PV->Ob->Prop}
theorem Ao(g:Nat)(L:Int)(hL:∀n:Nat,(n:Int)<L->A9 (BV (n:Int))=true/\At (BV (n:Int))=n/\(BV (n:Int)).length<=9000)(hq:∀ob,Q (.dat li (BV (g:Int))) ob):∀(f x y:Nat),y<f->j8 x y=g->(x:Int)<L->(y:Int)<L->
  Ends XG3 (L1 (BV (x:Int)) (BV (y:Int))) Q
 |0,x,y,h,_,_,_=>by omega
 |f+1,x,y,hy,hg,bx,by'=>by
  obtain⟨nx,vx,lx⟩:=hL x bx;obtain⟨ny,vy,ly⟩:=hL y by'
  refine zq (Au ..) ?_;conv=>zeta
  by_cases h0:y=0
  ·subst h0;rw[Nat.gcd_zero_right]at hg;subst hg;exact z8 rfl (zm (hq _))
  ·have hlt:x % y<y:=Nat.mod_lt _ (by omega);have hl:(BV (y:Int)).length≠0:=by
    intro h;have:=z7.1 h;rw[this]at vy;simp[At,zc]at vy;omega
   rw[vx,vy,Tv];refine zd (by simp;omega) (zd (Aa (Aa (Aa (Aa nx ny) (w4 lx)) (w4 ly)) (w4 (by omega))) ?_);exact Ao g L hL hq f y (x % y) (by omega) (by rw[jj, <-Nat.gcd_rec,jj];exact hg) by' (by omega)
theorem U2{a:List Int}(h:A9 a=true):a=BV (At a)/\0<=At a:=by
 obtain⟨_,d,z⟩:=Bo h;exact⟨Ix (by decide) d z,AA (by decide) d⟩
theorem We(n:Nat)(h:(n:Int)<(ze:Int)^9000):A9 (BV (n:Int))=true/\At (BV (n:Int))=n/\(BV (n:Int)).length<=9000:=by
 obtain⟨a,_,b,c⟩:=Hc (n:=(n:Int)) (k:=9000) (Int.natCast_nonneg n) h (by decide);exact⟨a,b,c⟩
theorem ok:Ag Bi 129 K3:=by
 refine Cc mO (fun(i:List Int×List Int) hi=>?_);obtain⟨a,b⟩:=i;have hi:(A9 a&&A9 b&&decide (a.length<=9000)&&decide (b.length<=9000))=true:=hi;rw[zi,zi,zi,w5,w5]at hi;obtain⟨⟨⟨na,nb⟩,la9⟩,lb9⟩:=hi;obtain⟨ea,a0⟩:=U2 na;obtain⟨eb,b0⟩:=U2 nb;have la:At a<(ze:Int)^9000:=qd (Bu (b:=ze) (by decide) (Bo na).2.1) (AL (by decide) la9);have lb:At b<(ze:Int)^9000:=qd (Bu (b:=ze) (by decide) (Bo nb).2.1) (AL (by decide) lb9);have key:∀(x y:Nat),At a=x->At b=y->Ends XG3 (L1 a b) (Ad K3 (a,b)):=by
  intro x y hx hy;rw[ea,eb,hx,hy];rw[hx]at la;rw[hy]at lb;refine Ao (j8 x y) _ We (fun ob=>yz rfl rfl ?_) (y+1) x y (Nat.lt_succ_self _) rfl la lb;have e:Sp.gI (At (BV (x:Int))) (At (BV (y:Int)))=((j8 x y:Nat):Int):=by
   rw[(We x la).2.1,(We y lb).2.1,FA];rfl
  exact wi BV e.symm
 obtain⟨x,hx⟩:=qe a0;obtain⟨y,hy⟩:=qe b0;exact yt (An a b) (key x y hx hy)
end T129
theorem pE:Ey Y6:=
 Ab (GO (by kernel_rfl) (BD (by kernel_rfl))) (Ab (GO (by kernel_rfl) (BD (by kernel_rfl))) (Ab (GO (by kernel_rfl) (BD (by kernel_rfl))) (Ab (GO (by kernel_rfl) (BD (by kernel_rfl))) AU)))
theorem EN:Ey NQ:=fun g sp h=>by cases h
namespace T195
variable {Q:PV->Ob->Prop}
theorem zT:∀i:Fin 10,(Dv.getD i.1 0).toNat<128:=by decide
theorem ER(s:List UInt8)(i:Nat)(o:List Bool)(hi:i<10)(ho:o.length=256)(h:Ends Y6 (L2 s Dv Dv ((i+1:Nat):Int) (o.set (Dv.getD i 0).toNat true)) Q):Ends Y6 (L2 s Dv Dv (i:Int) o) Q:=by
 have hl:Dv.length=10:=rfl;have hc:=zT ⟨i,hi⟩;have hc:(Dv.getD i 0).toNat<128:=hc;have e:zf .i64 ((i:Int)+1)=((i+1:Nat):Int):=by rw[wr _ (by omega) (by omega)];omega
 refine zq (AV ..) ?_;conv=>zeta
 rw[hl,e,zg,zg];exact zd (w4 (by omega)) (zd (Aa (w4 (by omega)) (w4 (by omega))) (z8 (w8 (by omega)) (zd (Aa (w4 (show(0:Int)<=((Dv.getD i 0).toNat:Int)by omega)) (w4 (by omega))) (zd (w4 (by omega)) h))))
def Tb(o:List Bool):Prop:=o.length=256/\∀c:UInt8,o.getD c.toNat false=BT c
theorem Cs(s t v0:List UInt8)(v4:Int)(o0:List Bool)(v0':List UInt8)(o1 o0':List Bool)(p1 p0:List Bool)(hT:Tb p1):∀(w:List UInt8),(∀ob,Q (.dat .str (w.dropWhile BT)) ob)->Ends Y6 (L7 s t v0 v4 o0 v0' o1 o0' w p1 p0) Q
 |[],hq=>zq (Ew ..) (z8 (by simp) (zm (hq _)))
 |c::r,hq=>by
  have hc:c.toNat<256:=c.toNat_lt;have g0:(c::r).getD 0 0=c:=rfl;have e:(List.drop 1 (c::r)).take (j6 (c::r).length 1)=r:=by show r.take ((r.length+1)-1)=r;rw[y9];exact y8
  refine zq (Ew ..) ?_;conv=>zeta
  rw[g0,zg,hT.2,hT.1,e];refine zd (by simp) (zd (by simp) (zd (Aa (w4 (show(0:Int)<=(c.toNat:Int)by omega)) (w4 (by omega))) (zd (w4 hc) (zp (fun d=>?_) (fun d=>zd (by simp) ?_)))))
  ·have d:BT c=false:=by simpa using d
   rw[yp,wc (by rw[d];decide)]at hq;exact zm (hq _)
  ·have d:BT c=true:=by simpa using d
   rw[yp,wd d]at hq;exact Cs s t v0 v4 o0 v0' o1 o0' p1 p0 hT r hq
theorem BX(s t v0:List UInt8)(v4:Int)(o0:List Bool)(o1 o0':List Bool)(hT:Tb o1):∀(n:Nat) (w:List UInt8),w.length=n->n<=1000000->(∀ob,Q (.dat .str (((w.reverse.dropWhile BT).reverse).dropWhile BT)) ob)->Ends Y6 (L4 s t v0 v4 o0 w o1 o0') Q
 |0,w,hl,_,hq=>by
  have:w=[]:=z7.1 hl;subst this;exact zq (CT ..) (z8 (by simp) (zq (HX ..) (z8 (by simp) (zm (hq _)))))
 |n+1,w,hl,hn,hq=>by
  obtain⟨p,c,rfl⟩:∃p c,w=p++[c]:=by
   have hne:w≠[]:=by rintro rfl;simp at hl
   exact⟨w.dropLast,w.getLast hne,(qn hne).symm⟩
  have hp:p.length=n:=by simpa using hl
  have hc:c.toNat<256:=c.toNat_lt;have e1:zf .i64 (((p++[c]).length:Int)-1)=(n:Int):=by rw[hl,wr _ (by omega) (by omega)];omega
  have g1:(p++[c]).getD n 0=c:=DD _ _ _ _ hp;have t1:(p++[c]).take n=p:=by rw[<-hp];exact jt
  have hr:(p++[c]).reverse=c::p.reverse:=by simp
  rw[hr,yp]at hq;refine zq (CT ..) (zd (w4 (by omega)) ?_);rw[e1,zg,g1,t1,zg,hT.2,hT.1,hl];refine zd (by simp;omega) (zd (Aa (w4 (show(0:Int)<=(c.toNat:Int)by omega)) (w4 (by omega))) (zd (w4 hc) (zp (fun d=>?_) (fun d=>zd (by simp) ?_))))
  ·have d:BT c=false:=by simpa using d
   rw[wc (by rw[d];decide),List.reverse_cons,List.reverse_reverse]at hq;exact Cs s t v0 v4 o0 _ o1 o0' o1 o0' hT (p++[c]) hq
  ·have d:BT c=true:=by simpa using d
   rw[wd d]at hq;exact BX s t v0 v4 o0 o1 o0' hT n p hp (by omega) hq
theorem zI{o:List Bool}(h1:o.length=256)(h2:∀c:Fin 256,o.getD c.1 false=(Nat.ble 48 c.1&&Nat.ble c.1 57)):Tb o:=by
 refine⟨h1,fun c=>?_⟩;have:=h2 ⟨c.toNat,c.toNat_lt⟩;rw[show o.getD c.toNat false=_ from this];unfold BT;rw[Bool.eq_iff_iff];simp[Nat.ble_eq]
theorem ok:Ag Bi 195 WH:=by
 refine Cc pE (fun(i:List UInt8×List UInt8) hi=>?_);obtain⟨s,t⟩:=i;have hi:(decide (t=Dv)&&decide (s.length<=1000000))=true:=hi;rw[zi,w5,w5]at hi;obtain⟨rfl,hl⟩:=hi;have hq:∀ob,Ad WH (s,Dv) (.dat .str (((s.reverse.dropWhile BT).reverse).dropWhile BT)) ob:=fun ob=>yz rfl rfl rfl
 refine yt (An s Dv) (zp (fun c=>?_) (fun c=>z8 (by decide) (z8 (by decide) ?_)))
 ·have c:s=[]:=by simpa using c
  subst c;exact zm (hq _)
 ·refine ER s 0 _ (by decide) rfl (ER s 1 _ (by decide) rfl (ER s 2 _ (by decide) rfl (ER s 3 _ (by decide) rfl (ER s 4 _ (by decide) rfl (ER s 5 _ (by decide) rfl (ER s 6 _ (by decide) rfl (ER s 7 _ (by decide) rfl (ER s 8 _ (by decide) rfl (ER s 9 _ (by decide) rfl ?_)))))))));refine zq (AV ..) (z8 (by decide) (zd (by decide+kernel) (zd (by decide+kernel) (zd (by decide+kernel) (zd rfl (BX s _ _ _ _ _ _ (zI rfl ?_) s.length s rfl hl hq))))));decide+kernel
end T195
theorem qV:Ey XH1:=Ab T195.ok AU
theorem dropWhile_nil{p:UInt8->Bool}:∀ {l:List UInt8},l.dropWhile p=[]↔l.all p=true
 |[]=>by simp
 |a::l=>by
  rw[yp,List.all_cons];cases h:p a with
  |true=>simp only[wk,jc];exact dropWhile_nil
  |false=>simp
theorem Io{p:UInt8->Bool}:∀ {l:List UInt8} {a:UInt8} {r:List UInt8},l.dropWhile p=a::r->p a=false
 |[],a,r,h=>by simp at h
 |b::l,a,r,h=>by
  rw[yp]at h;cases hb:p b with
  |true=>rw[hb,wd rfl]at h;exact Io h
  |false=>
   rw[hb]at h;simp at h;rw[<-h.1];exact hb
theorem Mb(s:List UInt8):O9 s=[]↔Aj s=true:=by
 unfold O9 Aj;rw[dropWhile_nil,jf];constructor
 ·intro h;cases hd:s.reverse.dropWhile BT with
  |nil=>have:=dropWhile_nil.1 hd;rwa [jf]at this
  |cons a r=>
   rw[hd,List.all_cons,Io hd]at h;cases h
 ·intro h;have:s.reverse.dropWhile BT=[]:=dropWhile_nil.2 (by rwa [jf]);rw[this];rfl
theorem T141.ok:Ag Bi 141 V7:=by
 refine Cc qV (fun(s:List UInt8) hl=>?_);have hl:s.length<=1000000:=w6 hl;have hq:∀v b ob,v=.bl b\/v=.dat .bool b->b=AR s->Ad V7 s v ob:=by
  rintro v b ob (rfl|rfl) hb
  ·exact yz rfl rfl hb
  ·exact yz rfl rfl hb
 refine yt (T141.An s) (zp (fun c=>zd ?_ (zp (fun d=>zd ?_ (zp (fun e=>zm (hq _ _ _ (.inl rfl) ?_)) (fun e=>zm (hq _ _ _ (.inr rfl) ?_)))) (fun d=>zm (hq _ _ _ (.inl rfl) ?_)))) (fun c=>zm (hq _ _ _ (.inl rfl) ?_)))
 ·exact Aa (w4 rfl) (w4 hl)
 ·have c:s≠[]:=by simpa using c
  have:s.length≠0:=fun h=>c (z7.1 h)
  exact w4 (by omega)
 ·have c:s≠[]:=by simpa using c
  have d:O9 s=[]:=by simpa using d
  have d:=(Mb s).1 d;have e:s.getD 0 0≠48:=by
   intro h;rw[h]at e;exact wh e (by decide)
  unfold AR;rw[d,w4 c,w4 e];rfl
 ·have c:s≠[]:=by simpa using c
  have d:O9 s=[]:=by simpa using d
  have d:=(Mb s).1 d;have e:s.getD 0 0=48:=by
   have:((s.getD 0 0).toNat:Int)=48:=by simpa using e
   exact UInt8.toNat_inj.1 (by show _=48;omega)
  unfold AR;rw[d,w4 c,w8 (by rw[e];exact fun h=>h rfl)];show(s==[48])=decide (s=[48]);rw[Bool.eq_iff_iff];simp
 ·have d:¬O9 s=[]:=by simpa using d
  have d:Aj s=false:=by
   cases h:Aj s with
   |true=>exact wh ((Mb s).2 h) d
   |false=>rfl
  unfold AR;rw[d];simp
 ·have c:s=[]:=by simpa using c
  subst c;rfl
theorem T140.ok:Ag Bi 140 tM:=by
 refine Cc EN (fun(i:List UInt8×List UInt8) hi=>?_);obtain⟨s,t⟩:=i;have hi:(decide (t=[45])&&decide (s.length<=1000000))=true:=hi;rw[zi,w5,w5]at hi;obtain⟨rfl,hl⟩:=hi;have hno:s.getD 0 0≠45->(s,false)=(AZ s,Sp.preB s):=fun h=>by
  unfold AZ Sp.preB;rw[wc h,w8 h]
 refine yt (T140.An s [45]) ?_;conv=>zeta
 cases s with
 |nil=>exact z8 (by decide) (zm (yz rfl rfl (hno (by decide))))
 |cons c r=>
  have ht:(c::r).take 1=[c]:=rfl;refine zd (by simp;omega) (zd (by simp) ?_);show Ends NQ (.ite (!List.take 1 (c::r)==[45]) _ _) _;rw[ht];refine zp (fun d=>zm (yz rfl rfl (hno ?_))) (fun d=>zd (by simp) (zm (yz rfl rfl ?_)))
  ·show c≠45;rintro rfl;exact wh d (by decide)
  ·have d:c=45:=by simpa using d
   subst d;show(((List.drop 1 ((45:UInt8)::r)).take (j6 ((45:UInt8)::r).length 1)),true)=(AZ (45::r),Sp.preB (45::r));have e:(List.drop 1 ((45:UInt8)::r)).take (j6 ((45:UInt8)::r).length 1)=r:=by show r.take ((r.length+1)-1)=r;rw[y9];exact y8
   rw[e];rfl
theorem wH{F:Fz}{s:List UInt8}{c:Int}{args:List V}(h:MF F (Af [Sh.str,Sh.int .u8] (s,c)) args):args=[.str s,.int .u8 c]:=by
 have:=h (fun _=>none) 0;simp only[Af,Cd,Bd]at this;obtain⟨a,as1,rfl,h1,b,as2,rfl,h2,rfl⟩:=this;simp only[PR,DC,List.cons.injEq,wn]at h1 h2;rw[h1,h2]
theorem T274.ok:Ag Bi 274 tG:=by
 refine .inr ⟨PK.indexByte.run,by kernel_rfl,fun F h args i ha hp=>?_⟩;obtain⟨s,c⟩:=i;have:=wH ha;subst this;refine⟨Ua (s.findIdx? fun x=>x==c.toNat.toUInt8),rfl,fun ρ N=>?_⟩;show PR F ρ N (.dat i64 (Oa s c)) _;unfold Oa;cases s.findIdx? fun x=>x==c.toNat.toUInt8 with
 |none=>simp[PR,DC,Ua]
 |some i=>simp[PR,DC,Ua,Det.i64]
theorem sK:Ey XH2:=Ab T274.ok AU
theorem VF{p:UInt8->Bool}{s:List UInt8}{i:Nat}(h:s.findIdx? p=some i):i<s.length:=(List.findIdx?_eq_some_iff_getElem.1 h).1
theorem T131.ok:Ag Bi 131 jL:=by
 refine Cc sK (fun(i:List UInt8×List UInt8) hi=>?_);obtain⟨s,t⟩:=i;have hi:(decide (t=[47])&&decide (s.length<=1000000))=true:=hi;rw[zi,w5,w5]at hi;obtain⟨rfl,hl⟩:=hi;have hany:s.any (fun x=>x==47)=(s.findIdx? fun x=>x==47).isSome:=by
  rw[List.findIdx?_isSome]
 refine yt (T131.An s [47]) (z8 (by decide) (zp (fun c=>?_) (fun c=>zd (by decide) (zd (by decide) (zd (by decide) ?_)))))
 ·have c:s=[47]:=by
   have:[47]=s:=by simpa using c
   exact this.symm
  subst c;exact zd rfl (zd rfl (zd rfl (zm (yz rfl rfl rfl))))
 ·have ei:Oa s (((([47]:List UInt8).getD 0 0).toNat:Nat):Int)=match s.findIdx? (fun x=>x==47)with
   |some i=>(i:Int)
   |none=> -1:=rfl
  cases hf:s.findIdx? (fun x=>x==47)with
  |none=>
   rw[hf]at ei;have ei:Oa s (((([47]:List UInt8).getD 0 0).toNat:Nat):Int)= -1:=ei;rw[ei];refine z8 (by decide) (zm (yz rfl rfl ?_));show(s,[],false)=(Ay s,Sp.AN s,Bs s);unfold Ay Sp.AN Bs;rw[hany,hf];rfl
  |some k=>
   rw[hf]at ei;have ei:Oa s (((([47]:List UInt8).getD 0 0).toNat:Nat):Int)=(k:Int):=ei;have hk:=VF hf;have e1:zf .i64 ((k:Int)+(([47]:List UInt8).length:Int))=((k+1:Nat):Int):=by
    show zf .i64 ((k:Int)+1)=_;rw[wr _ (by omega) (by omega)];omega
   rw[ei,e1,zg,zg];refine zd (by simp) (zd (by simp;omega) (zd (by simp;omega) (zm (yz rfl rfl ?_))));show(s.take k,(s.drop (k+1)).take (j6 s.length (k+1)),true)=(Ay s,Sp.AN s,Bs s);unfold Ay Sp.AN Bs;have e2:(s.drop (k+1)).take (j6 s.length (k+1))=s.drop (k+1):=zn (by rw[qh];exact Nat.le_refl _);rw[hany,hf,e2];rfl
end Go.Pe
