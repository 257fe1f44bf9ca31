import Derived.Test.YtknhdhchejmpgaaGreatDoorX11
import Derived.Test.YtknhdhchejmpgaaGreatDoorX10
/- A part of a proof (no law is stated here). Made by program out of texts by AI agents. -/
open Go.Sp renaming val → zc, B9 → ze, vI → zl, AW → yH, sg → yM
open Go.Pe.Ends renaming tt → zd, leaf → zm, ite → zp, As → zq, ff → zC, eq → zT
open Go.IntKind renaming wrap → zf
open Int renaming toNat_natCast → zg, mul_le_mul_of_nonneg_left → zh, mul_le_mul_of_nonneg_right → zk, le_of_lt → zo, mul_add → zr, tdiv_eq_ediv_of_nonneg → zt, pow_succ → zu, mul_comm → zw, tmod_eq_emod_of_nonneg → zx, lt_of_mul_lt_mul_left → zy, mul_left_comm → zD, mul_nonneg → zE, lt_or_le → zF, mul_assoc → zG, pow_zero → zI, one_mul → zK, emod_lt_of_pos → zL, mul_ediv_add_emod → zN, emod_nonneg → zO, ediv_emod_unique → zP, tdiv → zR, mul_one → zS, mul_lt_mul_of_pos_right → zV, mul_sub → zW, pow_pos → zX, fdiv_eq_ediv_of_nonneg → zY, mul_zero → z6, lt_of_lt_of_le → yb, eq_ofNat_of_zero_le → yc, ediv_eq_zero_of_lt → yd, ediv_lt_of_lt_mul → ye, ediv_nonneg → yj, add_zero → yo, mul_lt_mul_of_pos_left → yr, tmod → yt, le_refl → yv, add_assoc → yw, mul_ediv_cancel_left → yy, zero_mul → yC, sub_mul → yI, pow_add → yJ, mul_neg → yL
open Bool renaming and_eq_true → zi, true_and → yz
open List renaming replicate → zj, take_of_length_le → zn, length_take → zz, append_assoc → zA, length_eq_zero_iff → zB, getD_eq_getElem?_getD → zM, dropWhile_cons → zQ, take_append_drop → zU, take_length → z7, mem_singleton → ya, length_drop → yf, mem_cons → yg, replicate_succ' → yh, mem_append → yi, append_nil → yk, dropLast_concat_getLast → ym, nil_append → yn, length_append → yp, drop_drop → yq, getLast?_eq_getElem? → yu, getElem?_eq_getElem → yx, drop_length → yA, all_reverse → yB, length_eq_one_iff → yE, drop_eq_nil_of_le → yG, take_left → yK
open Nat renaming min_eq_left → zH, add_sub_cancel → z8, add_comm → yD, gcd_comm → yF, zero_add → yN, sub → yO, add → yP, gcd → yQ
open BitVec renaming ofInt → zJ
open Go.Pe.Af renaming of → zZ
section
namespace Go.Pe
open Sp
open Go.Det
namespace T230
variable {Q:PV→Ob→Prop}
theorem vD(q x:Int):PQ q x*18446744073709551616+Hu q x=q*x∧0≤Hu q x∧Hu q x<18446744073709551616:=by
 unfold PQ Hu;generalize q*x=P;omega
theorem Cj(v9:Int)(v10:List Int)(v11n:Nat)(v12:Int)(v13n:Nat)(o1 o0:List Int)(v0c:Nat)(v:List Int)(k j:Nat)(lo:List Int)(m:Nat)(r0 o1':List Int)
  (hn:v.length=k+2) (hn9:k+2≤9000) (hm:k+3≤m) (hlo:lo.length=j) (hjv:j<v13n) (hj1:j<o1'.length) (hv:At Aj v)
  (hr:r0.length=m) (hd:At Aj r0) (hz:zc Aj (r0.drop (k+3))=0) (hv1:1≤v.getD (k+1) 0)
  (hfin:∀(q:Int) (r:List Int),r.length=m→At Aj r→(0≤q∧q<18446744073709551616)→zc Aj r<zc Aj v→zc Aj r=zc Aj r0-q*zc Aj v→Ends Ic (L4 v9 v10 v11n v12 v13n (zf .i64 ((j:Int)-1)) (o1'.set j q) (lo++r)) Q):
  ∀(f:Nat) (q r o:Int),0≤q→q<f→q<18446744073709551616→Sp.u64 r=true→(o=0∨o=1)→q*v.getD (k+1) 0+(r+18446744073709551616*o)=r0.getD (k+2) 0*18446744073709551616+r0.getD (k+1) 0→zc Aj r0<(q+1)*zc Aj v→
   Ends Ic (L5 v9 v10 v11n v12 v13n j o1 o0 j (k+3) v0c v ((k+2:Nat):Int) q r o o1' (lo++r0)) Q
 |0,q,r,o,h0,hf,_,_,_,_,_=>by omega
 |f+1,q,r,o,h0,hf,hB,hr64,ho,he,hup=>by
  have uq:Sp.u64 q=true:=Cu h0 hB;have uv2:=AP hv k;have uv1:=AP hv (k+1);have uu2:=AP hd k;have gv2:=yH uv2;have gv1:=yH uv1;have gu2:=yH uu2;have gr:=yH hr64;have hP:=AM (b:=Aj) (by decide) k;have hW:=gM Aj r0 k (by omega) hz;have hV:=gQ Aj v k hn;have hu':=Ay (b:=Aj) (by decide) (AK hd k);have hu'':=Bm (b:=Aj) (by decide) (AK hd k);have hv':=Ay (b:=Aj) (by decide) (AK hv k);have hv'':=Bm (b:=Aj) (by decide) (AK hv k);rw[zz,zH (by omega)]at hu'' hv'';have exit:q*v.getD k 0≤(r+18446744073709551616*o)*18446744073709551616+r0.getD k 0→Ends Ic (L7 v9 v10 v11n v12 v13n j o1 o0 j (k+3) v0c v ((k+2:Nat):Int) q 0 0 ((k+2:Nat):Int) 0 o1' (lo++r0)) Q:=by
   intro hx;refine jH v9 v10 v11n v12 v13n o1 o0 v0c v (k+2) j lo m r0 o1' hn hn9 hm hlo hjv hj1 hv hr hd hz hfin q uq hup ?_;rw[hW,hV];exact TR hP ⟨hv',hv''⟩ hu' ⟨h0,hB⟩ hv1 gv2.1 he hx
  have e1:zf .i64 (((k+2:Nat):Int)-2)=(k:Int):=by rw[wr _ (by omega) (by omega)];omega
  have e2:zf .i64 (((k+2:Nat):Int)-1)=((k+1:Nat):Int):=by rw[wr _ (by omega) (by omega)];omega
  obtain⟨w1,w2,w3⟩:=vD q (v.getD k 0);have hlw:decide (yP k j<(lo++r0).length)=true:=lw hlo (by omega);refine zq (Gk ..) (zp (fun c=>?_) (fun c=>?_))
  ·have c:o=0:=by simpa using c
   subst c;rw[e1,e2,zg,zg,gw hlo];refine zd (by simp;omega) (zd (Ac uq uv2) ?_);have dec:r*18446744073709551616+r0.getD k 0<q*v.getD k 0→Ends Ic (L5 v9 v10 v11n v12 v13n j o1 o0 j (k+3) v0c v ((k+2:Nat):Int) (zf .u64 (q-1)) (Hg r (v.getD (k+1) 0) 0) (ND r (v.getD (k+1) 0) 0) o1' (lo++r0)) Q:=by
    intro hx;obtain⟨a1,a2,a3⟩:=Kh hr64 uv1 (c:=0) (by decide);have hq1:1≤q:=by
     rcases zF 0 q with g|g
     ·exact g
     ·have:q=0:=by omega
      subst this;rw[yC]at hx;omega
    rw[wu (q-1) (by omega) (by omega)];refine Cj v9 v10 v11n v12 v13n o1 o0 v0c v k j lo m r0 o1' hn hn9 hm hlo hjv hj1 hv hr hd hz hv1 hfin f (q-1) _ _ (by omega) (by omega) (by omega) a1 (by omega) ?_ ?_
    ·rw[yI,zK,a3];omega
    ·have he':q*v.getD (k+1) 0+r=r0.getD (k+2) 0*18446744073709551616+r0.getD (k+1) 0:=by omega
     have:=SF (B:=Aj) (u0:=r0.getD (k+2) 0) (u1:=r0.getD (k+1) 0) (u2:=r0.getD k 0) hP hv' hu'' h0 (v1:=v.getD (k+1) 0) (v2:=v.getD k 0) (r:=r) he' hx;rw[←hW, ←hV]at this;rw[show q-1+1=q by omega];exact this
   refine zp (fun c1=>exit ?_) (fun c1=>zp (fun c2=>zd (by simp;omega) (zd hlw (zp (fun c3=>exit ?_) (fun c3=>zd (by simp;omega) (zd (Ac (Ac (Ac hr64 uv1) rfl) rfl) (dec ?_)))))) (fun c2=>zd (by simp;omega) (zd (Ac (Ac (Ac hr64 uv1) rfl) rfl) (dec ?_))))
   ·have c1:=of_decide_eq_true c1;omega
   ·have c2:PQ q (v.getD k 0)=r:=by simpa using c2
    have c3:=of_decide_eq_true c3;omega
   ·have c2:PQ q (v.getD k 0)=r:=by simpa using c2
    have c3:=of_decide_eq_false c3;omega
   ·have c1:=of_decide_eq_false c1;have c2:PQ q (v.getD k 0)≠r:=by simpa using c2
    omega
  ·have c:o≠0:=by simpa using c
   refine exit ?_;have a:=zh (show v.getD k 0≤18446744073709551615 by omega) h0;omega
theorem BN(s:Int)(v:List Int)(k la:Nat)(hn:v.length=k+2)(hla:la≤9000)(hkl:k+2≤la)(hv:At Aj v)(hv1:1≤v.getD (k+1) 0)(W0:Int)
  (hq:∀u qs:List Int,u.length=la+1→At Aj u→At Aj qs→zc Aj u<zc Aj v→qs.length=la-(k+2)+1→W0=zc Aj u+zc Aj v*zc Aj qs→Ends Ic (L6 s (la+1) ((k+2:Nat):Int) (la-(k+2)+1) ((k+2:Nat):Int) 0 qs u) Q):
  ∀(t:Nat) (u qs:List Int),t+qs.length=la-(k+2)+1→u.length=la+1→At Aj u→At Aj qs→zc Aj (u.drop t)<zc Aj v→W0=zc Aj u+zc Aj v*((Aj:Int)^t*zc Aj qs)→
   Ends Ic (L4 s v (la+1) ((k+2:Nat):Int) (la-(k+2)+1) ((t:Int)-1) (zj t 0++qs) u) Q
 |0,u,qs,hl,hu,hd,hdq,hlt,he=>by
  refine zq (Dp ..) (zC (by simp) ?_);exact hq u qs hu hd hdq hlt (by omega) (by rw[he,zI,zK])
 |j+1,u,qs,hl,hu,hd,hdq,hlt,he=>by
  obtain⟨lo,r,rfl,hlo⟩:∃lo r:List Int,u=lo++r∧lo.length=j:=⟨u.take j,u.drop j,(zU j u).symm,by rw[zz];omega⟩;have hdlo:At Aj lo:=fun d hd'=>hd d (yi.2 (.inl hd'))
  have hdr:At Aj r:=fun d hd'=>hd d (yi.2 (.inr hd'))
  have hrl:r.length=la+1-j:=by rw[yp]at hu;omega
  have hdrop:∀z:List Int,(lo++z).drop j=z:=fun z=>by rw[←hlo];exact List.drop_left
  have hr0:r=r.getD 0 0::r.drop 1:=by
   have:=B3 (l:=r) (i:=0) (by omega);rw[List.drop_zero]at this;exact this
  have hd1:(lo++r).drop (j+1)=r.drop 1:=by rw[yD j 1,yD 1 j, ←yq,hdrop]
  rw[hd1]at hlt;have g0:=Jh (b:=Aj) (by decide) hdr 0;have hvr:zc Aj r=r.getD 0 0+18446744073709551616*zc Aj (r.drop 1):=by
   conv=>lhs;rw[hr0]
   rfl
  have hVlt:=Bm (b:=Aj) (by decide) hv;rw[hn]at hVlt;have g0:0≤r.getD 0 0∧r.getD 0 0<18446744073709551616:=g0;have hrV:zc Aj r<18446744073709551616*zc Aj v:=by rw[hvr];omega
  have hz:zc Aj (r.drop (k+3))=0:=by
   refine IP (b:=Aj) (by decide) hdr (by omega) ?_;have ep:(Aj:Int)^(k+3)=(Aj:Int)^(k+2)*18446744073709551616:=zu ..;rw[ep];omega
  have uu0:=AP hdr (k+2);have uu1:=AP hdr (k+1);have uu2:=AP hdr k;have uv1:=AP hv (k+1);have gu0:=yH uu0;have gu1:=yH uu1;have gu2:=yH uu2;have gv1:=yH uv1;have gv2:=yH (AP hv k);have hP:=AM (b:=Aj) (by decide) k;have hW:=gM Aj r k (by omega) hz;have hV:=gQ Aj v k hn;have hu':=Ay (b:=Aj) (by decide) (AK hdr k);have hu'':=Bm (b:=Aj) (by decide) (AK hdr k);have hv':=Ay (b:=Aj) (by decide) (AK hv k);rw[zz,zH (by omega)]at hu'';have hle:r.getD (k+2) 0≤v.getD (k+1) 0:=by
   have a1:=B4 Aj (r.drop 1) (k+1) (by rw[yf];omega);have a2:(r.drop 1).drop (k+1)=r.getD (k+2) 0::r.drop (k+3):=by
    rw[yq,show 1+(k+1)=k+2 by omega];exact B3 (by omega)
   have a3:zc Aj (r.getD (k+2) 0::r.drop (k+3))=r.getD (k+2) 0:=by
    show r.getD (k+2) 0+(Aj:Int)*zc Aj (r.drop (k+3))=_;rw[hz];omega
   rw[a2,a3]at a1;have b1:zc Aj v=zc Aj (v.take (k+1))+(Aj:Int)^(k+1)*v.getD (k+1) 0:=by
    rw[←AD,zn (by omega)]
   have b2:=Bm (b:=Aj) (by decide) (AK hv (k+1));rw[zz,zH (by omega)]at b2;have c1:=Ay (b:=Aj) (by decide) (AK (Eb hdr 1) (k+1));have c2:(Aj:Int)^(k+1)*r.getD (k+2) 0<(Aj:Int)^(k+1)*(v.getD (k+1) 0+1):=by
    rw[zr,zS];omega
   have:=zy c2 (zo (AM (by decide) (k+1)));omega
  have hfin:∀(q:Int) (r':List Int),r'.length=la+1-j→At Aj r'→(0≤q∧q<18446744073709551616)→zc Aj r'<zc Aj v→zc Aj r'=zc Aj r-q*zc Aj v→Ends Ic (L4 s v (la+1) ((k+2:Nat):Int) (la-(k+2)+1) (zf .i64 ((j:Int)-1)) ((zj (j+1) 0++qs).set j q) (lo++r')) Q:=by
   intro q r' h1 h2 h3 h4 h5;have es:(zj (j+1) (0:Int)++qs).set j q=zj j 0++(q::qs):=by
    rw[yh,zA];exact C6 _ _ _ _ (by simp)
   rw[es,wr ((j:Int)-1) (by omega) (by omega)];refine BN s v k la hn hla hkl hv hv1 W0 hq j (lo++r') (q::qs) (by simp;omega) (by simp;omega) (Ez hdlo h2) (fun d hd'=>?_) (by rw[hdrop];exact h4) ?_
   ·rcases yg.1 hd' with rfl|hd'
    ·exact h3
    ·exact hdq d hd'
   ·rw[he,CC,CC,hlo,h5,JM];show zc Aj lo+(Aj:Int)^j*zc Aj r+zc Aj v*((Aj:Int)^j*(18446744073709551616*zc Aj qs))=zc Aj lo+(Aj:Int)^j*(zc Aj r-q*zc Aj v)+zc Aj v*((Aj:Int)^j*(q+18446744073709551616*zc Aj qs));have x1:zc Aj v*((Aj:Int)^j*q)=(Aj:Int)^j*(q*zc Aj v):=by
     rw[zD,zw (zc Aj v) q]
    rw[zW,zr ((Aj:Int)^j) q,zr (zc Aj v),x1];omega
  have ez:yP 0 j=j:=yN j;have e0:(((j+1:Nat):Int)-1)=(j:Int):=by omega
  have e1:zf .i64 (zf .i64 ((j:Int)+((k+2:Nat):Int))+1)=((j+(k+3):Nat):Int):=by
   rw[wr ((j:Int)+((k+2:Nat):Int)) (by omega) (by omega),wr _ (by omega) (by omega)];omega
  have e2:zf .i64 (((k+2:Nat):Int)-1)=((k+1:Nat):Int):=by rw[wr _ (by omega) (by omega)];omega
  have e3:yO (j+(k+3)) j=k+3:=by show j+(k+3)-j=_;omega
  have lw1:decide (yP (k+2) j<(lo++r).length)=true:=lw hlo (by omega);have lw2:decide (yP (k+1) j<(lo++r).length)=true:=lw hlo (by omega);rw[e0];refine zq (Dp ..) (zd (by simp) ?_);rw[hn,e1,e2,zg,zg,zg,zg,ez,e3,gw hlo,gw hlo];have b1:(decide ((0:Int)≤((k+2:Nat):Int))&&decide (((k+2:Nat):Int)<((k+3:Nat):Int)))=true:=by simp;omega
  have b2:(decide ((0:Int)≤((k+1:Nat):Int))&&decide (((k+1:Nat):Int)<((k+2:Nat):Int)))=true:=by simp;omega
  have b3:(decide ((0:Int)≤((k+1:Nat):Int))&&decide (((k+1:Nat):Int)<((k+3:Nat):Int)))=true:=by simp;omega
  have hjl:j<(zj (j+1) (0:Int)++qs).length:=by simp;omega
  refine zd (by simp;omega) (zd b1 (zd lw1 (zd b2 (zp (fun c=>?_) (fun c=>?_)))))
  ·have c:=of_decide_eq_true c;obtain⟨a1,a2,a3⟩:=Kh uu1 uv1 (c:=0) (by decide);refine zd b3 (zd lw2 (zd b2 (zd (Ac (Ac (Ac uu1 uv1) rfl) rfl) ?_)));refine Cj s v (la+1) _ _ _ _ _ v k j lo (la+1-j) r _ hn (by omega) (by omega) hlo (by omega) hjl hv hrl hdr hz hv1 hfin 18446744073709551616 _ _ _ (by decide) (by decide) (by decide) a1 (by omega) ?_ ?_
   ·rw[a3];omega
   ·exact hrV
  ·have c:=of_decide_eq_false c;obtain⟨d1,d2,d3,d4,d5⟩:=wP (r:=r.getD (k+2) 0) (x:=r.getD (k+1) 0) (d:=v.getD (k+1) 0) (by omega) (by omega) gu1;refine zd b1 (zd lw1 (zd b3 (zd lw2 (zd b2 (zd (Ac (Ac (Ac uu0 uu1) uv1) (decide_eq_true (by omega))) ?_)))));refine Cj s v (la+1) _ _ _ _ _ v k j lo (la+1-j) r _ hn (by omega) (by omega) hlo (by omega) hjl hv hrl hdr hz hv1 hfin 18446744073709551616 _ _ _ d2 d3 d3 (Cu d4 (by omega)) (.inl rfl) ?_ ?_
   ·rw[←d1];omega
   ·rw[hW,hV];exact L0 hP (by decide) d2 hv' gv2.1 hu'' gu2.2 d1 d5
end T230
end Go.Pe
end
section
namespace Go.Pe
open Sp
open Go.Det
theorem Tg{a b:Int}{s:Nat}(ha:0≤a)(hb:0≤b)(h:b<2^s)(hm:a*2^s+b<18446744073709551616):XW .u64 b (a*2^s)=a*2^s+b:=by
 have:=Xf ha hb h hm;rw[←this];show zf .u64 (((zJ 64 b|||zJ 64 (a*2^s)).toNat:Nat):Int)=zf .u64 (((zJ 64 (a*2^s)|||zJ 64 b).toNat:Nat):Int);rw[BitVec.or_comm]
theorem W6{s:Nat}(hs:s≤63):(18446744073709551616:Int)=2^s*2^(64-s):=by rw[←yJ,show s+(64-s)=64 by omega];rfl
namespace T230
variable {Q:PV→Ob→Prop}
theorem Ep(s:Nat)(hs:s≤63)(la n m:Nat)(hn:n≤la)(hla:la≤9000)(u qs:List Int)(hu:u.length=la+1)(hd:At Aj u)(hz:zc Aj (u.drop n)=0)(hm:qs.length=m)(hm9:m≤9000)(hdq:At Aj qs)
  (hq:∀(w:List Int) ob,At Aj w→zc Aj w=zc Aj u/2^s→Q (.tup [.dat CW (Ar qs),.dat CW (Ar w)]) ob):
  ∀(k i:Nat) (p:List Int),i+k=n→p.length=i→At Aj p→zc Aj p+(Aj:Int)^i*(zc Aj (u.drop i)/2^s)=zc Aj u/2^s→
   Ends Ic (L6 s (la+1) n m n i qs (p++u.drop i)) Q
 |0,i,p,hi,hp,hdp,he=>by
  have hi:i=n:=by omega
  subst hi;have ht:(p++u.drop i).take i=p:=by rw[←hp];exact yK
  have ht2:qs.take m=qs:=zn (by omega);rw[hz,Int.zero_ediv,z6,yo]at he;refine zq (Hl ..) (zC (by simp) ?_);rw[zg,ht,ht2];refine zd (by simp;omega) (zd (Ac (by simp;omega) (DZ (by omega) hdq)) (zd (Ac (by simp;omega) (DZ (by omega) hdp)) (zm (hq p _ hdp he))))
 |k+1,i,p,hi,hp,hdp,he=>by
  have d1:=B3 (l:=u) (i:=i) (by omega);have d2:=B3 (l:=u) (i:=i+1) (by omega);have gx:=yH (AP hd i);have gy:=yH (AP hd (i+1));have g1:(p++u.drop i).getD i 0=u.getD i 0:=by rw[d1];exact Dl _ _ _ _ hp
  have s1:∀z,(p++u.drop i).set i z=p++z::u.drop (i+1):=fun z=>by rw[d1];exact C6 _ _ _ _ hp
  have s2:∀z x,(p++z::u.drop (i+1)).set i x=(p++[x])++u.drop (i+1):=fun z x=>by rw[C6 _ _ _ _ hp,zA];rfl
  have g2:∀z,(p++z::u.drop (i+1)).getD i 0=z:=fun z=>Dl _ _ _ _ hp
  have g3:∀z,(p++z::u.drop (i+1)).getD (i+1) 0=u.getD (i+1) 0:=fun z=>by
   rw[d2,show p++z::u.getD (i+1) 0::u.drop (i+1+1)=(p++[z])++u.getD (i+1) 0::u.drop (i+1+1)by rw[zA];rfl];exact Dl _ _ _ _ (by simp[hp])
  have hlen:∀z,(p++z::u.drop (i+1)).length=la+1:=fun z=>by simp;omega
  have hlen0:(p++u.drop i).length=la+1:=by simp;omega
  have e2:zf .i64 ((i:Int)+1)=((i+1:Nat):Int):=by rw[wr _ (by omega) (by omega)];omega
  have e3:zf .i64 ((64:Int)-(s:Int))=((64-s:Nat):Int):=by rw[wr _ (by omega) (by omega)];omega
  have em:Min.min s 64=s:=by omega
  have em2:Min.min (64-s) 64=64-s:=by omega
  have hB:=W6 hs;have hc:(0:Int)<2^s:=zX (by decide);have hd':(0:Int)<2^(64-s):=zX (by decide);have efd:Int.fdiv (u.getD i 0) ((2:Int)^s)=u.getD i 0/2^s:=zY _ (zo hc);have a0:0≤u.getD i 0/2^s:=yj gx.1 (zo hc);have a1:u.getD i 0/2^s<2^(64-s):=ye hc (by rw[zw, ←hB];exact gx.2);have m0:=zO (u.getD (i+1) 0) (show(2:Int)^s≠0 by omega);have m1:=zL (u.getD (i+1) 0) hc;have p0:0≤(u.getD (i+1) 0 % 2^s)*2^(64-s):=zE m0 (zo hd');have p1:(u.getD (i+1) 0 % 2^s)*2^(64-s)≤18446744073709551616-2^(64-s):=by
   have:=zk (show u.getD (i+1) 0 % 2^s≤2^s-1 by omega) (zo hd');rw[yI,zK, ←hB]at this;exact this
  have hnew:0≤u.getD i 0/2^s+(u.getD (i+1) 0 % 2^s)*2^(64-s)∧u.getD i 0/2^s+(u.getD (i+1) 0 % 2^s)*2^(64-s)<18446744073709551616:=by omega
  have ewy:zf .u64 (u.getD (i+1) 0*2^(64-s))=(u.getD (i+1) 0 % 2^s)*2^(64-s):=by
   rw[JI];exact(Th (b:=18446744073709551616) (c:=2^(64-s)) (d:=2^s) (k:=0) hd' hc (by rw[hB,zw]) ⟨yv _,hd'⟩ gy).1
  have eio:XW .u64 (u.getD i 0/2^s) ((u.getD (i+1) 0 % 2^s)*2^(64-s))=u.getD i 0/2^s+(u.getD (i+1) 0 % 2^s)*2^(64-s):=by
   rw[Tg m0 a0 a1 (by omega),Int.add_comm]
  have next:∀z,z=u.getD i 0/2^s+(u.getD (i+1) 0 % 2^s)*2^(64-s)→Ends Ic (L6 s (la+1) n m n ((i+1:Nat):Int) qs ((p++[z])++u.drop (i+1))) Q:=by
   intro z hz';refine Ep s hs la n m hn hla u qs hu hd hz hm hm9 hdq hq k (i+1) (p++[z]) (by omega) (by simp[hp]) (DH hdp (by rw[hz'];exact Cu hnew.1 hnew.2)) ?_;rw[←he,EA,hp,JM,yw, ←zr];congr 2;have:=cG (b:=18446744073709551616) (c:=2^s) (d:=2^(64-s)) (x:=u.getD i 0) (y:=u.getD (i+1) 0) (X:=zc Aj (u.drop (i+1+1))) hc hB;rw[hz',d1,d2];exact this.symm
  have b1:(decide ((0:Int)≤(i:Int))&&decide ((i:Int)<((la+1:Nat):Int)))=true:=by simp;omega
  have b2:(decide ((0:Int)≤((i+1:Nat):Int))&&decide (((i+1:Nat):Int)<((la+1:Nat):Int)))=true:=by simp;omega
  refine zq (Hl ..) (zd (by simp;omega) ?_);rw[e2,e3,zg,zg,zg,zg,em,em2,g1,efd,s1,g2,g3,s2,ewy,eio,hlen,hlen0];refine zd b1 (zd (decide_eq_true (by omega)) (zd (by simp) (zd b1 (zd (decide_eq_true (by omega)) (zp (fun c=>zd (by simp;omega) (zd b1 (zd (decide_eq_true (by omega)) (zd b2 (zd (decide_eq_true (by omega)) (zd (by simp) (zd b1 (zd (decide_eq_true (by omega)) (next _ rfl))))))))) (fun c=>?_))))));have c:=of_decide_eq_false c;have hs0:s=0:=by omega
  subst hs0;rw[show ∀z:Int,p++z::u.drop (i+1)=(p++[z])++u.drop (i+1)from fun z=>by rw[zA];rfl];refine next _ ?_;rw[zI,Int.emod_one,yC,yo]
theorem Q2{X:A9}{F:Int→List Int→Tr}(w:List Int)(s:Nat)(hs:s≤63)(hd:At Aj w)
  (Df:∀(i:Nat) (o:List Int),i<w.length→o.length=w.length+1→Ends X (F ((i+1:Nat):Int) (if 0<s then(o.set i (XW .u64 (o.getD i 0) (zf .u64 (w.getD i 0*2^s)))).set (i+1) (Int.fdiv (w.getD i 0) (2^(64-s)))else o.set i (XW .u64 (o.getD i 0) (zf .u64 (w.getD i 0*2^s))))) Q→Ends X (F i o) Q)
  (hend:∀o:List Int,o.length=w.length+1→At Aj o→zc Aj o=2^s*zc Aj w→Ends X (F w.length o) Q):
  ∀(k i:Nat) (p:List Int) (c:Int),i+k=w.length→p.length=i→At Aj p→(0≤c∧c<2^s)→zc Aj p+(Aj:Int)^i*c=2^s*zc Aj (w.take i)→Ends X (F i (p++c::zj k 0)) Q
 |0,i,p,c,hi,hp,hdp,hc,he=>by
  have hi:i=w.length:=by omega
  subst hi;have hP:(2:Int)^s≤18446744073709551616:=by
   have:=W6 hs;have h1:(1:Int)≤2^(64-s):=zX (by decide);have h2:=zh h1 (show(0:Int)≤2^s from zo (zX (by decide)));omega
  rw[z7]at he;refine hend _ (by simp[hp]) (DH hdp (Cu hc.1 (by omega))) ?_;rw[←he];show zc Aj (p++[c])=_;rw[EA,hp]
 |k+1,i,p,c,hi,hp,hdp,hc,he=>by
  have gx:=yH (AP hd i);have hB:=W6 hs;have h2s:(0:Int)<2^s:=zX (by decide);have h2d:(0:Int)<2^(64-s):=zX (by decide);obtain⟨s1,s2,s3,s4,s5,s6⟩:=Th (b:=18446744073709551616) (c:=2^s) (d:=2^(64-s)) (x:=w.getD i 0) (k:=c) h2s h2d hB hc gx;have efd:Int.fdiv (w.getD i 0) ((2:Int)^(64-s))=w.getD i 0/2^(64-s):=zY _ (zo h2d);have g1:(p++c::zj (k+1) 0).getD i 0=c:=Dl _ _ _ _ hp;have st:∀z:Int,(p++c::zj (k+1) 0).set i z=p++z::zj (k+1) 0:=fun z=>C6 _ _ _ _ hp
  have st2:∀z y:Int,(p++z::zj (k+1) 0).set (i+1) y=(p++[z])++y::zj k 0:=fun z y=>by
   rw[show p++z::zj (k+1) (0:Int)=(p++[z])++0::zj k 0 by rw[zA];rfl];exact C6 _ _ _ _ (by simp[hp])
  have eio:XW .u64 c ((w.getD i 0 % 2^(64-s))*2^s)=(w.getD i 0 % 2^(64-s))*2^s+c:=Tg (zO _ (by omega)) hc.1 hc.2 s2;have go:=Q2 w s hs hd Df hend k (i+1) (p++[(w.getD i 0 % 2^(64-s))*2^s+c]) (w.getD i 0/2^(64-s)) (by omega) (by simp[hp]) (DH hdp (Cu (by omega) s2)) ⟨s4,s5⟩ (by
   rw[EA,hp,JM,AD,zr (2^s), ←he,yw,yw, ←zr,zD (2^s), ←zr];congr 2;rw[zw (2^s)];omega)
  refine Df i _ (by omega) (by simp;omega) ?_;rw[JI,s1,efd,g1,eio,st,st2];by_cases h0:0<s
  ·rw[if_pos h0];exact go
  ·have hs0:s=0:=by omega
   subst hs0;have hz:w.getD i 0/2^(64-0)=0:=yd gx.1 gx.2;rw[hz]at go;rw[if_neg h0,show ∀z:Int,p++z::zj (k+1) (0:Int)=(p++[z])++0::zj k 0 from fun z=>by rw[zA];rfl];exact go
end T230
end Go.Pe
end
section
namespace Go.Pe
open Sp
open Go.Det
theorem fP:∀g sp,Ic.sp g=some sp→Ae AS g sp:=
 Aa T221.ok (Aa T269.ok (Aa T223.ok (Aa T268.ok (Aa T270.ok (Aa cI (Aa T272.ok (fun g sp h=>by cases h)))))))
theorem Jn{w:List Int}(hd:At Aj w)(hn:Sp.nz w){k:Nat}(hl:w.length=k+1):0<w.getD k 0∧w.getD k 0<18446744073709551616:=by
 have g:=yH (AP hd k);refine⟨?_,g.2⟩;have e:w.getLast?=some (w.getD k 0):=by
  rw[yu,hl,z8,zM,yx (by omega)];rfl
 unfold Sp.nz at hn;rw[e]at hn;have:w.getD k 0≠0:=fun h=>hn (by rw[h])
 omega
namespace T230
set_option maxHeartbeats 1000000 in
theorem ok:Ae AS 230 FG:=by
 refine Ax (X:=Ic) rfl fP (d:=9) (by kernel_rfl) (by kernel_rfl) (by kernel_rfl) (fun(i:List Int×List Int) hi=>?_) (Ad (by kernel_rfl));obtain⟨a,b⟩:=i;have hi:(B1 a&&B1 b&&decide (a.length≤9000)&&decide (b.length≤9000)&&decide (0<Al b))=true:=hi;rw[zi,zi,zi,zi,decide_eq_true_eq,decide_eq_true_eq,decide_eq_true_eq]at hi;obtain⟨⟨⟨⟨na,nb⟩,la9⟩,lb9⟩,hb0⟩:=hi;obtain⟨_,da,za⟩:=Et na;obtain⟨_,db,zb⟩:=Et nb;have hb0:0<zc Aj b:=hb0;have ha0:=Ay (b:=Aj) (by decide) da;have hg:∀q r ob,q=Bp (Al a/Al b)→r=Bp (Al a % Al b)→Af FG (a,b) (PV.tup [PV.dat CW q,PV.dat CW r]) ob:=fun q r ob e1 e2=>zZ rfl rfl (Prod.ext e1 e2)
 have fin:∀(q r:List Int) ob,At Aj q→At Aj r→zc Aj a=zc Aj q*zc Aj b+zc Aj r→zc Aj r<zc Aj b→Af FG (a,b) (PV.tup [PV.dat CW (Ar q),PV.dat CW (Ar r)]) ob:=by
  intro q r ob dq dr he hr;have hr0:=Ay (b:=Aj) (by decide) dr;obtain⟨u1,u2⟩:=(zP (a:=zc Aj a) (b:=zc Aj b) (r:=zc Aj r) (q:=zc Aj q) hb0).2 ⟨by rw[zw (zc Aj b)];omega,hr0,hr⟩;refine hg _ _ ob ?_ ?_
  ·rw[JQ dq];show Bp (zc Aj q)=Bp (zc Aj a/zc Aj b);rw[u1]
  ·rw[JQ dr];show Bp (zc Aj r)=Bp (zc Aj a % zc Aj b);rw[u2]
 have hbne:b≠[]:=by rintro rfl;simp[zc]at hb0
 have hblen:b.length≠0:=fun h=>hbne (zB.1 h)
 refine zT (An a b) (zd (by rw[na,nb];rfl) (zp (fun c=>?_) (fun c=>?_)))
 ·have c:=of_decide_eq_true c;have hlt:zc Aj a<zc Aj b:=by
   unfold BW at c;have c:(if zc Aj a<zc Aj b then(-1:Int)else if zc Aj a>zc Aj b then 1 else 0)<0:=c;split at c
   ·assumption
   ·split at c<;>omega
  refine zm (zZ rfl rfl ?_);show([],a)=(Bp (zc Aj a/zc Aj b),Bp (zc Aj a % zc Aj b));rw[yd ha0 hlt,Int.emod_eq_of_lt ha0 hlt];exact Prod.ext rfl (HJ (by decide) da za)
 ·have c:=of_decide_eq_false c;have hge:zc Aj b≤zc Aj a:=by
   rcases zF (zc Aj a) (zc Aj b)with g|g
   ·have:BW (Al a) (Al b)= -1:=if_pos g;omega
   ·exact g
  have hll:b.length≤a.length:=by
   rcases Nat.lt_or_ge a.length b.length with g|g
   ·have:=Eg (b:=Aj) (by decide) da db zb g;omega
   ·exact g
  refine zp (fun c1=>?_) (fun c1=>?_)
  ·have c1:b.length=1:=by
    have:(b.length:Int)=1:=by simpa using c1
    omega
   obtain⟨d,rfl⟩:=yE.1 c1;have hd:0<d∧d<18446744073709551616:=Jn (k:=0) db zb rfl;have e1:zf .i64 ((a.length:Int)-1)=(a.length:Int)-1:=wr _ (by omega) (by omega);rw[e1,zg];refine zd (by simp;omega) ?_;have:=Am (Q:=Af FG (a,[d])) a d da hd (by omega) (fun q r ob dq dr he=>by
    refine fin q [r] ob dq (fun x hx=>by rw[ya]at hx;subst hx;exact⟨dr.1,by show x<18446744073709551616;omega⟩) ?_ ?_
    ·rw[val_one,val_one];exact he
    ·rw[val_one,val_one];exact dr.2) a.length [] 0 (by simp) (fun x hx=>by cases hx) ⟨yv _,hd.1⟩ (by rw[yA];simp[zc])
   rw[yk]at this;exact this
  ·have c1:b.length≠1:=by
    have:(b.length:Int)≠1:=by simpa using c1
    omega
   obtain⟨k,hk⟩:∃k,b.length=k+2:=⟨b.length-2,by omega⟩;obtain⟨y0,y1⟩:=Jn (k:=k+1) db zb hk;obtain⟨s,hs,hs63,hlt,_⟩:=Sc y0 y1;have hB:=W6 hs63;have h2s:(0:Int)<2^s:=zX (by decide);have h2d:(0:Int)<2^(64-s):=zX (by decide);have hyd:b.getD (k+1) 0<2^(64-s):=by
    rw[hB,zw (b.getD (k+1) 0)]at hlt;exact zy hlt (zo h2s)
   have hv1:(Aj:Int)^(k+1)≤2^s*zc Aj b:=by
    have a1:=CY (b:=Aj) (by decide) db zb hbne;rw[hk,show k+2-1=k+1 by omega]at a1;have a2:=zk (show(1:Int)≤2^s by omega) (zo hb0);omega
   have hv2:2^s*zc Aj b<(Aj:Int)^(k+2):=by
    have b1:zc Aj b=zc Aj (b.take (k+1))+(Aj:Int)^(k+1)*b.getD (k+1) 0:=by
     rw[←AD,zn (by omega)]
    have b2:=Bm (b:=Aj) (by decide) (AK db (k+1));rw[zz,zH (by omega)]at b2;have hp:=AM (b:=Aj) (by decide) (k+1);have b3:zc Aj b<(Aj:Int)^(k+1)*2^(64-s):=by
     have:=zh (show b.getD (k+1) 0+1≤2^(64-s)by omega) (zo hp);rw[zr,zS]at this;omega
    have b4:=yr b3 h2s;have b5:(2:Int)^s*((Aj:Int)^(k+1)*2^(64-s))=(Aj:Int)^(k+2):=by
     rw[zD, ←hB];exact(zu ..).symm
    rw[b5]at b4;exact b4
   have hls:∀o:List Int,At Aj o→zc Aj o=2^s*zc Aj b→At Aj (Ar o)∧(Ar o).length=k+2∧zc Aj (Ar o)=2^s*zc Aj b∧1≤(Ar o).getD (k+1) 0:=by
    intro o ho hv;have hd':=GH ho;have hv':zc Aj (Ar o)=2^s*zc Aj b:=by rw[IQ,hv]
    have hl':=cV (b:=Aj) (by decide) hd' (Kb o) (k:=k+1) (by rw[hv'];exact hv1) (by rw[hv'];exact hv2);have:=(Jn hd' (Kb o) hl').1;exact⟨hd',hl',hv',by omega⟩
   have e2:zf .i64 (((k+2:Nat):Int)-1)=((k+1:Nat):Int):=by rw[wr _ (by omega) (by omega)];omega
   have e3:zf .i64 (((k+2:Nat):Int)+1)=((k+3:Nat):Int):=by rw[wr _ (by omega) (by omega)];omega
   have e4:zf .i64 ((a.length:Int)+1)=((a.length+1:Nat):Int):=by rw[wr _ (by omega) (by omega)];omega
   have e5:zf .i64 ((a.length:Int)-((k+2:Nat):Int))=((a.length-(k+2):Nat):Int):=by rw[wr _ (by omega) (by omega)];omega
   have e6:zf .i64 (((a.length-(k+2):Nat):Int)+1)=((a.length-(k+2)+1:Nat):Int):=by rw[wr _ (by omega) (by omega)];omega
   have e7:zf .i64 ((64:Int)-(s:Int))=((64-s:Nat):Int):=by rw[wr _ (by omega) (by omega)];omega
   have em:Min.min s 64=s:=by omega
   have em2:Min.min (64-s) 64=64-s:=by omega
   rw[hk,e2,e3,zg,zg,hs];refine zd (by simp;omega) (zd (Cu (by omega) y1) (zd (by simp;omega) ?_));refine Q2 (F:=fun i o=>L2 a b s (k+3) b ((k+2:Nat):Int) i o) b s hs63 db (fun i o hi ho h=>?_) (fun o hol hod hov=>?_) (k+2) 0 [] 0 (by omega) rfl (fun x hx=>by cases hx) ⟨yv _,h2s⟩ (by simp[zc])
   ·have ei:zf .i64 ((i:Int)+1)=((i+1:Nat):Int):=by rw[wr _ (by omega) (by omega)];omega
    have b1:(decide ((0:Int)≤(i:Int))&&decide ((i:Int)<((k+3:Nat):Int)))=true:=by simp;omega
    refine zq (A4 ..) (zd (by simp;omega) ?_);rw[ei,e7,zg,zg,zg,zg,em,em2];refine zd (by simp;omega) (zd b1 (zd (decide_eq_true (by omega)) (zd (by simp) (zd b1 (zd (decide_eq_true (by omega)) (zp (fun c=>zd (by simp) (zd (by simp;omega) (zd (by simp;omega) ?_))) (fun c=>?_)))))))
    ·have c:=of_decide_eq_true c;rw[if_pos (by omega)]at h;exact h
    ·have c:=of_decide_eq_false c;rw[if_neg (by omega)]at h;exact h
   obtain⟨vd,vl,vv,v1⟩:=hls o hod hov;have eo:o.take (k+3)=o:=zn (by omega);rw[hk];refine zq (A4 ..) (zC (by simp) ?_);rw[eo,e4,zg,hk,e2,zg,hs];refine zd (Ac (by simp;omega) (DZ (by omega) hod)) (zd (by simp;omega) ?_);refine Q2 (F:=fun i o'=>L3 a b s (k+3) b ((k+2:Nat):Int) ((k+2:Nat):Int) o s (a.length+1) a a.length i o' o) a s hs63 da (fun i o' hi ho h=>?_) (fun u hul hud huv=>?_) a.length 0 [] 0 (by omega) rfl (fun x hx=>by cases hx) ⟨yv _,h2s⟩ (by simp[zc])
   ·have ei:zf .i64 ((i:Int)+1)=((i+1:Nat):Int):=by rw[wr _ (by omega) (by omega)];omega
    have b1:(decide ((0:Int)≤(i:Int))&&decide ((i:Int)<((a.length+1:Nat):Int)))=true:=by simp;omega
    refine zq (C9 ..) (zd (by simp;omega) ?_);rw[ei,e7,zg,zg,zg,zg,em,em2];refine zd (by simp;omega) (zd b1 (zd (decide_eq_true (by omega)) (zd (by simp) (zd b1 (zd (decide_eq_true (by omega)) (zp (fun c=>zd (by simp) (zd (by simp;omega) (zd (by simp;omega) ?_))) (fun c=>?_)))))))
    ·have c:=of_decide_eq_true c;rw[if_pos (by omega)]at h;exact h
    ·have c:=of_decide_eq_false c;rw[if_neg (by omega)]at h;exact h
   refine zq (C9 ..) (zC (by simp) ?_);rw[eo,vl,e5,e6,zg,hk,e2,zg,hs];refine zd (by simp;omega) ?_;have hpn:=AM (b:=Aj) (by decide) (a.length-(k+2)+1);have start:zc Aj (u.drop (a.length-(k+2)+1))<zc Aj (Ar o):=by
    have a1:=B4 Aj u (a.length-(k+2)+1) (by omega);have a2:=Ay (b:=Aj) (by decide) (AK hud (a.length-(k+2)+1));have a3:=Bm (b:=Aj) (by decide) da;have a4:=yr a3 h2s;have a5:(Aj:Int)^a.length=(Aj:Int)^(a.length-(k+2)+1)*(Aj:Int)^(k+1):=by rw[←yJ];congr 1;omega
    have a6:=CY (b:=Aj) (by decide) db zb hbne;rw[hk,show k+2-1=k+1 by omega]at a6;have a7:=zh a6 (zo h2s);have a8:=zh a7 (zo hpn);rw[a5,zD]at a4;rw[vv];refine zy (a:=(Aj:Int)^(a.length-(k+2)+1)) ?_ (zo hpn);omega
   have go:=BN (Q:=Af FG (a,b)) s (Ar o) k a.length vl la9 (by omega) vd v1 (2^s*zc Aj a) (fun u' qs hul' hud' hdq hlt' hql he=>by
    have hz:zc Aj (u'.drop (k+2))=0:=IP (b:=Aj) (by decide) hud' (by omega) (by rw[vv]at hlt';omega);refine Ep s hs63 a.length (k+2) (a.length-(k+2)+1) (by omega) la9 u' qs hul' hud' hz hql (by omega) hdq (fun w ob hw hwv=>?_) (k+2) 0 [] (by omega) rfl (fun x hx=>by cases hx) (by simp[zc]);have e:zc Aj u'=2^s*(zc Aj a-zc Aj qs*zc Aj b):=by
     rw[vv,zG,zw (zc Aj b)]at he;rw[zW];omega
    have ew:zc Aj w=zc Aj a-zc Aj qs*zc Aj b:=by
     rw[hwv,e];exact yy _ (by omega)
    refine fin qs w ob hdq hw (by omega) ?_;rw[vv,e]at hlt';have:=zy hlt' (zo h2s);omega) (a.length-(k+2)+1) u [] (by simp) hul hud (fun x hx=>by cases hx) start (by rw[huv];simp[zc])
   rw[yk,show((a.length-(k+2)+1:Nat):Int)-1=((a.length-(k+2):Nat):Int)by omega]at go;exact go
end T230
theorem PT:Ae AS 230 FG:=T230.ok
end Go.Pe
end
section
namespace Go.Pe
open Sp
open Go.Det
theorem iT:∀g sp,vP.sp g=some sp→Ae AS g sp:=fun g sp h=>by cases h
theorem T105n.ok:Ae AS 105 Uc:=by
 refine Ax (X:=vP) rfl iT (d:=9) (by kernel_rfl) (by kernel_rfl) (by kernel_rfl) (fun(n:Int) _=>?_) (Ad (by kernel_rfl));refine zT (T105n.An n) (zm (zZ rfl rfl ?_));show(n,[])=(n,Dw n);rw[D1]
theorem jN:∀g sp,qH.sp g=some sp→Ae AS g sp:=
 Aa T105n.ok (Aa PT (Aa (T218.ok ER) (Aa (T219.ok ER) (Aa T217.ok (Aa T158.ok (Aa T173.ok (fun g sp h=>by cases h)))))))
theorem VA{m D:Int}(hD:0<D):(m % D=0→(-m)/D= -(m/D)∧(-m) % D=0)∧(m % D≠0→(-m)/D= -(m/D)-1∧(-m) % D=D-m % D):=by
 have e:=zN m D;have r0:=zO m (show D≠0 by omega);have r1:=zL m hD;refine⟨fun h=>?_,fun h=>?_⟩
 ·exact(zP (a:= -m) (b:=D) (r:=0) (q:= -(m/D)) hD).2 ⟨by rw[yL];omega,by omega,by omega⟩
 ·exact(zP (a:= -m) (b:=D) (r:=D-m % D) (q:= -(m/D)-1) hD).2 ⟨by rw[zW,yL,zS];omega,by omega,by omega⟩
theorem iP{m D:Int}(hm:0≤m)(hD:0<D):(0≤m/D∧m/D≤m)∧(0≤m % D∧m % D≤m∧m % D<D):=by
 have e:=zN m D;have q0:0≤m/D:=yj hm (by omega);have q1:m/D≤m:=Int.ediv_le_self _ hm;have r0:=zO m (show D≠0 by omega);have r1:=zL m hD;have:=zE (show 0≤D by omega) q0;exact⟨⟨q0,q1⟩,r0,by omega,r1⟩
theorem VU(n:Bool){v:Int}(h:0≤v):Ag (yM n v)=v:=by
 rw[Dc,Ai];split<;>omega
theorem Dx{n:Int}(h:Ag n<(Aj:Int)^9000):A8 (CF n)=true:=by
 have:=ML h (by omega);unfold A8;exact Ac this.1 (decide_eq_true this.2)
theorem aX{a b:AR}(h:0<zl a+zl b):D9 a b=CF (zl a+zl b):=by
 unfold D9;split
 ·next c=>
  have:=El c.2.2;rw[Bn c.1,Bn c.2.1]at h ⊢;exact(BT (by omega)).symm
 ·rfl
theorem MH:((1:Int),Dw (1:Int))=CF 1:=by rw[D1];rfl
namespace T176
theorem P9{a b:AR}(q:Int)(h: -9223372036854775808<q∧q<9223372036854775808)(hq:GN a b=CF q∨(-9223372036854775808<q∧GN a b=Ml (CF (q+1)) (1,[])∧q+1<9223372036854775808)):GN a b=(q,[]):=by
 rcases hq with hq|⟨h1,hq,h2⟩
 ·rw[hq,BT h]
 ·rw[hq,BT (by omega)];unfold Ml CT;rw[if_pos ⟨rfl,by decide⟩];unfold D9;rw[if_pos ⟨rfl,rfl,Du (by show _≤q+1+ -1;omega) (by show q+1+ -1<_;omega)⟩];show(q+1+ -1,[])=(q,[]);rw[show q+1+ -1=q by omega]
set_option maxHeartbeats 1000000 in
theorem ok:Ae AS 176 Ge:=by
 refine Ax (X:=qH) rfl jN (d:=9) (by kernel_rfl) (by kernel_rfl) (by kernel_rfl) (fun(i:(Int×List Int)×(Int×List Int)) hi=>?_) (Ad (by kernel_rfl));obtain⟨a,b⟩:=i;have hi:(A8 a&&A8 b&&decide (0<zl b))=true:=hi;rw[zi,zi,decide_eq_true_eq]at hi;obtain⟨⟨ha,hb⟩,hD⟩:=hi;obtain⟨oa,_,na,_,va,ba⟩:=words ha;obtain⟨ob,_,nb,_,vb,bb⟩:=words hb;have eD:Ag (zl b)=zl b:=by rw[Ai];omega
 have hM:=AE (zl a);have eM:Ag (zl a)=if zl a<0 then -zl a else zl a:=rfl
 obtain⟨⟨q0,q1⟩,r0,r1,r2⟩:=iP (D:=zl b) hM hD;obtain⟨z1,z2⟩:=VA (m:=Ag (zl a)) hD;have hdiv:QN (Bp (Ag (zl a))) (Bp (Ag (zl b)))=true:=by
  unfold QN;exact Ac (Ac (Ac (Ac na nb) (decide_eq_true (Js hM ba))) (decide_eq_true (Js (AE _) bb))) (decide_eq_true (by rw[vb,eD];exact hD))
 have fin:∀(q r:AR) v ob,WI Ge.outs v ob=some (true,(q,r))→q=GN a b→r=CF (zl a % zl b)→Af Ge (a,b) v ob:=fun q r v ob h e1 e2=>zZ h rfl (by rw[e1,e2];rfl)
 have slow:Ends qH (L1 (decide (zl a<0)) (Bp (Al (Bp (Ag (zl a)))/Al (Bp (Ag (zl b))))) (Bp (Al (Bp (Ag (zl a))) % Al (Bp (Ag (zl b))))) 0 0 b.1 b.2) (Af Ge (a,b)):=by
  rw[va,vb,eD];obtain⟨nq,_,vq⟩:=CJ (n:=Ag (zl a)/zl b) (k:=9000) q0 (by omega) (by omega);obtain⟨nr,_,vr⟩:=CJ (n:=Ag (zl a) % zl b) (k:=9000) r0 (by omega) (by omega);have jr:A8 (CF (yM (decide (zl a<0)) (Ag (zl a) % zl b)))=true:=Dx (by rw[VU _ r0];omega);have jq:A8 (CF (yM (decide (zl a<0)) (Ag (zl a)/zl b)))=true:=Dx (by rw[VU _ q0];omega);have j1:A8 ((1:Int),Dw (1:Int))=true:=by rw[MH];decide
  have es:Hf (Cn (yM (decide (zl a<0)) (Ag (zl a) % zl b)),Cm (yM (decide (zl a<0)) (Ag (zl a) % zl b)))=RX (yM (decide (zl a<0)) (Ag (zl a) % zl b)):=by
   show RX (zl (CF _))=_;rw[Cg]
  refine zq (Au ..) (zd nq (zd nr ?_));rw[vq,vr];refine zq (A4 ..) (zd (B0 jr).1 ?_);rw[es];refine zp (fun c=>?_) (fun c=>?_)
  ·have c:=of_decide_eq_true c;have c2:yM (decide (zl a<0)) (Ag (zl a) % zl b)<0:=by
    rw[J9]at c;split at c
    ·assumption
    ·split at c<;>omega
   have hn:zl a<0:=by
    rcases zF (zl a) 0 with g|g
    ·exact g
    ·rw[Dc,if_neg (by simp;omega)]at c2;omega
   have hr:Ag (zl a) % zl b≠0:=by
    rw[Dc,if_pos (decide_eq_true hn)]at c2;omega
   obtain⟨z3,z4⟩:=z2 hr;refine zd rfl (zd (Ac jq j1) (zd (Ac jr hb) (zm (fin (Ml (CF (yM (decide (zl a<0)) (Ag (zl a)/zl b))) (1,Dw 1)) (D9 (CF (yM (decide (zl a<0)) (Ag (zl a) % zl b))) b) _ _ rfl ?_ ?_))))
   ·unfold GN;rw[if_pos ⟨hn,hr⟩,D1,Dc,if_pos (decide_eq_true hn)]
   ·have ev:zl a= -Ag (zl a):=by rw[eM,if_pos hn];omega
    have ep:zl (CF (yM (decide (zl a<0)) (Ag (zl a) % zl b)))= -(Ag (zl a) % zl b):=by rw[Cg,Dc,if_pos (decide_eq_true hn)]
    have e5:zl a % zl b=zl b-Ag (zl a) % zl b:=by rw[←z4, ←ev]
    rw[aX (by rw[ep];omega),ep,e5];congr 1;omega
  ·have c:=of_decide_eq_false c;have c2:¬(zl a<0∧Ag (zl a) % zl b≠0):=by
    rintro⟨hn,hr⟩;rw[Dc,if_pos (decide_eq_true hn),J9,if_pos (by omega)]at c;omega
   refine zm (fin (CF (yM (decide (zl a<0)) (Ag (zl a)/zl b))) (CF (yM (decide (zl a<0)) (Ag (zl a) % zl b))) _ _ rfl ?_ ?_)
   ·unfold GN;rw[if_neg c2]
   ·congr 1;rcases zF (zl a) 0 with g|g
    ·have hr:Ag (zl a) % zl b=0:=by
      rcases zF 0 (Ag (zl a) % zl b)with g2|g2
      ·exact absurd ⟨g,by omega⟩ c2
      ·omega
     have ev:zl a= -Ag (zl a):=by rw[eM,if_pos g];omega
     have:=(z1 hr).2;rw[←ev]at this;rw[this,hr,Dc];split<;>rfl
    ·rw[Dc,if_neg (by simp;omega),eM,if_neg (by omega)]
 refine zT (An a b) (zp (fun c1=>zp (fun c2=>zp (fun c3=>?_) (fun c3=>?_)) (fun c2=>?_)) (fun c1=>?_))
 ·have a2:=OB c1;have b2:=OB c2;have c3:a.1≠ -9223372036854775808:=by simpa using c3
  have ra:=El (n:=a.1) (by
   have:=oa;unfold De at this;rw[zi]at this;exact this.1)
  have rb:=El (n:=b.1) (by
   have:=ob;unfold De at this;rw[zi]at this;exact this.1)
  have ea:=Bn a2;have eb:=Bn b2;rw[ea]at eM;rw[eb]at hD r2;rw[ea,eb]at q0 q1 r0 r1 z1 z2;rw[ea]at r2;have hq:zR a.1 b.1=if a.1<0 then -(Ag a.1/b.1)else Ag a.1/b.1:=by
   rw[eM];split
   ·have:=Int.neg_tdiv (-a.1) b.1;rw[Int.neg_neg]at this;rw[this,zt (by omega)]
   ·exact zt (by omega)
  have hr:yt a.1 b.1=if a.1<0 then -(Ag a.1 % b.1)else Ag a.1 % b.1:=by
   rw[eM];split
   ·have:=Int.neg_tmod (-a.1) b.1;rw[Int.neg_neg]at this;rw[this,zx (by omega)]
   ·exact zx (by omega)
  refine zd (decide_eq_true (by omega)) (zd (decide_eq_true (by omega)) (zp (fun c=>?_) (fun c=>?_)))
  ·have c:=of_decide_eq_true c;rw[hr]at c;have hn:a.1<0:=by split at c<;>omega
   rw[if_pos hn]at c hq hr;rw[if_pos hn]at eM;obtain⟨z3,z4⟩:=z2 (by omega);have ev:a.1= -Ag a.1:=by omega
   have hqm:Ag a.1/b.1<9223372036854775807:=by
    rcases zF (Ag a.1/b.1) 9223372036854775807 with g|g
    ·exact g
    ·have:=zN (Ag a.1) b.1;have:=zk (show 1≤b.1 by omega) q0;omega
   refine zm (fin (zf .i64 (zf .i64 (zR a.1 b.1)-1),[]) (zf .i64 (yt a.1 b.1+b.1),[]) _ _ rfl ?_ ?_)
   ·rw[hq,wr (-(Ag a.1/b.1)) (by omega) (by omega),wr _ (by omega) (by omega)];refine(P9 _ (by omega) (.inr ⟨by omega,?_,by omega⟩)).symm;unfold GN;rw[ea,eb,if_pos ⟨hn,by omega⟩,show -(Ag a.1/b.1)-1+1= -(Ag a.1/b.1)by omega]
   ·rw[hr,wr _ (by omega) (by omega)];have:a.1 % b.1=b.1-Ag a.1 % b.1:=by rw[←z4, ←ev]
    rw[ea,eb,this,BT (by omega)];congr 1;omega
  ·have c:=of_decide_eq_false c;rw[hr]at c;refine zm (fin (zf .i64 (zR a.1 b.1),[]) (yt a.1 b.1,[]) _ _ rfl ?_ ?_)
   ·have hqq:GN a b=CF (zR a.1 b.1):=by
     unfold GN;rw[ea,eb,hq,if_neg (by rintro⟨h1,h2⟩;rw[if_pos h1]at c;omega),Dc];by_cases h:a.1<0
     ·rw[if_pos (decide_eq_true h),if_pos h]
     ·rw[if_neg (by simp;omega),if_neg h]
    have hb': -9223372036854775808<zR a.1 b.1∧zR a.1 b.1<9223372036854775808:=by
     rw[hq,eM]at*;split<;>split at q1<;>split at q0<;>omega
    rw[wr _ (by omega) (by omega)];exact(P9 _ hb' (.inl hqq)).symm
   ·rw[hr];by_cases h:a.1<0
    ·rw[if_pos h]at c ⊢;have hz:Ag a.1 % b.1=0:=by omega
     rw[if_pos h]at eM;have ev:a.1= -Ag a.1:=by omega
     have:=(z1 hz).2;rw[←ev]at this;rw[ea,eb,this,hz];rfl
    ·rw[if_neg h]at c ⊢;rw[if_neg h]at eM;rw[ea,eb,eM,BT (by rw[eM]at r0 r1;omega)]
 ·exact zd oa (zd ob (zd hdiv slow))
 ·exact zd oa (zd ob (zd hdiv slow))
 ·exact zd oa (zd ob (zd hdiv slow))
end T176
theorem fY:∀g sp,rI.sp g=some sp→Ae AS g sp:=
 Aa T176.ok (Aa T212.ok (Aa T173.ok (fun g sp h=>by cases h)))
theorem fT{a:AR}(h:De a=true):Tn a=CF (Ag (zl a)):=by
 have hn:=jD h;obtain⟨hr,hw⟩:=DA h;unfold Tn;by_cases h0:a.1<0
 ·rw[if_pos h0,Ai];unfold CT;have hneg:=hn.1 h0;split
  ·next c=>rw[Bn c.1]at hneg ⊢;rw[BT (by omega)];congr 1;omega
  ·congr 1;omega
 ·rw[if_neg h0];obtain⟨s,w⟩:=a;have h0:¬s<0:=h0;rcases hw with hw|⟨h1,h2,h3⟩
  ·have hw:w=[]:=hw;subst hw;have hr: -9223372036854775808≤s∧s<9223372036854775808:=hr;rw[Ed,Ai,BT (by omega)];congr 1;omega
  ·obtain⟨_,d,z⟩:=Et h1;have h2:s=1∨s= -1:=h2;have h3:9223372036854775808≤Al w:=h3;have hne:w≠[]:=by rintro rfl;exact absurd h3 (by decide)
   have hs:s=1:=by omega
   subst hs;rw[T9 hne,if_neg (by decide),Ai];have:=QC (w:=w) false d z h3;rw[if_neg (by decide),if_neg (by decide)]at this;rw[show((Al w).natAbs:Int)=Al w by omega,this]
theorem bS(n:Int):Hf (Cn n,Cm n)=RX n:=by
 show RX (zl (CF _))=_;rw[Cg]
theorem Ke(n:Int):zl (Cn n,Cm n)=n:=Cg n
theorem Wn(m n:Int):Td (Cn m,Cm m) (Cn n,Cm n)=Cn (m % n)∧SW (Cn m,Cm m) (Cn n,Cm n)=Cm (m % n):=by
 constructor
 ·show Cn (zl (CF _) % zl (CF _))=_;rw[Cg,Cg]
 ·show Cm (zl (CF _) % zl (CF _))=_;rw[Cg,Cg]
theorem E6{n:Int}(h:A8 (CF n)=true):A8 (Cn n,Cm n)=true:=h
theorem Mu{a:AR}(h:De a=true):OS a=Cn (Ag (zl a))∧NM a=Cm (Ag (zl a)):=by
 unfold OS NM;rw[fT h];exact⟨rfl,rfl⟩
theorem Sw(x y:Nat):((x:Int) % (y:Int))=((x % y:Nat):Int):=rfl
theorem kK(a b:AR)(n:Int)(h:n=Sp.gI (zl a) (zl b)):(Cn n,Cm n)=(LP a b,LX a b):=by subst h;rfl
namespace T152
variable {Q:PV→Ob→Prop}
theorem gY(n:Nat)(h:(n:Int)<(Aj:Int)^9000):A8 (CF (n:Int))=true:=Dx (by rw[Ai,Int.natAbs_natCast];exact h)
theorem Am(g:Nat)(o2 L:Int)(hL:∀n:Nat,(n:Int)<L→A8 (CF (n:Int))=true)(hq:∀ob,Q (.agg [.dat i64 (Cn (g:Int)),.dat (.nlist u64) (Cm (g:Int))]) ob):∀(f x y:Nat),y<f→yQ x y=g→(x:Int)<L→(y:Int)<L→
  Ends rI (L1 o2 (Cn (y:Int)) (Cm (y:Int)) (Cn (x:Int)) (Cm (x:Int))) Q
 |0,x,y,h,_,_,_=>by omega
 |f+1,x,y,hy,hg,bx,by'=>by
  have jx:A8 (CF (x:Int))=true:=hL x bx;have jy:A8 (CF (y:Int))=true:=hL y by'
  refine zq (Au ..) (zd (B0 (E6 jy)).1 ?_);rw[bS,(Wn _ _).1,(Wn _ _).2,Ke,Sw];by_cases h0:y=0
  ·subst h0;rw[Nat.gcd_zero_right]at hg;subst hg;exact zC rfl (zm (hq _))
  ·have hlt:x % y<y:=Nat.mod_lt _ (by omega);refine zd ?_ (zd (Ac (Ac (E6 jx) (E6 jy)) (decide_eq_true (by omega))) ?_)
   ·rw[J9,if_neg (by omega),if_pos (by omega)];rfl
   ·exact Am g o2 L hL hq f y (x % y) (by omega) (by rw[yF, ←Nat.gcd_rec,yF];exact hg) by' (by omega)
set_option maxRecDepth 10000 in
theorem ok:Ae AS 152 V0:=by
 refine Ax (X:=rI) rfl fY (d:=9) (by kernel_rfl) (by kernel_rfl) (by kernel_rfl) (fun(i:(Int×List Int)×(Int×List Int)) hi=>?_) (Ad (by kernel_rfl));obtain⟨a,b⟩:=i;have hi:(A8 a&&A8 b)=true:=hi;rw[zi]at hi;obtain⟨ha,hb⟩:=hi;have oa:=(B0 ha).1;have ob:=(B0 hb).1;have ba:=bounds ha;have bb:=bounds hb;rw[Ai]at ba bb;refine zT (An a b) (zd oa (zd ob ?_));show Ends rI (L1 0 (OS b) (NM b) (OS a) (NM a)) _;rw[(Mu oa).1,(Mu oa).2,(Mu ob).1,(Mu ob).2,Ai,Ai];refine Am (yQ (zl a).natAbs (zl b).natAbs) 0 _ gY (fun ob=>zZ rfl rfl (kK a b _ ?_)) ((zl b).natAbs+1) _ _ (Nat.lt_succ_self _) rfl ba bb;rw[Fc];rfl
end T152
end Go.Pe
end
section
namespace Go.Pe
open Sp
open Go.Det
theorem tA(n:Nat)(h:n<9223372036854775808):G5 .i64 (n:Int) 1=((n % 2:Nat):Int):=by
 have e:(zJ 64 (n:Int)&&&zJ 64 1).toNat=n % 2:=by
  rw[BitVec.toNat_and];have h1:(zJ 64 (n:Int)).toNat=n:=by rw[BitVec.ofInt_natCast,BitVec.toNat_ofNat];exact Nat.mod_eq_of_lt (by omega)
  have h2:(zJ 64 1).toNat=2^1-1:=by decide
  rw[h1,h2,Nat.and_two_pow_sub_one_eq_mod]
 show zf .i64 (((zJ 64 (n:Int)&&&zJ 64 1).toNat:Nat):Int)=_;rw[e];exact wr _ (by omega) (by omega)
namespace T216
variable {Q:PV→Ob→Prop}
theorem R5{c:Int}(h:c≠0):1≤Ag c:=by rw[Ai];omega
theorem Wu(c:Int):∀k:Nat,Ag (c^k)=Ag c^k
 |0=>by rw[zI,zI];rfl
 |k+1=>by rw[zu,zu,Ip,Wu c k]
theorem one_le_pow{c:Int}(h:1≤c):∀k:Nat,1≤c^k
 |0=>by rw[zI];decide
 |k+1=>by
  rw[zu];have:=zk (one_le_pow h k) (show 0≤c by omega);omega
theorem tU{p c L:Int}{k:Nat}(hL:1<L)(h:Ag (p*c^k)<L)(h1:c=0→Ag p≤1)(h2:c≠0→p≠0):Ag p<L∧(1≤k→Ag c<L)∧(2≤k→Ag (c*c)<L)∧(1≤k→Ag (p*c)<L):=by
 by_cases hc:c=0
 ·subst hc;have:=h1 rfl;have e:Ag 0=0:=rfl;exact⟨by omega,fun _=>by rw[e];omega,fun _=>by rw[z6,e];omega,fun _=>by rw[z6,e];omega⟩
 ·have hp:=R5 (h2 hc);have hc1:=R5 hc;rw[Ip,Wu]at h;rw[Ip,Ip];generalize Ag p=P at*;generalize Ag c=C at*;have k0:1≤C^k:=one_le_pow hc1 k;have a1:P≤P*C^k:=by
   have:=zh k0 (show 0≤P by omega);omega
  have aC:C^k≤P*C^k:=by
   have:=zk hp (show 0≤C^k by omega);omega
  refine⟨by omega,fun hk=>?_,fun hk=>?_,fun hk=>?_⟩
  ·obtain⟨j,rfl⟩:∃j,k=j+1:=⟨k-1,by omega⟩;rw[zu]at aC h;have:=zk (one_le_pow hc1 j) (show 0≤C by omega);omega
  ·obtain⟨j,rfl⟩:∃j,k=j+2:=⟨k-2,by omega⟩;have e:C^(j+2)=C^j*(C*C):=by rw[zu,zu,zG]
   rw[e]at aC h;have:=zk (one_le_pow hc1 j) (zE (show 0≤C by omega) (show 0≤C by omega));omega
  ·obtain⟨j,rfl⟩:∃j,k=j+1:=⟨k-1,by omega⟩;have e:P*C^(j+1)=C^j*(P*C):=by rw[zu,zD]
   rw[e]at h;have:=zk (one_le_pow hc1 j) (zE (show 0≤P by omega) (show 0≤C by omega));omega
theorem XR{p c:Int}{k j:Nat}(h:k=2*j):p*(c*c)^j=p*c^k:=by
 subst h;rw[Int.pow_mul,zu,zu,zI,zK]
theorem Zj{p c:Int}{k j:Nat}(h:k=2*j+1):p*c*(c*c)^j=p*c^k:=by
 subst h;rw[zu,Int.pow_mul,show c^2=c*c by rw[zu,zu,zI,zK],zG,zw c]
theorem tK{x:Int}(h:x<(18446744073709551616:Int)^(4000:Nat)):x<(Aj:Int)^9000:=
 yb h (AJ (b:=Aj) (by decide) (by omega))
theorem Am(o1 R:Int)(hR:Ag R<(18446744073709551616:Int)^(4000:Nat))(hq:∀ob,Q (.agg [.dat i64 (Cn R),.dat (.nlist u64) (Cm R)]) ob):
  ∀(f k:Nat) (p:Int) (a:AR),k<f→k≤100000→(1≤k→A8 a=true)→p*zl a^k=R→(zl a=0→Ag p≤1)→(zl a≠0→p≠0)→
   Ends pJ (L1 (k:Int) (Cn p) (Cm p) o1 a.1 a.2) Q
 |0,k,p,a,h,_,_,_,_,_=>by omega
 |f+1,k,p,a,hk,hk2,ha,he,h1,h2=>by
  have hL:(1:Int)<(18446744073709551616:Int)^(4000:Nat):=yb (show(1:Int)<18446744073709551616^(1:Nat)by decide) (AJ (b:=18446744073709551616) (by decide) (by omega));rw[←he]at hR;obtain⟨s1,s2,s3,s4⟩:=tU hL hR h1 h2;by_cases h0:k=0
  ·subst h0;rw[zI,zS]at he;subst he;exact zq (Au ..) (zC (by simp) (zm (hq _)))
  ·have jp:A8 (Cn p,Cm p)=true:=Dx (tK s1);have ja:A8 a=true:=ha (by omega);have ef:Int.fdiv (k:Int) ((2:Int)^(1:Nat))=((k/2:Nat):Int):=by
    rw[zY _ (by decide)];rfl
   have m1:(Ex (Cn p,Cm p) a,Ew (Cn p,Cm p) a)=CF (p*zl a):=by
    show CF (zl (CF p)*zl a)=_;rw[Cg]
   have m1s:Ex (Cn p,Cm p) (a.1,a.2)=Cn (p*zl a):=congrArg Prod.fst m1;have m1w:Ew (Cn p,Cm p) (a.1,a.2)=Cm (p*zl a):=congrArg Prod.snd m1;have m2:zl (EK a a)=zl a*zl a:=Dd a a;have sq:∀q:Int,1<k→q*(zl a*zl a)^(k/2)=p*zl a^k→(zl a=0→Ag q≤1)→(zl a≠0→q≠0)→Ends pJ (L1 ((k/2:Nat):Int) (Cn q) (Cm q) o1 (Ex (a.1,a.2) (a.1,a.2)) (Ew (a.1,a.2) (a.1,a.2))) Q:=by
    intro q hk1 hq' g1 g2;refine Am o1 R (by rw[he]at hR;exact hR) hq f (k/2) q (EK a a) (by omega) (by omega) (fun _=>Dx (tK (s3 (by omega)))) (by rw[m2,hq',he]) (fun z=>g1 ?_) (fun z=>g2 ?_)
    ·rw[m2]at z;rcases Int.mul_eq_zero.1 z with z|z<;>exact z
    ·rintro z2;rw[m2,z2]at z;exact z rfl
   have st:∀q:Int,k=1→q=R→Ends pJ (L1 ((k/2:Nat):Int) (Cn q) (Cm q) o1 a.1 a.2) Q:=by
    intro q hk1 hq';subst hk1 hq';exact zq (Au ..) (zC (by simp) (zm (hq _)))
   refine zq (Au ..) (zd (decide_eq_true (by omega)) ?_);rw[tA k (by omega),ef,m1s,m1w];refine zp (fun c=>?_) (fun c=>?_)
   ·have c:((k % 2:Nat):Int)=1:=by simpa using c
    refine zd (Ac jp ja) (zp (fun d=>zd (Ac ja ja) (zd rfl ?_)) (fun d=>zd rfl ?_))
    ·have d:=of_decide_eq_true d;refine sq _ (by omega) (Zj (by omega)) (fun z=>by rw[z,z6];decide) (fun z=>?_);exact Int.mul_ne_zero (h2 z) z
    ·have d:=of_decide_eq_false d;have hk1:k=1:=by omega
     refine st _ hk1 ?_;rw[←he,hk1,zu,zI,zK]
   ·have c:((k % 2:Nat):Int)≠1:=by simpa using c
    refine zp (fun d=>zd (Ac ja ja) (zd rfl ?_)) (fun d=>?_)
    ·have d:=of_decide_eq_true d;exact sq _ (by omega) (XR (by omega)) h1 h2
    ·have d:=of_decide_eq_false d;omega
theorem kT:∀g sp,pJ.sp g=some sp→Ae AS g sp:=Aa T105n.ok (Aa T159.ok (fun g sp h=>by cases h))
theorem ok:Ae AS 216 bP:=by
 refine Ax (X:=pJ) rfl kT (d:=9) (by kernel_rfl) (by kernel_rfl) (by kernel_rfl) (fun(i:(Int×List Int)×Int) hi=>?_) (Ad (by kernel_rfl));obtain⟨a,k⟩:=i;have hi:(A8 a&&(decide (0≤k)&&decide (k≤100000)&&decide (Ag (Sp.pI (zl a) k)<(18446744073709551616:Int)^(4000:Nat))))=true:=hi;rw[zi,zi,zi,decide_eq_true_eq,decide_eq_true_eq,decide_eq_true_eq,RT]at hi;obtain⟨ha,⟨k0,k1⟩,hR⟩:=hi;obtain⟨n,rfl⟩:=yc k0;have e1:Dw 1=Cm 1:=by rw[D1];rfl
 refine zT (An a n) (zd rfl ?_);rw[e1];refine Am (Q:=Af bP (a,(n:Int))) 0 (zl a^n) hR (fun ob=>zZ rfl rfl ?_) (n+1) n 1 a (by omega) (by omega) (fun _=>ha) (zK _) (fun _=>by decide) (fun _=>by decide);show CF _=CF (Sp.pI (zl a) (n:Int));rw[RT];rfl
end T216
end Go.Pe
end
section
namespace Go.Sp
theorem NB{l:List Int}(h:Jc l=true):l.length≤20000∧At B9 l:=by
 unfold Jc at h;rw[zi,decide_eq_true_eq,List.all_eq_true]at h;exact⟨h.1,fun d hd=>by
  have:=h.2 d hd;rw[zi,decide_eq_true_eq,decide_eq_true_eq]at this;exact this⟩
theorem KO{l:List Int}(h1:l.length≤20000)(h2:At B9 l):Jc l=true:=by
 unfold Jc;rw[zi,decide_eq_true_eq,List.all_eq_true];exact⟨h1,fun d hd=>by
  have:=h2 d hd;rw[zi,decide_eq_true_eq,decide_eq_true_eq];exact this⟩
theorem mL{l:List Int}(h:hR l=true):l.length≤9000∧At B9 l:=by
 unfold hR at h;rw[zi,decide_eq_true_eq]at h;exact⟨h.2,(NB h.1).2⟩
theorem Qa{l:List Int}(h1:l.length≤9000)(h2:At B9 l):hR l=true:=by
 unfold hR;rw[KO (by omega) h2,yz];exact decide_eq_true h1
theorem Bi{l:List Int}(h:A3 l=true):l.length≤20000∧At B9 l∧nz l:=by
 unfold A3 at h;rw[zi]at h;have:=NB h.1;exact⟨this.1,this.2,by
  have:=h.2;unfold qV at this;have:l.getLast?≠some 0:=of_decide_eq_true this;exact this⟩
theorem ZB{l:List Int}(h1:l.length≤20000)(h2:At B9 l)(h3:nz l):A3 l=true:=by
 unfold A3 qV;rw[KO h1 h2,yz];exact decide_eq_true h3
theorem F6{l:List Int}(h:At B9 l)(i:Nat):0≤l.getD i 0∧l.getD i 0<1000000000:=Jh (by decide) h i
theorem EN{l:List Int}{x:Int}(h:At B9 l)(hx:0≤x∧x<1000000000):At B9 (l++[x]):=Ez h (fun d hd=>by rw[ya]at hd;subst hd;exact hx)
theorem B6(l:List Int)(x:Int):val B9 (l++[x])=val B9 l+(B9:Int)^l.length*x:=by
 rw[CC];simp[val]
theorem I5(i:Nat)(c:Int):(B9:Int)^(i+1)*c=(B9:Int)^i*(1000000000*c):=by
 rw[zu,zG];rfl
theorem Fo{l:List Int}(h:At B9 l):Ar l=BM (Aq l):=Wc (by decide) h
theorem ME{n:Int}{k:Nat}(h0:0≤n)(h:n<(B9:Int)^k):(BM n).length≤k:=by
 refine MJ B9 (by decide) k n.toNat n.toNat ?_;have e:((B9^k:Nat):Int)=(B9:Int)^k:=Int.natCast_pow ..;rw[←e]at h;generalize B9^k=P at*;omega
theorem Gj{n:Int}{k:Nat}(h0:0≤n)(h:n<(B9:Int)^k)(hk:k≤9000):A3 (BM n)=true∧hR (BM n)=true∧Aq (BM n)=n∧(BM n).length≤k:=by
 have h1:=ME h0 h;have h2:=EX (b:=B9) (by decide) n;exact⟨ZB (by omega) h2 (VI (by decide) n),Qa (by omega) h2,CD (by decide) h0,h1⟩
end Go.Sp
namespace Go.Pe
open Sp
open Go.Det
theorem QM:∀g sp,XX.sp g=some sp→Ae AS g sp:=fun g sp h=>by cases h
namespace T227
theorem Am{Q:PV→Ob→Prop}:∀(n:Nat) (w:List Int),w.length=n→n≤20000→(∀ob,Q (.dat li (Ar w)) ob)→Ends XX (L1 w) Q
 |0,w,hl,_,hq=>by
  have:w=[]:=zB.1 hl;subst this;exact zq (Au ..) (zC (by simp) (zm (hq _)))
 |n+1,w,hl,hn,hq=>by
  obtain⟨p,x,rfl⟩:∃p x,w=p++[x]:=by
   have hne:w≠[]:=by rintro rfl;simp at hl
   exact⟨w.dropLast,w.getLast hne,(ym hne).symm⟩
  have hp:p.length=n:=by simpa using hl
  have e1:zf .i64 (((p++[x]).length:Int)-1)=(n:Int):=by rw[wr _ (by omega) (by omega)];omega
  have g1:(p++[x]).getD n 0=x:=Dl _ _ _ _ hp;have t1:(p++[x]).take n=p:=by rw[←hp];exact yK
  refine zq (Au ..) (zd (decide_eq_true (by omega)) ?_);rw[e1,zg,g1,t1];refine zd (by simp;omega) (zp (fun c=>zd (by simp;omega) ?_) (fun c=>?_))
  ·have c:x=0:=by simpa using c
   subst c;rw[Hv]at hq;exact Am n p hp (by omega) hq
  ·have c:x≠0:=by simpa using c
   rw[HP (WV c)]at hq;exact zm (hq _)
theorem ok:Ae AS 227 QJ:=by
 refine Ax (X:=XX) rfl QM (d:=9) (by kernel_rfl) (by kernel_rfl) (by kernel_rfl) (fun(w:List Int) hw=>?_) (Ad (by kernel_rfl));have hw:w.length≤20000:=of_decide_eq_true hw;exact zT (An w) (Am w.length w rfl hw (fun ob=>zZ rfl rfl rfl))
end T227
theorem Qw:∀g sp,Ug.sp g=some sp→Ae AS g sp:=Aa T227.ok (fun g sp h=>by cases h)
theorem T168.ok:Ae AS 168 H7:=by
 refine Ax (X:=Ug) rfl Qw (d:=9) (by kernel_rfl) (by kernel_rfl) (by kernel_rfl) (fun(i:Bool×List Int) hi=>?_) (Ad (by kernel_rfl));obtain⟨n,w⟩:=i;refine zT (T168.An n w) (zd hi (zp (fun c=>zm (zZ rfl rfl ?_)) (fun c=>zm (zZ rfl rfl ?_))))
 ·show(decide (((Ar w).length:Int)>0),Ar w)=(B5 n w,Ar w);unfold B5;rw[c,yz];congr 1;rw[decide_eq_decide];constructor
  ·intro h h2;rw[h2]at h;simp at h
  ·intro h;have:(Ar w).length≠0:=fun h2=>h (zB.1 h2)
   omega
 ·show(false,Ar w)=(B5 n w,Ar w);unfold B5;rw[c];rfl
namespace T170
theorem Am{Q:PV→Ob→Prop}(a b:List Int)(ha:At ze a)(hb:At ze b)(hl:a.length=b.length)(h2:b.length≤20000)(hq:∀ob,Q (.dat i64 (BW (Aq a) (Aq b))) ob):∀(i:Nat),i≤a.length→a.drop i=b.drop i→Ends XX (L1 a b ((i:Int)-1)) Q
 |0,hi,he=>by
  have he:a=b:=he;have:BW (Aq a) (Aq b)=0:=by rw[he];unfold BW;simp
  rw[this]at hq;exact zq (Au ..) (zC (by simp) (zm (hq _)))
 |i+1,hi,he=>by
  have e1:(((i+1:Nat):Int)-1)=(i:Int):=by omega
  have da:a.drop i=a.getD i 0::a.drop (i+1):=B3 (by omega);have db:b.drop i=b.getD i 0::a.drop (i+1):=by rw[he];exact B3 (by omega)
  rw[e1];refine zq (Au ..) (zd (by simp) ?_);rw[zg];refine zd (by simp;omega) (zd (by simp;omega) (zp (fun d=>?_) (fun d=>zd (by simp;omega) (zd (by simp;omega) (zp (fun c=>?_) (fun c=>?_))))))
  ·have d:=of_decide_eq_true d;have:=IK (b:=ze) (by decide) ha hb da db d;have e:BW (Aq a) (Aq b)= -1:=by unfold BW;exact if_pos this
   rw[e]at hq;exact zm (hq _)
  ·have c:=of_decide_eq_true c;have:=IK (b:=ze) (by decide) hb ha db da c;have e:BW (Aq a) (Aq b)=1:=by unfold BW Aq;rw[if_neg (by omega),if_pos (by omega)]
   rw[e]at hq;exact zm (hq _)
  ·have c:=of_decide_eq_false c;have d:=of_decide_eq_false d;rw[wr ((i:Int)-1) (by omega) (by omega)];exact Am a b ha hb hl h2 hq i (by omega) (by rw[da,db,show a.getD i 0=b.getD i 0 by omega])
theorem ok:Ae AS 170 WW:=by
 refine Ax (X:=XX) rfl QM (d:=9) (by kernel_rfl) (by kernel_rfl) (by kernel_rfl) (fun(i:List Int×List Int) hi=>?_) (Ad (by kernel_rfl));obtain⟨a,b⟩:=i;have hi:(A3 a&&A3 b)=true:=hi;rw[zi]at hi;obtain⟨a1,a2,a3⟩:=Bi hi.1;obtain⟨b1,b2,b3⟩:=Bi hi.2;have hq:∀ob,Af WW (a,b) (.dat i64 (BW (Aq a) (Aq b))) ob:=fun ob=>zZ rfl rfl rfl
 refine zT (An a b) (zp (fun c=>zp (fun d=>?_) (fun d=>?_)) (fun c=>?_))
 ·have d:=of_decide_eq_true d;have e:BW (Aq a) (Aq b)= -1:=by unfold BW;exact if_pos (Eg (by decide) a2 b2 b3 (by omega))
  rw[e]at hq;exact zm (hq _)
 ·have d:=of_decide_eq_false d;have c:(a.length:Int)≠b.length:=by simpa using c
  have:=Eg (b:=ze) (by decide) b2 a2 a3 (by omega);have e:BW (Aq a) (Aq b)=1:=by
   unfold BW Aq;rw[if_neg (by omega),if_pos (by omega)]
  rw[e]at hq;exact zm (hq _)
 ·have c:(a.length:Int)=b.length:=by simpa using c
  rw[wr _ (by omega) (by omega)];exact Am a b a2 b2 (by omega) b1 hq a.length (by omega) (by rw[yA,yG (by omega)])
end T170
theorem XT{x y o c:Int}(hx:0≤x∧x<1000000000)(hy:0≤y∧y<1000000000)(ho:0≤o∧o<1000000000)(hc:0≤c∧c<1000000000):
  zf .i64 (zf .i64 (o+zf .i64 (x*y))+c)=o+x*y+c∧yt (o+x*y+c) 1000000000=(o+x*y+c) % 1000000000∧zf .i64 (zR (o+x*y+c) 1000000000)=(o+x*y+c)/1000000000∧
  (0≤(o+x*y+c)/1000000000∧(o+x*y+c)/1000000000<1000000000)∧(0≤(o+x*y+c) % 1000000000∧(o+x*y+c) % 1000000000<1000000000):=by
 have h0:0≤x*y:=zE hx.1 hy.1;have h1:x*y≤999999999*999999999:=by
  have a:=zh (show y≤999999999 by omega) hx.1;have b:=zk (show x≤999999999 by omega) (show(0:Int)≤999999999 by omega);omega
 generalize x*y=P at*;have e1:zf .i64 P=P:=wr _ (by omega) (by omega);have e2:zf .i64 (o+P)=o+P:=wr _ (by omega) (by omega);have e3:zR (o+P+c) 1000000000=(o+P+c)/1000000000:=zt (by omega);refine⟨?_,zx (by omega),?_,by omega,by omega⟩
 ·rw[e1,e2];exact wr _ (by omega) (by omega)
 ·rw[e3];exact wr _ (by omega) (by omega)
namespace T172
variable {Q:PV→Ob→Prop}
theorem AZ(x y:List Int)(n i:Nat)(hi:i<x.length)(hn:n=x.length+y.length)(hx9:x.length≤9000)(hy9:y.length≤9000)(hx:At ze x)(hy:At ze y)(p:List Int)(hp:p.length=i+y.length)(hdp:At ze p)
  (hq:∀q c,q.length=i+y.length→At ze q→(0≤c∧c<1000000000)→zc ze q+(ze:Int)^(i+y.length)*c=zc ze p+(ze:Int)^i*(x.getD i 0*zc ze y)→Ends Ug (L1 x y n ((i+1:Nat):Int) ((q++[c])++zj (n-(i+y.length+1)) 0)) Q):∀(k j:Nat) (q:List Int) (c:Int),j+k=y.length→q.length=i+j→At ze q→(0≤c∧c<1000000000)→zc ze q+(ze:Int)^(i+j)*c=zc ze (p.take (i+j))+(ze:Int)^i*(x.getD i 0*zc ze (y.take j))→
  Ends Ug (L2 x y n i c j (q++(p.drop (i+j)++zj (n-(i+y.length)) 0))) Q
 |0,j,q,c,hj,hl,hd,hc,he=>by
  have hj:j=y.length:=by omega
  subst hj;have e1:zf .i64 ((i:Int)+(y.length:Int))=((i+y.length:Nat):Int):=by rw[wr _ (by omega) (by omega)];omega
  have e2:zf .i64 ((i:Int)+1)=((i+1:Nat):Int):=by rw[wr _ (by omega) (by omega)];omega
  have ed:p.drop (i+y.length)=[]:=yG (by omega);have eg:(q++zj (n-(i+y.length)) (0:Int)).getD (i+y.length) 0=0:=by
   have:n-(i+y.length)=(n-(i+y.length+1))+1:=by omega
   rw[this,List.replicate_succ];exact Dl _ _ _ _ hl
  refine zq (A4 ..) (zC (by simp) ?_);rw[e1,e2,zg,ed,yn,eg,Int.zero_add,wr c (by omega) (by omega),Il q n _ c hl (by omega)];refine zd (by simp;omega) (zd (by simp;omega) (zd (by simp;omega) (zd (by simp;omega) (hq q c hl hd hc ?_))));rw[he,zn (by omega),z7]
 |k+1,j,q,c,hj,hl,hd,hc,he=>by
  have gx:=F6 hx i;have gy:=F6 hy j;have gp:=F6 hdp (i+j);have ep:p.drop (i+j)=p.getD (i+j) 0::p.drop (i+j+1):=B3 (by omega);have e1:zf .i64 ((i:Int)+(j:Int))=((i+j:Nat):Int):=by rw[wr _ (by omega) (by omega)];omega
  have e2:zf .i64 ((j:Int)+1)=((j+1:Nat):Int):=by rw[wr _ (by omega) (by omega)];omega
  have lo:(q++(p.drop (i+j)++zj (n-(i+y.length)) (0:Int))).length=n:=by simp;omega
  have g1:(q++(p.drop (i+j)++zj (n-(i+y.length)) (0:Int))).getD (i+j) 0=p.getD (i+j) 0:=by
   rw[ep,List.cons_append];exact Dl _ _ _ _ hl
  have s1:∀z,(q++(p.drop (i+j)++zj (n-(i+y.length)) (0:Int))).set (i+j) z=(q++[z])++(p.drop (i+(j+1))++zj (n-(i+y.length)) 0):=by
   intro z;rw[ep,List.cons_append,C6 _ _ _ _ hl,zA];rfl
  obtain⟨m1,m2,m3,m4,m5⟩:=XT gx gy gp hc;refine zq (A4 ..) (zd (by simp;omega) ?_);rw[e1,e2,zg,zg,zg,g1,m1,m2,m3,s1];have t1:(decide ((0:Int)≤((i+j:Nat):Int))&&decide (((i+j:Nat):Int)<(n:Int)))=true:=by simp;omega
  refine zd t1 (zd (decide_eq_true (by rw[lo];omega)) (zd (by simp;omega) (zd (by simp;omega) (zd rfl (zd t1 (zd (decide_eq_true (by rw[lo];omega)) (zd rfl ?_)))))));refine AZ x y n i hi hn hx9 hy9 hx hy p hp hdp hq k (j+1) _ _ (by omega) (by simp;omega) (EN hd m5) m4 ?_;have ea:i+(j+1)=(i+j)+1:=by omega
  have eb:(ze:Int)^i*(x.getD i 0*((ze:Int)^j*y.getD j 0))=(ze:Int)^(i+j)*(x.getD i 0*y.getD j 0):=by
   rw[yJ,zG,zD (x.getD i 0)]
  have e6:(p.getD (i+j) 0+x.getD i 0*y.getD j 0+c) % 1000000000+1000000000*((p.getD (i+j) 0+x.getD i 0*y.getD j 0+c)/1000000000)=x.getD i 0*y.getD j 0+p.getD (i+j) 0+c:=by
   generalize x.getD i 0*y.getD j 0=P;omega
  rw[ea,B6,hl,I5,yw, ←zr,e6,AD _ p (i+j),AD _ y j,zr,zr,zr (x.getD i 0),zr,eb];omega
theorem Am(x y:List Int)(n:Nat)(hn:n=x.length+y.length)(hx9:x.length≤9000)(hy9:y.length≤9000)(hx:At ze x)(hy:At ze y)(hq:∀ob,Q (.dat li (BM (Aq x*Aq y))) ob):∀(k i:Nat) (p:List Int),i+k=x.length→p.length=i+y.length→At ze p→zc ze p=zc ze (x.take i)*zc ze y→
  Ends Ug (L1 x y n i (p++zj (n-(i+y.length)) 0)) Q
 |0,i,p,hi,hp,hd,he=>by
  have hi:i=x.length:=by omega
  subst hi;have ez:p++zj (n-(x.length+y.length)) (0:Int)=p:=by rw[hn,Nat.sub_self];simp
  have hv:Aq p=Aq x*Aq y:=by
   rw[z7]at he;exact he
  rw[ez];refine zq (Au ..) (zC (by simp) ?_);rw[zn (by omega)];refine zd ?_ (zm ?_)
  ·simp;omega
  ·rw[Fo hd,hv];exact hq _
 |k+1,i,p,hi,hp,hd,he=>by
  refine zq (Au ..) (zd (by simp;omega) ?_);have:=AZ (Q:=Q) x y n i (by omega) hn hx9 hy9 hx hy p hp hd (fun q c hl hdq hc hv=>by
   have:=Am x y n hn hx9 hy9 hx hy hq k (i+1) (q++[c]) (by omega) (by simp;omega) (EN hdq hc) (by
    rw[B6,hl,hv,he,AD,Int.add_mul,zG])
   rw[show i+1+y.length=i+y.length+1 by omega]at this;exact this) y.length 0 (p.take i) 0 (by omega) (by simp;omega) (AK hd i) (by decide) (by simp[zc])
  rw[Nat.add_zero, ←zA,zU]at this;exact this
theorem ok:Ae AS 172 Wf:=by
 refine Ax (X:=Ug) rfl Qw (d:=9) (by kernel_rfl) (by kernel_rfl) (by kernel_rfl) (fun(i:List Int×List Int) hi=>?_) (Ad (by kernel_rfl));obtain⟨x,y⟩:=i;have hi:(Sp.hR x&&Sp.hR y)=true:=hi;rw[zi]at hi;obtain⟨x1,x2⟩:=mL hi.1;obtain⟨y1,y2⟩:=mL hi.2;have e1:zf .i64 ((x.length:Int)+(y.length:Int))=((x.length+y.length:Nat):Int):=by rw[wr _ (by omega) (by omega)];omega
 refine zT (An x y) ?_;conv=>zeta
 rw[e1,zg];refine zd (by simp;omega) ?_;have:=Am (Q:=Af Wf (x,y)) x y (x.length+y.length) rfl x1 y1 x2 y2 (fun ob=>zZ rfl rfl rfl) x.length 0 (zj y.length 0) (by omega) (by simp) (fun d hd=>by rw[(List.mem_replicate.1 hd).2];decide) (by rw[K5];simp[zc]);rw[yN,List.replicate_append_replicate,show y.length+(x.length+y.length-y.length)=x.length+y.length by omega]at this;exact this
end T172
theorem Xp{r x d:Int}(hd:0<d∧d<1000000000)(hr:0≤r∧r<d)(hx:0≤x∧x<1000000000):
  zf .i64 (zf .i64 (r*1000000000)+x)=r*1000000000+x∧zf .i64 (zR (r*1000000000+x) d)=(r*1000000000+x)/d∧yt (r*1000000000+x) d=(r*1000000000+x) % d∧
  (0≤(r*1000000000+x)/d∧(r*1000000000+x)/d<1000000000)∧(0≤(r*1000000000+x) % d∧(r*1000000000+x) % d<d)∧(r*1000000000+x)/d*d+(r*1000000000+x) % d=r*1000000000+x:=by
 have h:=zN (r*1000000000+x) d;rw[zw]at h;have q0:0≤(r*1000000000+x)/d:=yj (by omega) (by omega);have q1:(r*1000000000+x)/d<1000000000:=ye hd.1 (by omega);refine⟨?_,?_,zx (by omega),⟨q0,q1⟩,⟨zO _ (by omega),zL _ hd.1⟩,h⟩
 ·rw[wr (r*1000000000) (by omega) (by omega)];exact wr _ (by omega) (by omega)
 ·rw[zt (by omega)];exact wr _ (by omega) (by omega)
namespace T226
variable {Q:PV→Ob→Prop}
theorem Am(a:List Int)(d:Int)(ha:At ze a)(hd:0<d∧d<1000000000)(hm:a.length≤20000)(hq:∀q r ob,At ze q→(0≤r∧r<d)→Aq a=Aq q*d+r→Q (.tup [.dat li (Ar q),.dat i64 r]) ob):∀(i:Nat) (q:List Int) (r:Int),i+q.length=a.length→At ze q→(0≤r∧r<d)→zc ze (a.drop i)=zc ze q*d+r→
  Ends Ug (L1 a d a.length r ((i:Int)-1) (zj i 0++q)) Q
 |0,q,r,hl,hdq,hr,he=>by
  have ht:((zj 0 0++q).take a.length)=q:=by
   rw[List.replicate_zero,yn];exact zn (by omega)
  refine zq (Au ..) (zC (by simp) ?_);rw[ht];refine zd (Ac (by simp;omega) (decide_eq_true (by omega))) (zm (hq q r _ hdq hr he))
 |i+1,q,r,hl,hdq,hr,he=>by
  have e1:(((i+1:Nat):Int)-1)=(i:Int):=by omega
  have gx:=F6 ha i;obtain⟨d1,d2,d3,d4,d5,d6⟩:=Xp hd hr gx;have da:a.drop i=a.getD i 0::a.drop (i+1):=B3 (by omega);have es:∀x,(zj (i+1) (0:Int)++q).set i x=zj i 0++(x::q):=by
   intro x;rw[yh,zA];exact C6 _ _ _ _ (by simp)
  rw[e1];refine zq (Au ..) (zd (by simp) ?_);rw[zg,es,wr ((i:Int)-1) (by omega) (by omega),d1,d2,d3];refine zd (by simp;omega) (zd (decide_eq_true (by omega)) (zd (by simp;omega) (zd (by simp;omega) (zd (decide_eq_true (by omega)) ?_))));refine Am a d ha hd hm hq i _ _ (by simp;omega) (fun x hx=>?_) d5 ?_
  ·rcases yg.1 hx with rfl|hx
   ·exact d4
   ·exact hdq x hx
  ·rw[da];show a.getD i 0+(1000000000:Int)*zc ze (a.drop (i+1))=((r*1000000000+a.getD i 0)/d+(1000000000:Int)*zc ze q)*d+(r*1000000000+a.getD i 0) % d;rw[he,Int.add_mul,zr,zG];omega
theorem ok:Ae AS 226 Ut:=by
 refine Ax (X:=Ug) rfl Qw (d:=9) (by kernel_rfl) (by kernel_rfl) (by kernel_rfl) (fun(i:List Int×Int) hi=>?_) (Ad (by kernel_rfl));obtain⟨a,d⟩:=i;have hi:(Jc a&&decide (0<d)&&decide (d<1000000000))=true:=hi;rw[zi,zi,decide_eq_true_eq,decide_eq_true_eq]at hi;obtain⟨⟨ha,d0⟩,d1⟩:=hi;obtain⟨hl,hda⟩:=NB ha;refine zT (An a d) ?_;conv=>zeta
 rw[zg,wr ((a.length:Int)-1) (by omega) (by omega)];refine zd (by simp;omega) ?_;have:=Am (Q:=Af Ut (a,d)) a d hda ⟨d0,d1⟩ hl (fun q r ob hq hr he=>?_) a.length [] 0 (by simp) (fun x hx=>by cases hx) ⟨yv _,d0⟩ (by rw[yA];simp[zc])
 ·rw[yk]at this;exact this
 ·refine zZ rfl rfl ?_;show(Ar q,r)=(BM (Aq a/d),Aq a % d);obtain⟨u1,u2⟩:=(zP (a:=Aq a) (b:=d) (r:=r) (q:=Aq q) d0).2 ⟨by rw[zw d];omega,hr.1,hr.2⟩;rw[Fo hq,u1,u2]
end T226
end Go.Pe
end
section
namespace Go.Pe
open Sp
open Go.Det
theorem kP:∀g sp,KQ.sp g=some sp→Ae AS g sp:=
 Aa T170.ok (Aa T227.ok (Aa T226.ok (Aa T172.ok (fun g sp h=>by cases h))))
theorem QO{t x y w:Int}(ht:0≤t∧t<1000000000)(hx:0≤x∧x<1000000000)(hy:0≤y∧y<1000000000)(hw:0≤w∧w≤1000000000):
  zf .i64 (zf .i64 (t*x)+w)=t*x+w∧yt (t*x+w) 1000000000=(t*x+w) % 1000000000∧zf .i64 (zR (t*x+w) 1000000000)=(t*x+w)/1000000000∧
  zf .i64 ((t*x+w)/1000000000+1)=(t*x+w)/1000000000+1∧zf .i64 (y-(t*x+w) % 1000000000)=y-(t*x+w) % 1000000000∧(0≤(t*x+w)/1000000000∧(t*x+w)/1000000000<1000000000)∧(0≤(t*x+w) % 1000000000∧(t*x+w) % 1000000000<1000000000):=by
 have h0:0≤t*x:=zE ht.1 hx.1;have h1:t*x≤999999999*999999999:=by
  have a:=zh (show x≤999999999 by omega) ht.1;have b:=zk (show t≤999999999 by omega) (show(0:Int)≤999999999 by omega);omega
 generalize t*x=P at*;have e1:zf .i64 P=P:=wr _ (by omega) (by omega);have e3:zR (P+w) 1000000000=(P+w)/1000000000:=zt (by omega);refine⟨?_,zx (by omega),?_,wr _ (by omega) (by omega),wr _ (by omega) (by omega),by omega,by omega⟩
 ·rw[e1];exact wr _ (by omega) (by omega)
 ·rw[e3];exact wr _ (by omega) (by omega)
theorem XA(w r:List Int)(i:Nat)(h:i<w.length):(w++r).getD i 0=w.getD i 0:=by
 rw[zM,zM,List.getElem?_append_left h]
namespace T164
variable {Q:PV→Ob→Prop}
theorem gW{lo w z:List Int}{h:Int}{j i:Nat}(hlo:lo.length=j)(hi:i<w.length):(lo++(w++h::z)).getD (i+j) 0=w.getD i 0:=by
 rw[Gu _ _ _ _ hlo,XA _ _ _ hi]
theorem sW{lo w z:List Int}{h:Int}{j i:Nat}(x:Int)(hlo:lo.length=j)(hi:i<w.length):(lo++(w++h::z)).set (i+j) x=lo++(w.set i x++h::z):=by
 rw[QL _ _ _ _ _ hlo,List.set_append_left _ _ hi]
theorem gH{lo w z:List Int}{h:Int}{j n:Nat}(hlo:lo.length=j)(hn:w.length=n):(lo++(w++h::z)).getD (n+j) 0=h:=by
 rw[Gu _ _ _ _ hlo];exact Dl _ _ _ _ hn
theorem sH{lo w z:List Int}{h:Int}{j n:Nat}(x:Int)(hlo:lo.length=j)(hn:w.length=n):(lo++(w++h::z)).set (n+j) x=lo++(w++x::z):=by
 rw[QL _ _ _ _ _ hlo];congr 1;exact C6 _ _ _ _ hn
theorem Mz(w z:List Int)(h:Int)(hz:zc ze z=0):zc ze (w++h::z)=zc ze w+(ze:Int)^w.length*h:=by
 rw[CC];show _+_*(h+(ze:Int)*zc ze z)=_;rw[hz,z6,yo]
theorem Cj(v8n v11n v12n:Nat)(o2 o0 v lo z:List Int)(n j:Nat)(t h' X:Int)(hn:v.length=n)(hn9:n≤9000)(hlo:lo.length=j)(hj:j≤9000)(h11:n+j<v11n)(hjv:j<v12n)(hj1:j<o2.length)(hv:At ze v)(hz:zc ze z=0)(hdz:At ze z)(hh: -2000000000≤h'∧h'≤2000000000)
  (hX:0≤X∧X<(ze:Int)^n) (hlen:v11n=j+n+1+z.length)
  (hfin:∀r:List Int,r.length=n+1+z.length→At ze r→zc ze r=X→Ends KQ (L2 v8n v n v11n v12n (zf .i64 ((j:Int)-1)) (o2.set j t) (lo++r) o0) Q):
  ∀(k i:Nat) (w:List Int) (c:Int),i+k=n→w.length=n→At ze w→(0≤c∧c≤1)→zc ze w+(ze:Int)^n*h'=X-zc ze v+zc ze (v.take i)-(ze:Int)^i*c→
   Ends KQ (L5 v8n v n v11n v12n j t c i o2 (lo++(w++h'::z)) o0) Q
 |0,i,w,c,hi,hw,hd,hc,he=>by
  have hi:i=n:=by omega
  subst hi;have e1:zf .i64 ((j:Int)+(i:Int))=((i+j:Nat):Int):=by rw[wr _ (by omega) (by omega)];omega
  have hv1:v.take i=v:=zn (by omega);rw[hv1]at he;have a1:=Ay (b:=ze) (by decide) hd;have a2:=Bm (b:=ze) (by decide) hd;rw[hw]at a2;have hp:=AM (b:=ze) (by decide) i;have e5:zc ze w+(ze:Int)^i*(h'+c)=X:=by rw[zr];omega
  have hzero:h'+c=0:=by
   rcases Int.lt_trichotomy (h'+c) 0 with g|g|g
   ·have:=zh (show h'+c≤ -1 by omega) (zo hp);rw[yL,zS]at this;omega
   ·exact g
   ·have:=zh (show 1≤h'+c by omega) (zo hp);rw[zS]at this;omega
  have hll:i+j<(lo++(w++h'::z)).length:=by simp;omega
  refine zq (Gk ..) (zC (by simp) ?_);rw[e1,zg,zg,gH hlo hw,sH _ hlo hw,wr (h'+c) (by omega) (by omega),hzero];have t1:(decide ((0:Int)≤((i+j:Nat):Int))&&decide (((i+j:Nat):Int)<(v11n:Int)))=true:=by simp;omega
  refine zd t1 (zd (decide_eq_true hll) (zd t1 (zd (decide_eq_true hll) (zd (by simp;omega) (zd (decide_eq_true hj1) (hfin _ (by simp;omega) (Ez hd (fun d hd'=>?_)) ?_))))))
  ·rcases yg.1 hd' with rfl|hd'
   ·decide
   ·exact hdz d hd'
  ·rw[Mz _ _ _ hz,hw, ←e5,hzero]
 |k+1,i,w,c,hi,hw,hd,hc,he=>by
  have gx:=F6 hv i;have gy:=F6 hd i;have e1:zf .i64 ((i:Int)+(j:Int))=((i+j:Nat):Int):=by rw[wr _ (by omega) (by omega)];omega
  have e2:zf .i64 ((i:Int)+1)=((i+1:Nat):Int):=by rw[wr _ (by omega) (by omega)];omega
  have e3:zf .i64 (zf .i64 (w.getD i 0+v.getD i 0)+c)=w.getD i 0+v.getD i 0+c:=by
   rw[wr (w.getD i 0+v.getD i 0) (by omega) (by omega)];exact wr _ (by omega) (by omega)
  have e4:yt (w.getD i 0+v.getD i 0+c) 1000000000=(w.getD i 0+v.getD i 0+c) % 1000000000:=zx (by omega);have e5:zf .i64 (zR (w.getD i 0+v.getD i 0+c) 1000000000)=(w.getD i 0+v.getD i 0+c)/1000000000:=by
   rw[zt (by omega)];exact wr _ (by omega) (by omega)
  have hll:i+j<(lo++(w++h'::z)).length:=by simp;omega
  refine zq (Gk ..) (zd (by simp;omega) ?_);rw[e1,e2,zg,zg,gW hlo (by omega),sW _ hlo (by omega),e3,e4,e5];have t1:(decide ((0:Int)≤((i+j:Nat):Int))&&decide (((i+j:Nat):Int)<(v11n:Int)))=true:=by simp;omega
  refine zd t1 (zd (decide_eq_true hll) (zd (by simp;omega) (zd rfl (zd t1 (zd (decide_eq_true hll) (zd rfl ?_))))));refine Cj v8n v11n v12n o2 o0 v lo z n j t h' X hn hn9 hlo hj h11 hjv hj1 hv hz hdz hh hX hlen hfin k (i+1) _ _ (by omega) (by simp[hw]) (Gz hd i (by show 0≤_∧_<(1000000000:Int);omega)) (by omega) ?_;rw[GJ _ _ _ _ (by omega),I5,AD];have e6:(ze:Int)^i*((w.getD i 0+v.getD i 0+c) % 1000000000-w.getD i 0)=(ze:Int)^i*v.getD i 0+(ze:Int)^i*c-(ze:Int)^i*(1000000000*((w.getD i 0+v.getD i 0+c)/1000000000)):=by
   rw[←zr, ←zW];congr 1;omega
  omega
theorem BN(v8n v11n v12n:Nat)(o2 o0 v lo z:List Int)(n j:Nat)(t h W:Int)(hn:v.length=n)(hn9:n≤9000)(hlo:lo.length=j)(hj:j≤9000)(h11:n+j<v11n)(hjv:j<v12n)(hj1:j<o2.length)(hv:At ze v)(hh:0≤h∧h<1000000000)(hlen:v11n=j+n+1+z.length)(ht:0≤t∧t<1000000000)
  (h0:∀(w:List Int) (h':Int),w.length=n→At ze w→0≤h'→zc ze w+(ze:Int)^n*h'=W-t*zc ze v→Ends KQ (L2 v8n v n v11n v12n (zf .i64 ((j:Int)-1)) (o2.set j t) (lo++(w++h'::z)) o0) Q)
  (h1:∀(w:List Int) (h':Int),w.length=n→At ze w→h'<0→ -2000000000≤h'→zc ze w+(ze:Int)^n*h'=W-t*zc ze v→Ends KQ (L5 v8n v n v11n v12n j (zf .i64 (t-1)) 0 0 o2 (lo++(w++h'::z)) o0) Q):
  ∀(k i:Nat) (w:List Int) (c:Int),i+k=n→w.length=n→At ze w→(0≤c∧c≤1000000000)→zc ze w+(ze:Int)^n*h=W-t*zc ze (v.take i)+(ze:Int)^i*c→
   Ends KQ (L4 v8n v n v11n v12n j t c i o2 (lo++(w++h::z)) o0) Q
 |0,i,w,c,hi,hw,hd,hc,he=>by
  have hi:i=n:=by omega
  subst hi;have e1:zf .i64 ((j:Int)+(i:Int))=((i+j:Nat):Int):=by rw[wr _ (by omega) (by omega)];omega
  have hv1:v.take i=v:=zn (by omega);rw[hv1]at he;have hll:i+j<(lo++(w++h::z)).length:=by simp;omega
  have hll2:i+j<(lo++(w++(h-c)::z)).length:=by simp;omega
  have e5:zc ze w+(ze:Int)^i*(h-c)=W-t*zc ze v:=by rw[zW];omega
  refine zq (Dp ..) (zC (by simp) ?_);rw[e1,zg,zg,gH hlo hw,wr (h-c) (by omega) (by omega),sH _ hlo hw,gH hlo hw];have t1:(decide ((0:Int)≤((i+j:Nat):Int))&&decide (((i+j:Nat):Int)<(v11n:Int)))=true:=by simp;omega
  refine zd t1 (zd (decide_eq_true hll) (zd t1 (zd (decide_eq_true hll) (zd t1 (zd (decide_eq_true hll2) (zp (fun d=>?_) (fun d=>?_)))))))
  ·have d:=of_decide_eq_true d;exact h1 w (h-c) hw hd d (by omega) e5
  ·have d:=of_decide_eq_false d;exact zd (by simp;omega) (zd (decide_eq_true hj1) (h0 w (h-c) hw hd (by omega) e5))
 |k+1,i,w,c,hi,hw,hd,hc,he=>by
  have gx:=F6 hv i;have gy:=F6 hd i;obtain⟨m1,m2,m3,m4,m5,m6,m7⟩:=QO ht gx gy hc;have e1:zf .i64 ((i:Int)+(j:Int))=((i+j:Nat):Int):=by rw[wr _ (by omega) (by omega)];omega
  have e2:zf .i64 ((i:Int)+1)=((i+1:Nat):Int):=by rw[wr _ (by omega) (by omega)];omega
  have hll:i+j<(lo++(w++h::z)).length:=by simp;omega
  have t1:(decide ((0:Int)≤((i+j:Nat):Int))&&decide (((i+j:Nat):Int)<(v11n:Int)))=true:=by simp;omega
  have go:∀(x c':Int),(0≤x∧x<1000000000)→(0≤c'∧c'≤1000000000)→c+(x-w.getD i 0)=1000000000*c'-t*v.getD i 0→Ends KQ (L4 v8n v n v11n v12n j t c' ((i+1:Nat):Int) o2 (lo++(w.set i x++h::z)) o0) Q:=by
   intro x c' hx hc' hxc;refine BN v8n v11n v12n o2 o0 v lo z n j t h W hn hn9 hlo hj h11 hjv hj1 hv hh hlen ht h0 h1 k (i+1) _ _ (by omega) (by simp[hw]) (Gz hd i hx) hc' ?_;rw[GJ _ _ _ _ (by omega),I5,AD,zr t,zD t];have e6:(ze:Int)^i*c+(ze:Int)^i*(x-w.getD i 0)=(ze:Int)^i*(1000000000*c')-(ze:Int)^i*(t*v.getD i 0):=by
    rw[←zr, ←zW,hxc]
   omega
  refine zq (Dp ..) (zd (by simp;omega) ?_);rw[e1,e2,zg,zg,gW hlo (by omega),m1,m2,m3,m4,m5,sW _ hlo (by omega),sW _ hlo (by omega)];refine zd (by simp;omega) (zd t1 (zd (decide_eq_true hll) (zd rfl (zd rfl (zp (fun d=>?_) (fun d=>?_))))))
  ·have d:=of_decide_eq_true d;rw[wr (w.getD i 0-(t*v.getD i 0+c) % 1000000000+1000000000) (by omega) (by omega)];refine zd t1 (zd (decide_eq_true hll) (go _ _ (by omega) (by omega) ?_));generalize t*v.getD i 0=P at*;omega
  ·have d:=of_decide_eq_false d;refine zd t1 (zd (decide_eq_true hll) (go _ _ (by omega) (by omega) ?_));generalize t*v.getD i 0=P at*;omega
theorem lD(v8n v11n v12n:Nat)(o2 o0 v lo r0:List Int)(n j:Nat)(hn:v.length=n)(hn9:n≤9000)(hlo:lo.length=j)(hj:j≤9000)(hr:n+1≤r0.length)(hlen:v11n=j+r0.length)(hjv:j<v12n)(hj1:j<o2.length)(hv:At ze v)(hd:At ze r0)(hz:zc ze (r0.drop (n+1))=0)
  (hfin:∀(q:Int) (r:List Int),r.length=r0.length→At ze r→(0≤q∧q<1000000000)→zc ze r<zc ze v→zc ze r=zc ze r0-q*zc ze v→Ends KQ (L2 v8n v n v11n v12n (zf .i64 ((j:Int)-1)) (o2.set j q) (lo++r) o0) Q)
  (q:Int) (hq:0≤q∧q<1000000000) (h1:zc ze r0<(q+1)*zc ze v) (h2:q*zc ze v<zc ze r0+zc ze v):
  Ends KQ (L4 v8n v n v11n v12n j q 0 0 o2 (lo++r0) o0) Q:=by
 have hdec:r0=r0.take n++r0.getD n 0::r0.drop (n+1):=by
  rw[←B3 (by omega)];exact(zU n r0).symm
 have gh:=F6 hd n;have hdw:=AK hd n;have hdz:=Eb hd (n+1);have hlw:(r0.take n).length=n:=by rw[zz];omega
 have hlz:(r0.drop (n+1)).length=r0.length-(n+1):=yf ..;have hW:zc ze r0=zc ze (r0.take n)+(ze:Int)^n*r0.getD n 0:=by
  conv=>lhs;rw[hdec]
  rw[Mz _ _ _ hz,hlw]
 have hVlt:=Bm (b:=ze) (by decide) hv;rw[hn]at hVlt;have hV0:=Ay (b:=ze) (by decide) hv;have hW0:=Ay (b:=ze) (by decide) hd;have hp:=AM (b:=ze) (by decide) n;rw[Int.add_mul,zK]at h1;rw[hdec];refine BN v8n v11n v12n o2 o0 v lo (r0.drop (n+1)) n j q (r0.getD n 0) (zc ze r0) hn hn9 hlo hj (by omega) hjv hj1 hv gh (by omega) hq (fun w h' a b c d=>?_) (fun w h' a b c c2 d=>?_) n 0 (r0.take n) 0 (by omega) hlw hdw (by decide) (by rw[←hW];simp[zc])
 ·have b0:=Ay (b:=ze) (by decide) b;have hz':h'=0:=by
   rcases zF 0 h' with g|g
   ·have:=zh (show 1≤h' by omega) (zo hp);omega
   ·omega
  refine hfin q _ (by simp;omega) (Ez b (fun x hx=>?_)) hq ?_ ?_
  ·rcases yg.1 hx with rfl|hx
   ·rw[hz'];decide
   ·exact hdz x hx
  ·rw[Mz _ _ _ hz,a,d];omega
  ·rw[Mz _ _ _ hz,a,d]
 ·have b0:=Bm (b:=ze) (by decide) b;rw[a]at b0;have hneg:zc ze r0-q*zc ze v<0:=by
   have:=zh (show h'≤ -1 by omega) (zo hp);rw[yL,zS]at this;omega
  have hq1:1≤q:=by
   rcases zF 0 q with g|g
   ·exact g
   ·have:q=0:=by omega
    subst this;rw[yC]at hneg;omega
  rw[wr (q-1) (by omega) (by omega)];refine Cj v8n v11n v12n o2 o0 v lo (r0.drop (n+1)) n j (q-1) h' (zc ze r0-q*zc ze v+zc ze v) hn hn9 hlo hj (by omega) hjv hj1 hv hz hdz (by omega) (by omega) (by omega) (fun r a' b' d'=>?_) n 0 w 0 (by omega) a b (by decide) (by rw[d];simp[zc]<;>omega);refine hfin (q-1) r (by omega) b' (by omega) (by omega) ?_;rw[d',yI,zK];omega
theorem CN(v8n v11n v12n:Nat)(o2 o0 v lo r0:List Int)(a2 a1 a0:List Int)(k j:Nat)(hn:v.length=k+2)(hn9:k+2≤9000)(hlo:lo.length=j)(hj:j≤9000)(hr:k+3≤r0.length)(hlen:v11n=j+r0.length)(hjv:j<v12n)(hj1:j<o2.length)(hv:At ze v)(hd:At ze r0)(hz:zc ze (r0.drop (k+3))=0)(hv1:1≤v.getD (k+1) 0)
  (hle:r0.getD (k+2) 0≤v.getD (k+1) 0) (hBV:zc ze r0<1000000000*zc ze v)
  (hfin:∀(q:Int) (r:List Int),r.length=r0.length→At ze r→(0≤q∧q<1000000000)→zc ze r<zc ze v→zc ze r=zc ze r0-q*zc ze v→Ends KQ (L2 v8n v ((k+2:Nat):Int) v11n v12n (zf .i64 ((j:Int)-1)) (o2.set j q) (lo++r) o0) Q):
  ∀(f:Nat) (q r:Int),0≤q→q<f→q≤2000000000000000000→(0≤r∧r<1000000000)→q*v.getD (k+1) 0+r=r0.getD (k+2) 0*1000000000+r0.getD (k+1) 0→zc ze r0<(q+1)*zc ze v→
   Ends KQ (L3 v8n v ((k+2:Nat):Int) v11n v12n j a2 a1 a0 v11n v j ((k+2:Nat):Int) q r o2 (lo++r0) o0) Q
 |0,q,r,h0,hf,_,_,_,_=>by omega
 |f+1,q,r,h0,hf,hmax,hr1,he,hup=>by
  have gv2:=F6 hv k;have gv1:=F6 hv (k+1);have gu2:=F6 hd k;have gu1:=F6 hd (k+1);have hP:=AM (b:=ze) (by decide) k;have hW:=gM ze r0 k (by omega) hz;have hV:=gQ ze v k hn;have hu':=Ay (b:=ze) (by decide) (AK hd k);have hu'':=Bm (b:=ze) (by decide) (AK hd k);have hv':=Ay (b:=ze) (by decide) (AK hv k);have hv'':=Bm (b:=ze) (by decide) (AK hv k);have hV0:=Ay (b:=ze) (by decide) hv;rw[zz,zH (by omega)]at hu'' hv'';have exit:∀q R:Int,0≤q→q<1000000000→q*v.getD (k+1) 0+R=r0.getD (k+2) 0*1000000000+r0.getD (k+1) 0→zc ze r0<(q+1)*zc ze v→q*v.getD k 0≤R*1000000000+r0.getD k 0→Ends KQ (L4 v8n v ((k+2:Nat):Int) v11n v12n j q 0 0 o2 (lo++r0) o0) Q:=by
   intro q R q0 q1 hqe hqu hx;refine lD v8n v11n v12n o2 o0 v lo r0 (k+2) j hn hn9 hlo hj hr hlen hjv hj1 hv hd hz hfin q ⟨q0,q1⟩ hqu ?_;rw[hW,hV];exact TR hP ⟨hv',hv''⟩ hu' ⟨q0,q1⟩ hv1 gv2.1 hqe hx
  have e1:zf .i64 (((k+2:Nat):Int)-2)=(k:Int):=by rw[wr _ (by omega) (by omega)];omega
  have e2:zf .i64 (((k+2:Nat):Int)-1)=((k+1:Nat):Int):=by rw[wr _ (by omega) (by omega)];omega
  have e3:zf .i64 (zf .i64 ((j:Int)+((k+2:Nat):Int))-2)=((k+j:Nat):Int):=by
   rw[wr ((j:Int)+((k+2:Nat):Int)) (by omega) (by omega),wr _ (by omega) (by omega)];omega
  have g3:(lo++r0).getD (k+j) 0=r0.getD k 0:=Gu _ _ _ _ hlo;have b1:(decide ((0:Int)≤((k+1:Nat):Int))&&decide (((k+1:Nat):Int)<(v.length:Int)))=true:=by simp;omega
  have dec:zc ze r0<q*zc ze v→Ends KQ (.ite (decide (zf .i64 (r+v.getD (k+1) 0)≥(1000000000:Int))) (L4 v8n v ((k+2:Nat):Int) v11n v12n j (zf .i64 (q-1)) 0 0 o2 (lo++r0) o0) (L3 v8n v ((k+2:Nat):Int) v11n v12n j a2 a1 a0 v11n v j ((k+2:Nat):Int) (zf .i64 (q-1)) (zf .i64 (r+v.getD (k+1) 0)) o2 (lo++r0) o0)) Q:=by
   intro hx;have hW0:=Ay (b:=ze) (by decide) hd;have hq1:1≤q:=by
    rcases zF 0 q with g|g
    ·exact g
    ·have:q=0:=by omega
     subst this;rw[yC]at hx;omega
   have he':(q-1)*v.getD (k+1) 0+(r+v.getD (k+1) 0)=r0.getD (k+2) 0*1000000000+r0.getD (k+1) 0:=by rw[yI,zK];omega
   have hup':zc ze r0<(q-1+1)*zc ze v:=by rw[show q-1+1=q by omega];exact hx
   rw[wr (q-1) (by omega) (by omega),wr (r+v.getD (k+1) 0) (by omega) (by omega)];refine zp (fun c=>?_) (fun c=>?_)
   ·have c:=of_decide_eq_true c;have hlt:q-1<1000000000:=by
     rcases zF (q-1) 1000000000 with g|g
     ·exact g
     ·have a:=zk g (show 0≤v.getD (k+1) 0 by omega);have b:=zk hle (show(0:Int)≤1000000000 by omega);omega
    refine exit (q-1) _ (by omega) hlt he' hup' ?_;have a:=zh (show v.getD k 0≤999999999 by omega) (show 0≤q-1 by omega);omega
   ·have c:=of_decide_eq_false c;exact CN v8n v11n v12n o2 o0 v lo r0 a2 a1 a0 k j hn hn9 hlo hj hr hlen hjv hj1 hv hd hz hv1 hle hBV hfin f (q-1) _ (by omega) (by omega) (by omega) (by omega) he' hup'
  refine zq (C9 ..) ?_;conv=>zeta
  rw[e1,e2,e3,zg,zg,zg,g3];refine zp (fun c=>zd b1 (dec ?_)) (fun c=>zd (by simp;omega) (zd (by simp;omega) (zd (by simp;omega) (zp (fun d=>zd b1 (dec ?_)) (fun d=>?_)))))
  ·have c:=of_decide_eq_true c;have:=zk c hV0;omega
  ·have c:=of_decide_eq_false c;have d:=of_decide_eq_true d;have a:=zh (show v.getD k 0≤999999999 by omega) h0;have b:=zE h0 gv2.1;rw[wr (q*v.getD k 0) (by omega) (by omega),wr (r*1000000000) (by omega) (by omega),wr _ (by omega) (by omega)]at d;have:=SF (B:=ze) (u0:=r0.getD (k+2) 0) (u1:=r0.getD (k+1) 0) (u2:=r0.getD k 0) hP hv' hu'' h0 (v1:=v.getD (k+1) 0) (v2:=v.getD k 0) (r:=r) he d;rw[←hW, ←hV]at this;exact this
  ·have c:=of_decide_eq_false c;have d:=of_decide_eq_false d;have a:=zh (show v.getD k 0≤999999999 by omega) h0;have b:=zE h0 gv2.1;rw[wr (q*v.getD k 0) (by omega) (by omega),wr (r*1000000000) (by omega) (by omega),wr _ (by omega) (by omega)]at d;exact exit q r h0 (by omega) he hup (by omega)
end T164
end Go.Pe
end
section
namespace Go.Pe
open Sp
open Go.Det
theorem Fv{w:List Int}(hd:At ze w)(hn:Sp.nz w){k:Nat}(hl:w.length=k+1):0<w.getD k 0∧w.getD k 0<1000000000:=by
 have g:=F6 hd k;refine⟨?_,g.2⟩;have e:w.getLast?=some (w.getD k 0):=by
  rw[yu,hl,z8,zM,yx (by omega)];rfl
 unfold Sp.nz at hn;rw[e]at hn;have:w.getD k 0≠0:=fun h=>hn (by rw[h])
 omega
theorem DQ(d:Int):zc ze [d]=d:=by simp[zc]
namespace T164
variable {Q:PV→Ob→Prop}
theorem AZ(v:List Int)(k la:Nat)(f:Int)(hf:0<f∧f<1000000000)(hn:v.length=k+2)(hla:la≤9000)(hkl:k+2≤la)(hv:At ze v)(hv1:1≤v.getD (k+1) 0)(W0:Int)
  (hq:∀(u qs:List Int) ob,At ze u→At ze qs→zc ze u<zc ze v→W0=zc ze u+zc ze v*zc ze qs→Q (.tup [.dat li (Ar qs),.dat li (BM (zc ze u/f))]) ob):
  ∀(t:Nat) (u qs:List Int),t+qs.length=la-(k+2)+1→u.length=la+1→At ze u→At ze qs→zc ze (u.drop t)<zc ze v→W0=zc ze u+zc ze v*((ze:Int)^t*zc ze qs)→
   Ends KQ (L2 1 v ((k+2:Nat):Int) (la+1) (la-(k+2)+1) ((t:Int)-1) (zj t 0++qs) u [f]) Q
 |0,u,qs,hl,hu,hd,hdq,hlt,he=>by
  have hlt:zc ze u<zc ze v:=hlt;have hVlt:=Bm (b:=ze) (by decide) hv;rw[hn]at hVlt;have hz:zc ze (u.drop (k+2))=0:=IP (b:=ze) (by decide) hd (by omega) (by omega);have hvu:zc ze (u.take (k+2))=zc ze u:=by
   rw[B4 ze u (k+2) (by omega),hz,z6,yo]
  have ht:(zj 0 0++qs).take (la-(k+2)+1)=qs:=by
   rw[List.replicate_zero,yn];exact zn (by omega)
  have htr:=GH (AK hd (k+2));have hlr:(Ar (u.take (k+2))).length≤9000:=by
   rw[Fo (AK hd (k+2))];refine Nat.le_trans (ME (k:=k+2) (Ay (by decide) (AK hd (k+2))) ?_) (by omega);show zc ze (u.take (k+2))<_;rw[hvu];omega
  have e1:Aq (Ar (u.take (k+2)))=zc ze u:=by
   show zc ze (Ar _)=_;rw[IQ,hvu]
  refine zq (A4 ..) (zC (by simp) ?_);rw[zg,ht,e1];refine zd (by simp;omega) (zd rfl (zd rfl (zd (by simp;omega) (zd (Ac (Ac (KO (by omega) htr) (decide_eq_true hf.1)) (decide_eq_true hf.2)) (zd (by simp;omega) (zm (hq u qs _ hd hdq hlt (by rw[he,zI,zK]))))))))
 |j+1,u,qs,hl,hu,hd,hdq,hlt,he=>by
  obtain⟨lo,r,rfl,hlo⟩:∃lo r:List Int,u=lo++r∧lo.length=j:=⟨u.take j,u.drop j,(zU j u).symm,by rw[zz];omega⟩;have hdlo:At ze lo:=fun d hd'=>hd d (yi.2 (.inl hd'))
  have hdr:At ze r:=fun d hd'=>hd d (yi.2 (.inr hd'))
  have hrl:r.length=la+1-j:=by rw[yp]at hu;omega
  have hdrop:∀z:List Int,(lo++z).drop j=z:=fun z=>by rw[←hlo];exact List.drop_left
  have hr0:r=r.getD 0 0::r.drop 1:=by
   have:=B3 (l:=r) (i:=0) (by omega);rw[List.drop_zero]at this;exact this
  have hd1:(lo++r).drop (j+1)=r.drop 1:=by rw[yD j 1,yD 1 j, ←yq,hdrop]
  rw[hd1]at hlt;have g0:=F6 hdr 0;have hvr:zc ze r=r.getD 0 0+1000000000*zc ze (r.drop 1):=by
   conv=>lhs;rw[hr0]
   rfl
  have hVlt:=Bm (b:=ze) (by decide) hv;rw[hn]at hVlt;have hrV:zc ze r<1000000000*zc ze v:=by rw[hvr];omega
  have hz:zc ze (r.drop (k+3))=0:=by
   refine IP (b:=ze) (by decide) hdr (by omega) ?_;have ep:(ze:Int)^(k+3)=(ze:Int)^(k+2)*1000000000:=zu ..;rw[ep];omega
  have gu0:=F6 hdr (k+2);have gu1:=F6 hdr (k+1);have gu2:=F6 hdr k;have gv1:=F6 hv (k+1);have gv2:=F6 hv k;have hP:=AM (b:=ze) (by decide) k;have hW:=gM ze r k (by omega) hz;have hV:=gQ ze v k hn;have hu'':=Bm (b:=ze) (by decide) (AK hdr k);have hv':=Ay (b:=ze) (by decide) (AK hv k);rw[zz,zH (by omega)]at hu'';have hle:r.getD (k+2) 0≤v.getD (k+1) 0:=by
   have a1:=B4 ze (r.drop 1) (k+1) (by rw[yf];omega);have a2:(r.drop 1).drop (k+1)=r.getD (k+2) 0::r.drop (k+3):=by
    rw[yq,show 1+(k+1)=k+2 by omega];exact B3 (by omega)
   have a3:zc ze (r.getD (k+2) 0::r.drop (k+3))=r.getD (k+2) 0:=by
    show r.getD (k+2) 0+(ze:Int)*zc ze (r.drop (k+3))=_;rw[hz];omega
   rw[a2,a3]at a1;have b1:zc ze v=zc ze (v.take (k+1))+(ze:Int)^(k+1)*v.getD (k+1) 0:=by
    rw[←AD,zn (by omega)]
   have b2:=Bm (b:=ze) (by decide) (AK hv (k+1));rw[zz,zH (by omega)]at b2;have c1:=Ay (b:=ze) (by decide) (AK (Eb hdr 1) (k+1));have c2:(ze:Int)^(k+1)*r.getD (k+2) 0<(ze:Int)^(k+1)*(v.getD (k+1) 0+1):=by
    rw[zr,zS];omega
   have:=zy c2 (zo (AM (by decide) (k+1)));omega
  have hfin:∀(q:Int) (r':List Int),r'.length=r.length→At ze r'→(0≤q∧q<1000000000)→zc ze r'<zc ze v→zc ze r'=zc ze r-q*zc ze v→Ends KQ (L2 1 v ((k+2:Nat):Int) (la+1) (la-(k+2)+1) (zf .i64 ((j:Int)-1)) ((zj (j+1) 0++qs).set j q) (lo++r') [f]) Q:=by
   intro q r' h1 h2 h3 h4 h5;have es:(zj (j+1) (0:Int)++qs).set j q=zj j 0++(q::qs):=by
    rw[yh,zA];exact C6 _ _ _ _ (by simp)
   rw[es,wr ((j:Int)-1) (by omega) (by omega)];refine AZ v k la f hf hn hla hkl hv hv1 W0 hq j (lo++r') (q::qs) (by simp;omega) (by simp;omega) (Ez hdlo h2) (fun d hd'=>?_) (by rw[hdrop];exact h4) ?_
   ·rcases yg.1 hd' with rfl|hd'
    ·exact h3
    ·exact hdq d hd'
   ·rw[he,CC,CC,hlo,h5,I5];show zc ze lo+(ze:Int)^j*zc ze r+zc ze v*((ze:Int)^j*(1000000000*zc ze qs))=zc ze lo+(ze:Int)^j*(zc ze r-q*zc ze v)+zc ze v*((ze:Int)^j*(q+1000000000*zc ze qs));have x1:zc ze v*((ze:Int)^j*q)=(ze:Int)^j*(q*zc ze v):=by
     rw[zD,zw (zc ze v) q]
    rw[zW,zr ((ze:Int)^j) q,zr (zc ze v),x1];omega
  have e0:(((j+1:Nat):Int)-1)=(j:Int):=by omega
  have e1:zf .i64 ((j:Int)+((k+2:Nat):Int))=((k+2+j:Nat):Int):=by rw[wr _ (by omega) (by omega)];omega
  have e2:zf .i64 (((k+2+j:Nat):Int)-1)=((k+1+j:Nat):Int):=by rw[wr _ (by omega) (by omega)];omega
  have e3:zf .i64 (((k+2:Nat):Int)-1)=((k+1:Nat):Int):=by rw[wr _ (by omega) (by omega)];omega
  have g1:(lo++r).getD (k+2+j) 0=r.getD (k+2) 0:=Gu _ _ _ _ hlo;have g2:(lo++r).getD (k+1+j) 0=r.getD (k+1) 0:=Gu _ _ _ _ hlo;have hll:(lo++r).length=la+1:=hu;have hmul:zf .i64 (zf .i64 (r.getD (k+2) 0*1000000000)+r.getD (k+1) 0)=r.getD (k+2) 0*1000000000+r.getD (k+1) 0:=by
   rw[wr (r.getD (k+2) 0*1000000000) (by omega) (by omega)];exact wr _ (by omega) (by omega)
  have htop0:0≤r.getD (k+2) 0*1000000000+r.getD (k+1) 0:=by omega
  have hq0:0≤(r.getD (k+2) 0*1000000000+r.getD (k+1) 0)/v.getD (k+1) 0:=yj htop0 (by omega);have hqs:(r.getD (k+2) 0*1000000000+r.getD (k+1) 0)/v.getD (k+1) 0≤r.getD (k+2) 0*1000000000+r.getD (k+1) 0:=Int.ediv_le_self _ htop0;have hdm:=zN (r.getD (k+2) 0*1000000000+r.getD (k+1) 0) (v.getD (k+1) 0);have hm0:=zO (r.getD (k+2) 0*1000000000+r.getD (k+1) 0) (show v.getD (k+1) 0≠0 by omega);have hm1:=zL (r.getD (k+2) 0*1000000000+r.getD (k+1) 0) (show 0<v.getD (k+1) 0 by omega);rw[zw]at hdm;have et:zf .i64 (zR (r.getD (k+2) 0*1000000000+r.getD (k+1) 0) (v.getD (k+1) 0))=(r.getD (k+2) 0*1000000000+r.getD (k+1) 0)/v.getD (k+1) 0:=by
   rw[zt htop0];exact wr _ (by omega) (by omega)
  have em:yt (r.getD (k+2) 0*1000000000+r.getD (k+1) 0) (v.getD (k+1) 0)=(r.getD (k+2) 0*1000000000+r.getD (k+1) 0) % v.getD (k+1) 0:=zx htop0;have b2:(decide ((0:Int)≤((k+1:Nat):Int))&&decide (((k+1:Nat):Int)<((k+2:Nat):Int)))=true:=by simp;omega
  have bn:decide (v.getD (k+1) 0≠0)=true:=decide_eq_true (by omega);rw[e0];refine zq (A4 ..) (zd (by simp) ?_);rw[hn,e1,e2,e3,zg,zg,zg,g1,g2,hmul,et,em,hll];refine zd (by simp;omega) (zd (decide_eq_true (by omega)) (zd (by simp;omega) (zd (decide_eq_true (by omega)) (zd b2 (zd bn (zd b2 (zd bn ?_)))))));refine CN 1 (la+1) (la-(k+2)+1) _ [f] v lo r _ _ _ k j hn (by omega) hlo (by omega) (by omega) (by omega) (by omega) (by simp;omega) hv hdr hz hv1 hle hrV hfin (((r.getD (k+2) 0*1000000000+r.getD (k+1) 0)/v.getD (k+1) 0).toNat+1) _ _ hq0 (by omega) (by omega) ⟨hm0,by omega⟩ hdm ?_;rw[hW,hV];exact L0 hP (by decide) hq0 hv' gv2.1 hu'' gu2.2 hdm hm1
theorem Am(a v:List Int)(n la:Nat)(f:Int)(hla:a.length=la)(hla9:la≤9000)(hnl:n≤la)(hq:∀u:List Int,u.length=la+1→At ze u→zc ze u=zc ze a*f→Ends KQ (L2 1 v n (la+1) (la-n+1) (((la-n+1:Nat):Int)-1) (zj (la-n+1) 0) u [f]) Q):
  ∀(m:Nat) (u:List Int),u.length+m=la+1→At ze u→zc ze u=zc ze a*f→Ends KQ (L1 a 1 v n u.length u [f]) Q
 |0,u,hl,hd,he=>by
  have e1:zf .i64 ((a.length:Int)+1)=((la+1:Nat):Int):=by rw[wr _ (by omega) (by omega)];omega
  have e2:zf .i64 ((u.length:Int)-(n:Int))=((la-n+1:Nat):Int):=by rw[wr _ (by omega) (by omega)];omega
  have e3:zf .i64 (((la-n+1:Nat):Int)-1)=((la-n+1:Nat):Int)-1:=wr _ (by omega) (by omega);refine zq (Au ..) ?_;conv=>zeta
  rw[e1,e2,e3,zg];refine zC (by simp;omega) (zd (by simp;omega) ?_);have hul:u.length=la+1:=by omega
  rw[hul];exact hq u hul hd he
 |m+1,u,hl,hd,he=>by
  have e1:zf .i64 ((a.length:Int)+1)=((la+1:Nat):Int):=by rw[wr _ (by omega) (by omega)];omega
  refine zq (Au ..) ?_;conv=>zeta
  rw[e1];refine zd (by simp;omega) (zd (by simp;omega) ?_);have:=Am a v n la f hla hla9 hnl hq m (u++[0]) (by simp;omega) (EN hd (by decide)) (by rw[B6,z6,yo];exact he);rw[yp]at this;exact this
set_option maxHeartbeats 1000000 in
theorem ok:Ae AS 164 Pn:=by
 refine Ax (X:=KQ) rfl kP (d:=9) (by kernel_rfl) (by kernel_rfl) (by kernel_rfl) (fun(i:List Int×List Int) hi=>?_) (Ad (by kernel_rfl));obtain⟨a,b⟩:=i;have hi:(A3 a&&A3 b&&decide (a.length≤9000)&&decide (b.length≤9000)&&decide (0<Aq b))=true:=hi;rw[zi,zi,zi,zi,decide_eq_true_eq,decide_eq_true_eq,decide_eq_true_eq]at hi;obtain⟨⟨⟨⟨na,nb⟩,la9⟩,lb9⟩,hb0⟩:=hi;obtain⟨_,da,za⟩:=Bi na;obtain⟨_,db,zb⟩:=Bi nb;have hb0:0<zc ze b:=hb0;have ha0:=Ay (b:=ze) (by decide) da;have hg:∀q r ob,q=BM (Aq a/Aq b)→r=BM (Aq a % Aq b)→Af Pn (a,b) (PV.tup [PV.dat li q,PV.dat li r]) ob:=fun q r ob e1 e2=>zZ rfl rfl (Prod.ext e1 e2)
 have hbne:b≠[]:=by rintro rfl;simp[zc]at hb0
 have hblen:b.length≠0:=fun h=>hbne (zB.1 h)
 refine zT (An a b) (zd (by rw[na,nb];rfl) (zp (fun c=>?_) (fun c=>?_)))
 ·have c:=of_decide_eq_true c;have hlt:zc ze a<zc ze b:=by
   unfold BW at c;have c:(if zc ze a<zc ze b then(-1:Int)else if zc ze a>zc ze b then 1 else 0)<0:=c;split at c
   ·assumption
   ·split at c<;>omega
  refine zm (zZ rfl rfl ?_);show([],a)=(BM (zc ze a/zc ze b),BM (zc ze a % zc ze b));rw[yd ha0 hlt,Int.emod_eq_of_lt ha0 hlt];exact Prod.ext rfl (HJ (by decide) da za)
 ·have c:=of_decide_eq_false c;have hge:zc ze b≤zc ze a:=by
   rcases zF (zc ze a) (zc ze b)with g|g
   ·have:BW (Aq a) (Aq b)= -1:=if_pos g;omega
   ·exact g
  have hll:b.length≤a.length:=by
   rcases Nat.lt_or_ge a.length b.length with g|g
   ·have:=Eg (b:=ze) (by decide) da db zb g;omega
   ·exact g
  refine zp (fun c1=>?_) (fun c1=>?_)
  ·have c1:b.length=1:=by
    have:(b.length:Int)=1:=by simpa using c1
    omega
   obtain⟨d,rfl⟩:=yE.1 c1;have hd:0<d∧d<1000000000:=Fv (k:=0) db zb rfl;have m0:=zO (zc ze a) (show d≠0 by omega);have m1:=zL (zc ze a) hd.1;refine zd rfl (zd (Ac (Ac (KO (by omega) da) (decide_eq_true hd.1)) (decide_eq_true hd.2)) (zd rfl (zm (hg _ _ _ ?_ ?_))))
   ·show BM (zc ze a/d)=BM (zc ze a/zc ze [d]);rw[DQ]
   ·show Ar [zc ze a % d]=BM (zc ze a % zc ze [d]);rw[DQ,Fo (fun x hx=>by rw[ya]at hx;subst hx;show 0≤_∧_<(1000000000:Int);omega)];show BM (zc ze [_])=_;rw[DQ]
  ·have c1:b.length≠1:=by
    have:(b.length:Int)≠1:=by simpa using c1
    omega
   obtain⟨k,hk⟩:∃k,b.length=k+2:=⟨b.length-2,by omega⟩;obtain⟨y0,y1⟩:=Fv (k:=k+1) db zb hk;have e1:zf .i64 (((k+2:Nat):Int)-1)=((k+1:Nat):Int):=by rw[wr _ (by omega) (by omega)];omega
   have e2:zf .i64 (b.getD (k+1) 0+1)=b.getD (k+1) 0+1:=wr _ (by omega) (by omega);have f0:0<1000000000/(b.getD (k+1) 0+1):=by
    have:=Int.le_ediv_of_mul_le (a:=1) (b:=1000000000) (c:=b.getD (k+1) 0+1) (by omega) (by omega);omega
   have f1:1000000000/(b.getD (k+1) 0+1)<1000000000:=ye (by omega) (by omega);have f2:1000000000/(b.getD (k+1) 0+1)*(b.getD (k+1) 0+1)≤1000000000:=Int.ediv_mul_le _ (by omega);have e3:zf .i64 (zR 1000000000 (b.getD (k+1) 0+1))=1000000000/(b.getD (k+1) 0+1):=by
    rw[zt (by decide)];exact wr _ (by omega) (by omega)
   rw[hk,e1,zg,e2,e3];generalize 1000000000/(b.getD (k+1) 0+1)=f at*;have hdf:At ze [f]:=fun x hx=>by rw[ya]at hx;subst hx;show 0≤_∧_<(1000000000:Int);omega
   have hvf:Aq [f]=f:=DQ f;rw[hvf];have hv1:(ze:Int)^(k+1)≤zc ze b*f:=by
    have a1:=CY (b:=ze) (by decide) db zb hbne;rw[hk,show k+2-1=k+1 by omega]at a1;have a2:=zh (show 1≤f by omega) (zo hb0);omega
   have hv2:zc ze b*f<(ze:Int)^(k+2):=by
    have b1:zc ze b=zc ze (b.take (k+1))+(ze:Int)^(k+1)*b.getD (k+1) 0:=by
     rw[←AD,zn (by omega)]
    have b2:=Bm (b:=ze) (by decide) (AK db (k+1));rw[zz,zH (by omega)]at b2;have hp:=AM (b:=ze) (by decide) (k+1);have b3:zc ze b<(ze:Int)^(k+1)*(b.getD (k+1) 0+1):=by
     rw[zr,zS];omega
    have b4:=zV b3 f0;have b5:=zh f2 (zo hp);have b6:(ze:Int)^(k+2)=(ze:Int)^(k+1)*1000000000:=zu ..;rw[zG,zw (b.getD (k+1) 0+1) f]at b4;omega
   have hV0:0≤zc ze b*f:=zE (zo hb0) (by omega);have hU0:0≤zc ze a*f:=zE ha0 (by omega);have hU1:zc ze a*f<(ze:Int)^(a.length+1):=by
    have a1:=Bm (b:=ze) (by decide) da;have a2:=zV a1 f0;have a3:=zh (show f≤1000000000 by omega) (zo (AM (b:=ze) (by decide) a.length));have a4:(ze:Int)^(a.length+1)=(ze:Int)^a.length*1000000000:=zu ..;omega
   have vd:=EX (b:=ze) (by decide) (zc ze b*f);have vz:=VI (b:=ze) (by decide) (zc ze b*f);have vv:zc ze (Sp.dg ze (zc ze b*f))=zc ze b*f:=CD (by decide) hV0;have vl:=cV (b:=ze) (by decide) vd vz (k:=k+1) (by rw[vv];exact hv1) (by rw[vv];exact hv2);have v1:=(Fv vd vz vl).1;have ud:=EX (b:=ze) (by decide) (zc ze a*f);have uv:zc ze (Sp.dg ze (zc ze a*f))=zc ze a*f:=CD (by decide) hU0;have ul:=ME (k:=a.length+1) hU0 hU1;have hfa:Sp.hR [f]=true:=Qa (by simp) hdf;have bd:decide ((2*(0+(BM (Aq a*f)).length)+1000)*8≤281474976710656)=true:=decide_eq_true (by have:(BM (Aq a*f)).length≤a.length+1:=ul;omega);refine zd (by simp;omega) (zd (decide_eq_true (by omega)) (zd (by rw[Qa lb9 db,hfa];rfl) (zd (by rw[Qa la9 da,hfa];rfl) (zd bd ?_))));have ez:yP 0 (BM (Aq a*f)).length=(BM (Aq a*f)).length:=yN _;have evl:(BM (Aq b*f)).length=k+2:=vl;rw[ez,yn,evl];refine Am a (BM (Aq b*f)) (k+2) a.length f rfl la9 (by omega) (fun u hul hud huv=>?_) (a.length+1-(BM (Aq a*f)).length) (BM (Aq a*f)) (by have:(BM (Aq a*f)).length≤a.length+1:=ul;omega) ud uv;have hpn:=AM (b:=ze) (by decide) (a.length-(k+2)+1);have start:zc ze (u.drop (a.length-(k+2)+1))<zc ze (BM (Aq b*f)):=by
    have a1:=B4 ze u (a.length-(k+2)+1) (by omega);have a2:=Ay (b:=ze) (by decide) (AK hud (a.length-(k+2)+1));have a3:=Bm (b:=ze) (by decide) da;have a4:=zV a3 f0;have a5:(ze:Int)^a.length=(ze:Int)^(a.length-(k+2)+1)*(ze:Int)^(k+1):=by rw[←yJ,show a.length-(k+2)+1+(k+1)=a.length by omega]
    have a6:=CY (b:=ze) (by decide) db zb hbne;rw[hk,show k+2-1=k+1 by omega]at a6;have a7:=zk a6 (show 0≤f by omega);have a8:=zh a7 (zo hpn);rw[a5,zG]at a4;show _<zc ze (Sp.dg ze (zc ze b*f));rw[vv];refine zy (a:=(ze:Int)^(a.length-(k+2)+1)) ?_ (zo hpn);omega
   have go:=AZ (Q:=Af Pn (a,b)) (BM (Aq b*f)) k a.length f ⟨f0,f1⟩ evl la9 (by omega) vd (by have:0<(BM (Aq b*f)).getD (k+1) 0:=v1;omega) (zc ze a*f) (fun u' qs ob hud' hdq hlt' he=>by
    have vv':zc ze (BM (Aq b*f))=zc ze b*f:=vv;rw[vv']at he hlt';have e:zc ze u'=f*(zc ze a-zc ze qs*zc ze b):=by
     have x1:zc ze b*f*zc ze qs=f*(zc ze qs*zc ze b):=by
      rw[zw (zc ze b) f,zG,zw (zc ze b)]
     rw[x1,zw (zc ze a)]at he;rw[zW];omega
    have h0:=Ay (b:=ze) (by decide) hud';have r0:0≤zc ze a-zc ze qs*zc ze b:=by
     rw[e]at h0;exact Int.nonneg_of_mul_nonneg_right h0 f0
    have r1:zc ze a-zc ze qs*zc ze b<zc ze b:=by
     rw[e,zw (zc ze b) f]at hlt';exact zy hlt' (by omega)
    obtain⟨u1,u2⟩:=(zP (a:=zc ze a) (b:=zc ze b) (r:=zc ze a-zc ze qs*zc ze b) (q:=zc ze qs) hb0).2 ⟨by rw[zw (zc ze b)];omega,r0,r1⟩;refine hg _ _ ob ?_ ?_
    ·rw[Fo hdq];show BM (zc ze qs)=BM (zc ze a/zc ze b);rw[u1]
    ·show BM (zc ze u'/f)=BM (zc ze a % zc ze b);rw[u2,e,yy _ (by omega)]) (a.length-(k+2)+1) u [] (by simp) hul hud (fun x hx=>by cases hx) start (by rw[huv];simp[zc])
   rw[yk]at go;exact go
end T164
theorem hO:∀g sp,rG.sp g=some sp→Ae AS g sp:=Aa T164.ok (fun g sp h=>by cases h)
namespace T92
variable {Q:PV→Ob→Prop}
theorem Am(g:Nat)(L:Int)(hL:∀n:Nat,(n:Int)<L→A3 (BM (n:Int))=true∧Aq (BM (n:Int))=n∧(BM (n:Int)).length≤9000)(hq:∀ob,Q (.dat li (BM (g:Int))) ob):∀(f x y:Nat),y<f→yQ x y=g→(x:Int)<L→(y:Int)<L→
  Ends rG (L1 (BM (x:Int)) (BM (y:Int))) Q
 |0,x,y,h,_,_,_=>by omega
 |f+1,x,y,hy,hg,bx,by'=>by
  obtain⟨nx,vx,lx⟩:=hL x bx;obtain⟨ny,vy,ly⟩:=hL y by'
  refine zq (Au ..) ?_;conv=>zeta
  by_cases h0:y=0
  ·subst h0;rw[Nat.gcd_zero_right]at hg;subst hg;exact zC rfl (zm (hq _))
  ·have hlt:x % y<y:=Nat.mod_lt _ (by omega);have hl:(BM (y:Int)).length≠0:=by
    intro h;have:=zB.1 h;rw[this]at vy;simp[Aq,zc]at vy;omega
   rw[vx,vy,Sw];refine zd (by simp;omega) (zd (Ac (Ac (Ac (Ac nx ny) (decide_eq_true lx)) (decide_eq_true ly)) (decide_eq_true (by omega))) ?_);exact Am g L hL hq f y (x % y) (by omega) (by rw[yF, ←Nat.gcd_rec,yF];exact hg) by' (by omega)
theorem Tv{a:List Int}(h:A3 a=true):a=BM (Aq a)∧0≤Aq a:=by
 obtain⟨_,d,z⟩:=Bi h;exact⟨HJ (by decide) d z,Ay (by decide) d⟩
theorem U4(n:Nat)(h:(n:Int)<(ze:Int)^9000):A3 (BM (n:Int))=true∧Aq (BM (n:Int))=n∧(BM (n:Int)).length≤9000:=by
 obtain⟨a,_,b,c⟩:=Gj (n:=(n:Int)) (k:=9000) (Int.natCast_nonneg n) h (by decide);exact⟨a,b,c⟩
theorem ok:Ae AS 92 Kg:=by
 refine Ax (X:=rG) rfl hO (d:=9) (by kernel_rfl) (by kernel_rfl) (by kernel_rfl) (fun(i:List Int×List Int) hi=>?_) (Ad (by kernel_rfl));obtain⟨a,b⟩:=i;have hi:(A3 a&&A3 b&&decide (a.length≤9000)&&decide (b.length≤9000))=true:=hi;rw[zi,zi,zi,decide_eq_true_eq,decide_eq_true_eq]at hi;obtain⟨⟨⟨na,nb⟩,la9⟩,lb9⟩:=hi;obtain⟨ea,a0⟩:=Tv na;obtain⟨eb,b0⟩:=Tv nb;have la:Aq a<(ze:Int)^9000:=yb (Bm (b:=ze) (by decide) (Bi na).2.1) (AJ (by decide) la9);have lb:Aq b<(ze:Int)^9000:=yb (Bm (b:=ze) (by decide) (Bi nb).2.1) (AJ (by decide) lb9);have key:∀(x y:Nat),Aq a=x→Aq b=y→Ends rG (L1 a b) (Af Kg (a,b)):=by
  intro x y hx hy;rw[ea,eb,hx,hy];rw[hx]at la;rw[hy]at lb;refine Am (yQ x y) _ U4 (fun ob=>zZ rfl rfl ?_) (y+1) x y (Nat.lt_succ_self _) rfl la lb;have e:Sp.gI (Aq (BM (x:Int))) (Aq (BM (y:Int)))=((yQ x y:Nat):Int):=by
   rw[(U4 x la).2.1,(U4 y lb).2.1,Fc];rfl
  exact congrArg BM e.symm
 obtain⟨x,hx⟩:=yc a0;obtain⟨y,hy⟩:=yc b0;exact zT (An a b) (key x y hx hy)
end T92
end Go.Pe
end
section
namespace Go.Pe
open Sp
open Go.Det
theorem gS:∀g sp,VR.sp g=some sp→Ae AS g sp:=
 Aa (Gr (by kernel_rfl) (Ad (by kernel_rfl))) (Aa (Gr (by kernel_rfl) (Ad (by kernel_rfl))) (Aa (Gr (by kernel_rfl) (Ad (by kernel_rfl))) (Aa (Gr (by kernel_rfl) (Ad (by kernel_rfl))) (fun g sp h=>by cases h))))
theorem ET:∀g sp,IU.sp g=some sp→Ae AS g sp:=fun g sp h=>by cases h
namespace T211
variable {Q:PV→Ob→Prop}
theorem tN:∀i:Fin 10,(C4.getD i.1 0).toNat<128:=by decide
theorem En(s:List UInt8)(i:Nat)(o:List Bool)(hi:i<10)(ho:o.length=256)(h:Ends VR (L2 s C4 C4 ((i+1:Nat):Int) (o.set (C4.getD i 0).toNat true)) Q):Ends VR (L2 s C4 C4 (i:Int) o) Q:=by
 have hl:C4.length=10:=rfl;have hc:=tN ⟨i,hi⟩;have hc:(C4.getD i 0).toNat<128:=hc;have e:zf .i64 ((i:Int)+1)=((i+1:Nat):Int):=by rw[wr _ (by omega) (by omega)];omega
 refine zq (A4 ..) ?_;conv=>zeta
 rw[hl,e,zg,zg];exact zd (decide_eq_true (by omega)) (zd (Ac (decide_eq_true (by omega)) (decide_eq_true (by omega))) (zC (decide_eq_false (by omega)) (zd (Ac (decide_eq_true (show(0:Int)≤((C4.getD i 0).toNat:Int)by omega)) (decide_eq_true (by omega))) (zd (decide_eq_true (by omega)) h))))
def Tb(o:List Bool):Prop:=o.length=256∧∀c:UInt8,o.getD c.toNat false=BI c
theorem Cc(s t v0:List UInt8)(v4:Int)(o0:List Bool)(v0':List UInt8)(o1 o0':List Bool)(p1 p0:List Bool)(hT:Tb p1):∀(w:List UInt8),(∀ob,Q (.dat .str (w.dropWhile BI)) ob)→Ends VR (L7 s t v0 v4 o0 v0' o1 o0' w p1 p0) Q
 |[],hq=>zq (FN ..) (zC (by simp) (zm (hq _)))
 |c::r,hq=>by
  have hc:c.toNat<256:=c.toNat_lt;have g0:(c::r).getD 0 0=c:=rfl;have e:(List.drop 1 (c::r)).take (yO (c::r).length 1)=r:=by show r.take ((r.length+1)-1)=r;rw[z8];exact z7
  refine zq (FN ..) ?_;conv=>zeta
  rw[g0,zg,hT.2,hT.1,e];refine zd (by simp) (zd (by simp) (zd (Ac (decide_eq_true (show(0:Int)≤(c.toNat:Int)by omega)) (decide_eq_true (by omega))) (zd (decide_eq_true hc) (zp (fun d=>?_) (fun d=>zd (by simp) ?_)))))
  ·have d:BI c=false:=by simpa using d
   rw[zQ,if_neg (by rw[d];decide)]at hq;exact zm (hq _)
  ·have d:BI c=true:=by simpa using d
   rw[zQ,if_pos d]at hq;exact Cc s t v0 v4 o0 v0' o1 o0' p1 p0 hT r hq
theorem BN(s t v0:List UInt8)(v4:Int)(o0:List Bool)(o1 o0':List Bool)(hT:Tb o1):∀(n:Nat) (w:List UInt8),w.length=n→n≤1000000→(∀ob,Q (.dat .str (((w.reverse.dropWhile BI).reverse).dropWhile BI)) ob)→Ends VR (L4 s t v0 v4 o0 w o1 o0') Q
 |0,w,hl,_,hq=>by
  have:w=[]:=zB.1 hl;subst this;exact zq (Dp ..) (zC (by simp) (zq (I2 ..) (zC (by simp) (zm (hq _)))))
 |n+1,w,hl,hn,hq=>by
  obtain⟨p,c,rfl⟩:∃p c,w=p++[c]:=by
   have hne:w≠[]:=by rintro rfl;simp at hl
   exact⟨w.dropLast,w.getLast hne,(ym hne).symm⟩
  have hp:p.length=n:=by simpa using hl
  have hc:c.toNat<256:=c.toNat_lt;have e1:zf .i64 (((p++[c]).length:Int)-1)=(n:Int):=by rw[hl,wr _ (by omega) (by omega)];omega
  have g1:(p++[c]).getD n 0=c:=Dl _ _ _ _ hp;have t1:(p++[c]).take n=p:=by rw[←hp];exact yK
  have hr:(p++[c]).reverse=c::p.reverse:=by simp
  rw[hr,zQ]at hq;refine zq (Dp ..) (zd (decide_eq_true (by omega)) ?_);rw[e1,zg,g1,t1,zg,hT.2,hT.1,hl];refine zd (by simp;omega) (zd (Ac (decide_eq_true (show(0:Int)≤(c.toNat:Int)by omega)) (decide_eq_true (by omega))) (zd (decide_eq_true hc) (zp (fun d=>?_) (fun d=>zd (by simp) ?_))))
  ·have d:BI c=false:=by simpa using d
   rw[if_neg (by rw[d];decide),List.reverse_cons,List.reverse_reverse]at hq;exact Cc s t v0 v4 o0 _ o1 o0' o1 o0' hT (p++[c]) hq
  ·have d:BI c=true:=by simpa using d
   rw[if_pos d]at hq;exact BN s t v0 v4 o0 o1 o0' hT n p hp (by omega) hq
theorem sT{o:List Bool}(h1:o.length=256)(h2:∀c:Fin 256,o.getD c.1 false=(Nat.ble 48 c.1&&Nat.ble c.1 57)):Tb o:=by
 refine⟨h1,fun c=>?_⟩;have:=h2 ⟨c.toNat,c.toNat_lt⟩;rw[show o.getD c.toNat false=_ from this];unfold BI;rw[Bool.eq_iff_iff];simp[Nat.ble_eq]
set_option maxRecDepth 10000 in
theorem ok:Ae AS 211 U7:=by
 refine Ax (X:=VR) rfl gS (d:=9) (by kernel_rfl) (by kernel_rfl) (by kernel_rfl) (fun(i:List UInt8×List UInt8) hi=>?_) (Ad (by kernel_rfl));obtain⟨s,t⟩:=i;have hi:(decide (t=C4)&&decide (s.length≤1000000))=true:=hi;rw[zi,decide_eq_true_eq,decide_eq_true_eq]at hi;obtain⟨rfl,hl⟩:=hi;have hq:∀ob,Af U7 (s,C4) (.dat .str (((s.reverse.dropWhile BI).reverse).dropWhile BI)) ob:=fun ob=>zZ rfl rfl rfl
 refine zT (An s C4) (zp (fun c=>?_) (fun c=>zC (by decide) (zC (by decide) ?_)))
 ·have c:s=[]:=by simpa using c
  subst c;exact zm (hq _)
 ·refine En s 0 _ (by decide) rfl (En s 1 _ (by decide) rfl (En s 2 _ (by decide) rfl (En s 3 _ (by decide) rfl (En s 4 _ (by decide) rfl (En s 5 _ (by decide) rfl (En s 6 _ (by decide) rfl (En s 7 _ (by decide) rfl (En s 8 _ (by decide) rfl (En s 9 _ (by decide) rfl ?_)))))))));refine zq (A4 ..) (zC (by decide) (zd (by decide+kernel) (zd (by decide+kernel) (zd (by decide+kernel) (zd rfl (BN s _ _ _ _ _ _ (sT rfl ?_) s.length s rfl hl hq))))));decide+kernel
end T211
theorem lF:∀g sp,wH.sp g=some sp→Ae AS g sp:=Aa T211.ok (fun g sp h=>by cases h)
theorem dropWhile_nil{p:UInt8→Bool}:∀ {l:List UInt8},l.dropWhile p=[]↔l.all p=true
 |[]=>by simp
 |a::l=>by
  rw[zQ,List.all_cons];cases h:p a with
  |true=>simp only[if_true,yz];exact dropWhile_nil
  |false=>simp
theorem HO{p:UInt8→Bool}:∀ {l:List UInt8} {a:UInt8} {r:List UInt8},l.dropWhile p=a::r→p a=false
 |[],a,r,h=>by simp at h
 |b::l,a,r,h=>by
  rw[zQ]at h;cases hb:p b with
  |true=>rw[hb,if_pos rfl]at h;exact HO h
  |false=>
   rw[hb]at h;simp at h;rw[←h.1];exact hb
theorem KY(s:List UInt8):N7 s=[]↔Ak s=true:=by
 unfold N7 Ak;rw[dropWhile_nil,yB];constructor
 ·intro h;cases hd:s.reverse.dropWhile BI with
  |nil=>have:=dropWhile_nil.1 hd;rwa [yB]at this
  |cons a r=>
   rw[hd,List.all_cons,HO hd]at h;cases h
 ·intro h;have:s.reverse.dropWhile BI=[]:=dropWhile_nil.2 (by rwa [yB]);rw[this];rfl
theorem T151.ok:Ae AS 151 Lc:=by
 refine Ax (X:=wH) rfl lF (d:=9) (by kernel_rfl) (by kernel_rfl) (by kernel_rfl) (fun(s:List UInt8) hl=>?_) (Ad (by kernel_rfl));have hl:s.length≤1000000:=of_decide_eq_true hl;have hq:∀v b ob,v=.bl b∨v=.dat .bool b→b=AQ s→Af Lc s v ob:=by
  rintro v b ob (rfl|rfl) hb
  ·exact zZ rfl rfl hb
  ·exact zZ rfl rfl hb
 refine zT (T151.An s) (zp (fun c=>zd ?_ (zp (fun d=>zd ?_ (zp (fun e=>zm (hq _ _ _ (.inl rfl) ?_)) (fun e=>zm (hq _ _ _ (.inr rfl) ?_)))) (fun d=>zm (hq _ _ _ (.inl rfl) ?_)))) (fun c=>zm (hq _ _ _ (.inl rfl) ?_)))
 ·exact Ac (decide_eq_true rfl) (decide_eq_true hl)
 ·have c:s≠[]:=by simpa using c
  have:s.length≠0:=fun h=>c (zB.1 h)
  exact decide_eq_true (by omega)
 ·have c:s≠[]:=by simpa using c
  have d:N7 s=[]:=by simpa using d
  have d:=(KY s).1 d;have e:s.getD 0 0≠48:=by
   intro h;rw[h]at e;exact absurd e (by decide)
  unfold AQ;rw[d,decide_eq_true c,decide_eq_true e];rfl
 ·have c:s≠[]:=by simpa using c
  have d:N7 s=[]:=by simpa using d
  have d:=(KY s).1 d;have e:s.getD 0 0=48:=by
   have:((s.getD 0 0).toNat:Int)=48:=by simpa using e
   exact UInt8.toNat_inj.1 (by show _=48;omega)
  unfold AQ;rw[d,decide_eq_true c,decide_eq_false (by rw[e];exact fun h=>h rfl)];show(s==[48])=decide (s=[48]);rw[Bool.eq_iff_iff];simp
 ·have d:¬N7 s=[]:=by simpa using d
  have d:Ak s=false:=by
   cases h:Ak s with
   |true=>exact absurd ((KY s).2 h) d
   |false=>rfl
  unfold AQ;rw[d];simp
 ·have c:s=[]:=by simpa using c
  subst c;rfl
theorem T149.ok:Ae AS 149 nJ:=by
 refine Ax (X:=IU) rfl ET (d:=9) (by kernel_rfl) (by kernel_rfl) (by kernel_rfl) (fun(i:List UInt8×List UInt8) hi=>?_) (Ad (by kernel_rfl));obtain⟨s,t⟩:=i;have hi:(decide (t=[45])&&decide (s.length≤1000000))=true:=hi;rw[zi,decide_eq_true_eq,decide_eq_true_eq]at hi;obtain⟨rfl,hl⟩:=hi;have hno:s.getD 0 0≠45→(s,false)=(AU s,Sp.preB s):=fun h=>by
  unfold AU Sp.preB;rw[if_neg h,decide_eq_false h]
 refine zT (T149.An s [45]) ?_;conv=>zeta
 cases s with
 |nil=>exact zC (by decide) (zm (zZ rfl rfl (hno (by decide))))
 |cons c r=>
  have ht:(c::r).take 1=[c]:=rfl;refine zd (by simp;omega) (zd (by simp) ?_);show Ends IU (.ite (!List.take 1 (c::r)==[45]) _ _) _;rw[ht];refine zp (fun d=>zm (zZ rfl rfl (hno ?_))) (fun d=>zd (by simp) (zm (zZ rfl rfl ?_)))
  ·show c≠45;rintro rfl;exact absurd d (by decide)
  ·have d:c=45:=by simpa using d
   subst d;show(((List.drop 1 ((45:UInt8)::r)).take (yO ((45:UInt8)::r).length 1)),true)=(AU (45::r),Sp.preB (45::r));have e:(List.drop 1 ((45:UInt8)::r)).take (yO ((45:UInt8)::r).length 1)=r:=by show r.take ((r.length+1)-1)=r;rw[z8];exact z7
   rw[e];rfl
end Go.Pe
end
section
namespace Go.Pe
open Sp
open Go.Det
theorem oE{F:Fz}{s:List UInt8}{c:Int}{args:List V}(h:Ll F (Ah [Sh.str,Sh.int .u8] (s,c)) args):args=[.str s,.int .u8 c]:=by
 have:=h (fun _=>none) 0;simp only[Ah,B2,Ba]at this;obtain⟨a,as1,rfl,h1,b,as2,rfl,h2,rfl⟩:=this;simp only[PR,DC,List.cons.injEq,and_true]at h1 h2;rw[h1,h2]
theorem T316.ok:Ae AS 316 mC:=by
 refine .inr ⟨PK.indexByte.run,by kernel_rfl,fun F h args i ha hp=>?_⟩;obtain⟨s,c⟩:=i;have:=oE ha;subst this;refine⟨SB (s.findIdx? fun x=>x==c.toNat.toUInt8),rfl,fun ρ N=>?_⟩;show PR F ρ N (.dat i64 (No s c)) _;unfold No;cases s.findIdx? fun x=>x==c.toNat.toUInt8 with
 |none=>simp[PR,DC,SB]
 |some i=>simp[PR,DC,SB,Det.i64]
theorem kV:∀g sp,vY.sp g=some sp→Ae AS g sp:=Aa T316.ok (fun g sp h=>by cases h)
theorem Un{p:UInt8→Bool}{s:List UInt8}{i:Nat}(h:s.findIdx? p=some i):i<s.length:=(List.findIdx?_eq_some_iff_getElem.1 h).1
theorem T150.ok:Ae AS 150 cX:=by
 refine Ax (X:=vY) rfl kV (d:=9) (by kernel_rfl) (by kernel_rfl) (by kernel_rfl) (fun(i:List UInt8×List UInt8) hi=>?_) (Ad (by kernel_rfl));obtain⟨s,t⟩:=i;have hi:(decide (t=[47])&&decide (s.length≤1000000))=true:=hi;rw[zi,decide_eq_true_eq,decide_eq_true_eq]at hi;obtain⟨rfl,hl⟩:=hi;have hany:s.any (fun x=>x==47)=(s.findIdx? fun x=>x==47).isSome:=by
  rw[List.findIdx?_isSome]
 refine zT (T150.An s [47]) (zC (by decide) (zp (fun c=>?_) (fun c=>zd (by decide) (zd (by decide) (zd (by decide) ?_)))))
 ·have c:s=[47]:=by
   have:[47]=s:=by simpa using c
   exact this.symm
  subst c;exact zd rfl (zd rfl (zd rfl (zm (zZ rfl rfl rfl))))
 ·have ei:No s (((([47]:List UInt8).getD 0 0).toNat:Nat):Int)=match s.findIdx? (fun x=>x==47)with
   |some i=>(i:Int)
   |none=> -1:=rfl
  cases hf:s.findIdx? (fun x=>x==47)with
  |none=>
   rw[hf]at ei;have ei:No s (((([47]:List UInt8).getD 0 0).toNat:Nat):Int)= -1:=ei;rw[ei];refine zC (by decide) (zm (zZ rfl rfl ?_));show(s,[],false)=(Aw s,Sp.AL s,Bk s);unfold Aw Sp.AL Bk;rw[hany,hf];rfl
  |some k=>
   rw[hf]at ei;have ei:No s (((([47]:List UInt8).getD 0 0).toNat:Nat):Int)=(k:Int):=ei;have hk:=Un hf;have e1:zf .i64 ((k:Int)+(([47]:List UInt8).length:Int))=((k+1:Nat):Int):=by
    show zf .i64 ((k:Int)+1)=_;rw[wr _ (by omega) (by omega)];omega
   rw[ei,e1,zg,zg];refine zd (by simp) (zd (by simp;omega) (zd (by simp;omega) (zm (zZ rfl rfl ?_))));show(s.take k,(s.drop (k+1)).take (yO s.length (k+1)),true)=(Aw s,Sp.AL s,Bk s);unfold Aw Sp.AL Bk;have e2:(s.drop (k+1)).take (yO s.length (k+1))=s.drop (k+1):=zn (by rw[yf];exact Nat.le_refl _);rw[hany,hf,e2];rfl
end Go.Pe
end
