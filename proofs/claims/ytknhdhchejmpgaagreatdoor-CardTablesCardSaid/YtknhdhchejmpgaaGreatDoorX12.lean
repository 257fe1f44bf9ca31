import Derived.Test.YtknhdhchejmpgaaGreatDoorX11
import Derived.Test.YtknhdhchejmpgaaGreatDoorX10
/- A part of a proof (no law is stated here). Made by program out of texts by AI agents. -/
open Go.Sp renaming val → zc, B9 → ze, vI → zl, AX → yJ, sg → yO
open Go.Pe.Ends renaming tt → zd, leaf → zm, ite → zp, As → zq, ff → zD, eq → zU
open Go.IntKind renaming wrap → zf
open Int renaming toNat_natCast → zg, mul_le_mul_of_nonneg_left → zh, mul_le_mul_of_nonneg_right → zk, le_of_lt → zo, mul_add → zr, tdiv_eq_ediv_of_nonneg → zt, pow_succ → zu, mul_comm → zw, tmod_eq_emod_of_nonneg → zy, lt_of_mul_lt_mul_left → zz, mul_left_comm → zE, mul_nonneg → zF, lt_or_le → zG, mul_assoc → zH, pow_zero → zJ, one_mul → zL, emod_lt_of_pos → zM, mul_ediv_add_emod → zO, emod_nonneg → zP, ediv_emod_unique → zQ, tdiv → zS, mul_one → zT, mul_lt_mul_of_pos_right → zW, mul_sub → zX, pow_pos → zY, fdiv_eq_ediv_of_nonneg → zZ, mul_zero → z8, lt_of_lt_of_le → yd, eq_ofNat_of_zero_le → ye, ediv_eq_zero_of_lt → yf, ediv_lt_of_lt_mul → yg, ediv_nonneg → ym, add_zero → yq, mul_lt_mul_of_pos_left → yu, tmod → yv, le_refl → yx, add_assoc → yy, mul_ediv_cancel_left → yA, zero_mul → yE, sub_mul → yK, pow_add → yL, mul_neg → yN
open Bool renaming and_eq_true → zi, true_and → yB
open List renaming replicate → zj, take_of_length_le → zn, length_take → zA, append_assoc → zB, length_eq_zero_iff → zC, getD_eq_getElem?_getD → zN, dropWhile_cons → zR, take_append_drop → zV, take_length → ya, mem_singleton → yc, length_drop → yh, mem_cons → yi, replicate_succ' → yj, mem_append → yk, append_nil → yn, dropLast_concat_getLast → yo, nil_append → yp, length_append → yr, drop_drop → yt, getLast?_eq_getElem? → yw, getElem?_eq_getElem → yz, drop_length → yC, all_reverse → yD, length_eq_one_iff → yG, drop_eq_nil_of_le → yI, take_left → yM
open Nat renaming min_eq_left → zI, add_sub_cancel → yb, add_comm → yF, gcd_comm → yH, zero_add → yP, sub → yQ, add → yR, gcd → yS
open BitVec renaming ofInt → zK
open Go.Pe.Af renaming of → z7
section
namespace Go.Pe
open Sp
open Go.Det
namespace T230
variable {Q:PV→Ob→Prop}
theorem vQ(q x:Int):Pw q x*18446744073709551616+H5 q x=q*x∧0≤H5 q x∧H5 q x<18446744073709551616:=by
 unfold Pw H5;generalize q*x=P;omega
theorem Ck(v9:Int)(v10:List Int)(v11n:Nat)(v12:Int)(v13n:Nat)(o1 o0:List Int)(v0c:Nat)(v:List Int)(k j:Nat)(lo:List Int)(m:Nat)(r0 o1':List Int)
  (hn:v.length=k+2) (hn9:k+2≤9000) (hm:k+3≤m) (hlo:lo.length=j) (hjv:j<v13n) (hj1:j<o1'.length) (hv:Av Ak v)
  (hr:r0.length=m) (hd:Av Ak r0) (hz:zc Ak (r0.drop (k+3))=0) (hv1:1≤v.getD (k+1) 0)
  (hfin:∀(q:Int) (r:List Int),r.length=m→Av Ak r→(0≤q∧q<18446744073709551616)→zc Ak r<zc Ak v→zc Ak r=zc Ak r0-q*zc Ak v→Ends Iy (L4 v9 v10 v11n v12 v13n (zf .i64 ((j:Int)-1)) (o1'.set j q) (lo++r)) Q):
  ∀(f:Nat) (q r o:Int),0≤q→q<f→q<18446744073709551616→Sp.u64 r=true→(o=0∨o=1)→q*v.getD (k+1) 0+(r+18446744073709551616*o)=r0.getD (k+2) 0*18446744073709551616+r0.getD (k+1) 0→zc Ak r0<(q+1)*zc Ak v→
   Ends Iy (L5 v9 v10 v11n v12 v13n j o1 o0 j (k+3) v0c v ((k+2:Nat):Int) q r o o1' (lo++r0)) Q
 |0,q,r,o,h0,hf,_,_,_,_,_=>by omega
 |f+1,q,r,o,h0,hf,hB,hr64,ho,he,hup=>by
  have uq:Sp.u64 q=true:=Cu h0 hB;have uv2:=AR hv k;have uv1:=AR hv (k+1);have uu2:=AR hd k;have gv2:=yJ uv2;have gv1:=yJ uv1;have gu2:=yJ uu2;have gr:=yJ hr64;have hP:=AN (b:=Ak) (by decide) k;have hW:=kA Ak r0 k (by omega) hz;have hV:=fR Ak v k hn;have hu':=Az (b:=Ak) (by decide) (AM hd k);have hu'':=Bo (b:=Ak) (by decide) (AM hd k);have hv':=Az (b:=Ak) (by decide) (AM hv k);have hv'':=Bo (b:=Ak) (by decide) (AM hv k);rw[zA,zI (by omega)]at hu'' hv'';have exit:q*v.getD k 0≤(r+18446744073709551616*o)*18446744073709551616+r0.getD k 0→Ends Iy (L7 v9 v10 v11n v12 v13n j o1 o0 j (k+3) v0c v ((k+2:Nat):Int) q 0 0 ((k+2:Nat):Int) 0 o1' (lo++r0)) Q:=by
   intro hx;refine gO v9 v10 v11n v12 v13n o1 o0 v0c v (k+2) j lo m r0 o1' hn hn9 hm hlo hjv hj1 hv hr hd hz hfin q uq hup ?_;rw[hW,hV];exact SS hP ⟨hv',hv''⟩ hu' ⟨h0,hB⟩ hv1 gv2.1 he hx
  have e1:zf .i64 (((k+2:Nat):Int)-2)=(k:Int):=by rw[wr _ (by omega) (by omega)];omega
  have e2:zf .i64 (((k+2:Nat):Int)-1)=((k+1:Nat):Int):=by rw[wr _ (by omega) (by omega)];omega
  obtain⟨w1,w2,w3⟩:=vQ q (v.getD k 0);have hlw:decide (yR k j<(lo++r0).length)=true:=lw hlo (by omega);refine zq (Gy ..) (zp (fun c=>?_) (fun c=>?_))
  ·have c:o=0:=by simpa using c
   subst c;rw[e1,e2,zg,zg,gw hlo];refine zd (by simp;omega) (zd (Aa uq uv2) ?_);have dec:r*18446744073709551616+r0.getD k 0<q*v.getD k 0→Ends Iy (L5 v9 v10 v11n v12 v13n j o1 o0 j (k+3) v0c v ((k+2:Nat):Int) (zf .u64 (q-1)) (Hp r (v.getD (k+1) 0) 0) (Nw r (v.getD (k+1) 0) 0) o1' (lo++r0)) Q:=by
    intro hx;obtain⟨a1,a2,a3⟩:=JP hr64 uv1 (c:=0) (by decide);have hq1:1≤q:=by
     rcases zG 0 q with g|g
     ·exact g
     ·have:q=0:=by omega
      subst this;rw[yE]at hx;omega
    rw[wu (q-1) (by omega) (by omega)];refine Ck v9 v10 v11n v12 v13n o1 o0 v0c v k j lo m r0 o1' hn hn9 hm hlo hjv hj1 hv hr hd hz hv1 hfin f (q-1) _ _ (by omega) (by omega) (by omega) a1 (by omega) ?_ ?_
    ·rw[yK,zL,a3];omega
    ·have he':q*v.getD (k+1) 0+r=r0.getD (k+2) 0*18446744073709551616+r0.getD (k+1) 0:=by omega
     have:=TN (B:=Ak) (u0:=r0.getD (k+2) 0) (u1:=r0.getD (k+1) 0) (u2:=r0.getD k 0) hP hv' hu'' h0 (v1:=v.getD (k+1) 0) (v2:=v.getD k 0) (r:=r) he' hx;rw[←hW, ←hV]at this;rw[show q-1+1=q by omega];exact this
   refine zp (fun c1=>exit ?_) (fun c1=>zp (fun c2=>zd (by simp;omega) (zd hlw (zp (fun c3=>exit ?_) (fun c3=>zd (by simp;omega) (zd (Aa (Aa (Aa hr64 uv1) rfl) rfl) (dec ?_)))))) (fun c2=>zd (by simp;omega) (zd (Aa (Aa (Aa hr64 uv1) rfl) rfl) (dec ?_))))
   ·have c1:=of_decide_eq_true c1;omega
   ·have c2:Pw q (v.getD k 0)=r:=by simpa using c2
    have c3:=of_decide_eq_true c3;omega
   ·have c2:Pw q (v.getD k 0)=r:=by simpa using c2
    have c3:=of_decide_eq_false c3;omega
   ·have c1:=of_decide_eq_false c1;have c2:Pw q (v.getD k 0)≠r:=by simpa using c2
    omega
  ·have c:o≠0:=by simpa using c
   refine exit ?_;have a:=zh (show v.getD k 0≤18446744073709551615 by omega) h0;omega
theorem BR(s:Int)(v:List Int)(k la:Nat)(hn:v.length=k+2)(hla:la≤9000)(hkl:k+2≤la)(hv:Av Ak v)(hv1:1≤v.getD (k+1) 0)(W0:Int)
  (hq:∀u qs:List Int,u.length=la+1→Av Ak u→Av Ak qs→zc Ak u<zc Ak v→qs.length=la-(k+2)+1→W0=zc Ak u+zc Ak v*zc Ak qs→Ends Iy (L6 s (la+1) ((k+2:Nat):Int) (la-(k+2)+1) ((k+2:Nat):Int) 0 qs u) Q):
  ∀(t:Nat) (u qs:List Int),t+qs.length=la-(k+2)+1→u.length=la+1→Av Ak u→Av Ak qs→zc Ak (u.drop t)<zc Ak v→W0=zc Ak u+zc Ak v*((Ak:Int)^t*zc Ak qs)→
   Ends Iy (L4 s v (la+1) ((k+2:Nat):Int) (la-(k+2)+1) ((t:Int)-1) (zj t 0++qs) u) Q
 |0,u,qs,hl,hu,hd,hdq,hlt,he=>by
  refine zq (Dm ..) (zD (by simp) ?_);exact hq u qs hu hd hdq hlt (by omega) (by rw[he,zJ,zL])
 |j+1,u,qs,hl,hu,hd,hdq,hlt,he=>by
  obtain⟨lo,r,rfl,hlo⟩:∃lo r:List Int,u=lo++r∧lo.length=j:=⟨u.take j,u.drop j,(zV j u).symm,by rw[zA];omega⟩;have hdlo:Av Ak lo:=fun d hd'=>hd d (yk.2 (.inl hd'))
  have hdr:Av Ak r:=fun d hd'=>hd d (yk.2 (.inr hd'))
  have hrl:r.length=la+1-j:=by rw[yr]at hu;omega
  have hdrop:∀z:List Int,(lo++z).drop j=z:=fun z=>by rw[←hlo];exact List.drop_left
  have hr0:r=r.getD 0 0::r.drop 1:=by
   have:=B3 (l:=r) (i:=0) (by omega);rw[List.drop_zero]at this;exact this
  have hd1:(lo++r).drop (j+1)=r.drop 1:=by rw[yF j 1,yF 1 j, ←yt,hdrop]
  rw[hd1]at hlt;have g0:=Jp (b:=Ak) (by decide) hdr 0;have hvr:zc Ak r=r.getD 0 0+18446744073709551616*zc Ak (r.drop 1):=by
   conv=>lhs;rw[hr0]
   rfl
  have hVlt:=Bo (b:=Ak) (by decide) hv;rw[hn]at hVlt;have g0:0≤r.getD 0 0∧r.getD 0 0<18446744073709551616:=g0;have hrV:zc Ak r<18446744073709551616*zc Ak v:=by rw[hvr];omega
  have hz:zc Ak (r.drop (k+3))=0:=by
   refine I2 (b:=Ak) (by decide) hdr (by omega) ?_;have ep:(Ak:Int)^(k+3)=(Ak:Int)^(k+2)*18446744073709551616:=zu ..;rw[ep];omega
  have uu0:=AR hdr (k+2);have uu1:=AR hdr (k+1);have uu2:=AR hdr k;have uv1:=AR hv (k+1);have gu0:=yJ uu0;have gu1:=yJ uu1;have gu2:=yJ uu2;have gv1:=yJ uv1;have gv2:=yJ (AR hv k);have hP:=AN (b:=Ak) (by decide) k;have hW:=kA Ak r k (by omega) hz;have hV:=fR Ak v k hn;have hu':=Az (b:=Ak) (by decide) (AM hdr k);have hu'':=Bo (b:=Ak) (by decide) (AM hdr k);have hv':=Az (b:=Ak) (by decide) (AM hv k);rw[zA,zI (by omega)]at hu'';have hle:r.getD (k+2) 0≤v.getD (k+1) 0:=by
   have a1:=B7 Ak (r.drop 1) (k+1) (by rw[yh];omega);have a2:(r.drop 1).drop (k+1)=r.getD (k+2) 0::r.drop (k+3):=by
    rw[yt,show 1+(k+1)=k+2 by omega];exact B3 (by omega)
   have a3:zc Ak (r.getD (k+2) 0::r.drop (k+3))=r.getD (k+2) 0:=by
    show r.getD (k+2) 0+(Ak:Int)*zc Ak (r.drop (k+3))=_;rw[hz];omega
   rw[a2,a3]at a1;have b1:zc Ak v=zc Ak (v.take (k+1))+(Ak:Int)^(k+1)*v.getD (k+1) 0:=by
    rw[←AF,zn (by omega)]
   have b2:=Bo (b:=Ak) (by decide) (AM hv (k+1));rw[zA,zI (by omega)]at b2;have c1:=Az (b:=Ak) (by decide) (AM (Eb hdr 1) (k+1));have c2:(Ak:Int)^(k+1)*r.getD (k+2) 0<(Ak:Int)^(k+1)*(v.getD (k+1) 0+1):=by
    rw[zr,zT];omega
   have:=zz c2 (zo (AN (by decide) (k+1)));omega
  have hfin:∀(q:Int) (r':List Int),r'.length=la+1-j→Av Ak r'→(0≤q∧q<18446744073709551616)→zc Ak r'<zc Ak v→zc Ak r'=zc Ak r-q*zc Ak v→Ends Iy (L4 s v (la+1) ((k+2:Nat):Int) (la-(k+2)+1) (zf .i64 ((j:Int)-1)) ((zj (j+1) 0++qs).set j q) (lo++r')) Q:=by
   intro q r' h1 h2 h3 h4 h5;have es:(zj (j+1) (0:Int)++qs).set j q=zj j 0++(q::qs):=by
    rw[yj,zB];exact C5 _ _ _ _ (by simp)
   rw[es,wr ((j:Int)-1) (by omega) (by omega)];refine BR s v k la hn hla hkl hv hv1 W0 hq j (lo++r') (q::qs) (by simp;omega) (by simp;omega) (EH hdlo h2) (fun d hd'=>?_) (by rw[hdrop];exact h4) ?_
   ·rcases yi.1 hd' with rfl|hd'
    ·exact h3
    ·exact hdq d hd'
   ·rw[he,CF,CF,hlo,h5,Ky];show zc Ak lo+(Ak:Int)^j*zc Ak r+zc Ak v*((Ak:Int)^j*(18446744073709551616*zc Ak qs))=zc Ak lo+(Ak:Int)^j*(zc Ak r-q*zc Ak v)+zc Ak v*((Ak:Int)^j*(q+18446744073709551616*zc Ak qs));have x1:zc Ak v*((Ak:Int)^j*q)=(Ak:Int)^j*(q*zc Ak v):=by
     rw[zE,zw (zc Ak v) q]
    rw[zX,zr ((Ak:Int)^j) q,zr (zc Ak v),x1];omega
  have ez:yR 0 j=j:=yP j;have e0:(((j+1:Nat):Int)-1)=(j:Int):=by omega
  have e1:zf .i64 (zf .i64 ((j:Int)+((k+2:Nat):Int))+1)=((j+(k+3):Nat):Int):=by
   rw[wr ((j:Int)+((k+2:Nat):Int)) (by omega) (by omega),wr _ (by omega) (by omega)];omega
  have e2:zf .i64 (((k+2:Nat):Int)-1)=((k+1:Nat):Int):=by rw[wr _ (by omega) (by omega)];omega
  have e3:yQ (j+(k+3)) j=k+3:=by show j+(k+3)-j=_;omega
  have lw1:decide (yR (k+2) j<(lo++r).length)=true:=lw hlo (by omega);have lw2:decide (yR (k+1) j<(lo++r).length)=true:=lw hlo (by omega);rw[e0];refine zq (Dm ..) (zd (by simp) ?_);rw[hn,e1,e2,zg,zg,zg,zg,ez,e3,gw hlo,gw hlo];have b1:(decide ((0:Int)≤((k+2:Nat):Int))&&decide (((k+2:Nat):Int)<((k+3:Nat):Int)))=true:=by simp;omega
  have b2:(decide ((0:Int)≤((k+1:Nat):Int))&&decide (((k+1:Nat):Int)<((k+2:Nat):Int)))=true:=by simp;omega
  have b3:(decide ((0:Int)≤((k+1:Nat):Int))&&decide (((k+1:Nat):Int)<((k+3:Nat):Int)))=true:=by simp;omega
  have hjl:j<(zj (j+1) (0:Int)++qs).length:=by simp;omega
  refine zd (by simp;omega) (zd b1 (zd lw1 (zd b2 (zp (fun c=>?_) (fun c=>?_)))))
  ·have c:=of_decide_eq_true c;obtain⟨a1,a2,a3⟩:=JP uu1 uv1 (c:=0) (by decide);refine zd b3 (zd lw2 (zd b2 (zd (Aa (Aa (Aa uu1 uv1) rfl) rfl) ?_)));refine Ck s v (la+1) _ _ _ _ _ v k j lo (la+1-j) r _ hn (by omega) (by omega) hlo (by omega) hjl hv hrl hdr hz hv1 hfin 18446744073709551616 _ _ _ (by decide) (by decide) (by decide) a1 (by omega) ?_ ?_
   ·rw[a3];omega
   ·exact hrV
  ·have c:=of_decide_eq_false c;obtain⟨d1,d2,d3,d4,d5⟩:=wY (r:=r.getD (k+2) 0) (x:=r.getD (k+1) 0) (d:=v.getD (k+1) 0) (by omega) (by omega) gu1;refine zd b1 (zd lw1 (zd b3 (zd lw2 (zd b2 (zd (Aa (Aa (Aa uu0 uu1) uv1) (decide_eq_true (by omega))) ?_)))));refine Ck s v (la+1) _ _ _ _ _ v k j lo (la+1-j) r _ hn (by omega) (by omega) hlo (by omega) hjl hv hrl hdr hz hv1 hfin 18446744073709551616 _ _ _ d2 d3 d3 (Cu d4 (by omega)) (.inl rfl) ?_ ?_
   ·rw[←d1];omega
   ·rw[hW,hV];exact Mh hP (by decide) d2 hv' gv2.1 hu'' gu2.2 d1 d5
end T230
end Go.Pe
end
section
namespace Go.Pe
open Sp
open Go.Det
theorem Sk{a b:Int}{s:Nat}(ha:0≤a)(hb:0≤b)(h:b<2^s)(hm:a*2^s+b<18446744073709551616):Xk .u64 b (a*2^s)=a*2^s+b:=by
 have:=Wk ha hb h hm;rw[←this];show zf .u64 (((zK 64 b|||zK 64 (a*2^s)).toNat:Nat):Int)=zf .u64 (((zK 64 (a*2^s)|||zK 64 b).toNat:Nat):Int);rw[BitVec.or_comm]
theorem WV{s:Nat}(hs:s≤63):(18446744073709551616:Int)=2^s*2^(64-s):=by rw[←yL,show s+(64-s)=64 by omega];rfl
namespace T230
variable {Q:PV→Ob→Prop}
theorem Es(s:Nat)(hs:s≤63)(la n m:Nat)(hn:n≤la)(hla:la≤9000)(u qs:List Int)(hu:u.length=la+1)(hd:Av Ak u)(hz:zc Ak (u.drop n)=0)(hm:qs.length=m)(hm9:m≤9000)(hdq:Av Ak qs)
  (hq:∀(w:List Int) ob,Av Ak w→zc Ak w=zc Ak u/2^s→Q (.tup [.dat CW (Au qs),.dat CW (Au w)]) ob):
  ∀(k i:Nat) (p:List Int),i+k=n→p.length=i→Av Ak p→zc Ak p+(Ak:Int)^i*(zc Ak (u.drop i)/2^s)=zc Ak u/2^s→
   Ends Iy (L6 s (la+1) n m n i qs (p++u.drop i)) Q
 |0,i,p,hi,hp,hdp,he=>by
  have hi:i=n:=by omega
  subst hi;have ht:(p++u.drop i).take i=p:=by rw[←hp];exact yM
  have ht2:qs.take m=qs:=zn (by omega);rw[hz,Int.zero_ediv,z8,yq]at he;refine zq (Hr ..) (zD (by simp) ?_);rw[zg,ht,ht2];refine zd (by simp;omega) (zd (Aa (by simp;omega) (D5 (by omega) hdq)) (zd (Aa (by simp;omega) (D5 (by omega) hdp)) (zm (hq p _ hdp he))))
 |k+1,i,p,hi,hp,hdp,he=>by
  have d1:=B3 (l:=u) (i:=i) (by omega);have d2:=B3 (l:=u) (i:=i+1) (by omega);have gx:=yJ (AR hd i);have gy:=yJ (AR hd (i+1));have g1:(p++u.drop i).getD i 0=u.getD i 0:=by rw[d1];exact Dq _ _ _ _ hp
  have s1:∀z,(p++u.drop i).set i z=p++z::u.drop (i+1):=fun z=>by rw[d1];exact C5 _ _ _ _ hp
  have s2:∀z x,(p++z::u.drop (i+1)).set i x=(p++[x])++u.drop (i+1):=fun z x=>by rw[C5 _ _ _ _ hp,zB];rfl
  have g2:∀z,(p++z::u.drop (i+1)).getD i 0=z:=fun z=>Dq _ _ _ _ hp
  have g3:∀z,(p++z::u.drop (i+1)).getD (i+1) 0=u.getD (i+1) 0:=fun z=>by
   rw[d2,show p++z::u.getD (i+1) 0::u.drop (i+1+1)=(p++[z])++u.getD (i+1) 0::u.drop (i+1+1)by rw[zB];rfl];exact Dq _ _ _ _ (by simp[hp])
  have hlen:∀z,(p++z::u.drop (i+1)).length=la+1:=fun z=>by simp;omega
  have hlen0:(p++u.drop i).length=la+1:=by simp;omega
  have e2:zf .i64 ((i:Int)+1)=((i+1:Nat):Int):=by rw[wr _ (by omega) (by omega)];omega
  have e3:zf .i64 ((64:Int)-(s:Int))=((64-s:Nat):Int):=by rw[wr _ (by omega) (by omega)];omega
  have em:Min.min s 64=s:=by omega
  have em2:Min.min (64-s) 64=64-s:=by omega
  have hB:=WV hs;have hc:(0:Int)<2^s:=zY (by decide);have hd':(0:Int)<2^(64-s):=zY (by decide);have efd:Int.fdiv (u.getD i 0) ((2:Int)^s)=u.getD i 0/2^s:=zZ _ (zo hc);have a0:0≤u.getD i 0/2^s:=ym gx.1 (zo hc);have a1:u.getD i 0/2^s<2^(64-s):=yg hc (by rw[zw, ←hB];exact gx.2);have m0:=zP (u.getD (i+1) 0) (show(2:Int)^s≠0 by omega);have m1:=zM (u.getD (i+1) 0) hc;have p0:0≤(u.getD (i+1) 0 % 2^s)*2^(64-s):=zF m0 (zo hd');have p1:(u.getD (i+1) 0 % 2^s)*2^(64-s)≤18446744073709551616-2^(64-s):=by
   have:=zk (show u.getD (i+1) 0 % 2^s≤2^s-1 by omega) (zo hd');rw[yK,zL, ←hB]at this;exact this
  have hnew:0≤u.getD i 0/2^s+(u.getD (i+1) 0 % 2^s)*2^(64-s)∧u.getD i 0/2^s+(u.getD (i+1) 0 % 2^s)*2^(64-s)<18446744073709551616:=by omega
  have ewy:zf .u64 (u.getD (i+1) 0*2^(64-s))=(u.getD (i+1) 0 % 2^s)*2^(64-s):=by
   rw[Kn];exact(TT (b:=18446744073709551616) (c:=2^(64-s)) (d:=2^s) (k:=0) hd' hc (by rw[hB,zw]) ⟨yx _,hd'⟩ gy).1
  have eio:Xk .u64 (u.getD i 0/2^s) ((u.getD (i+1) 0 % 2^s)*2^(64-s))=u.getD i 0/2^s+(u.getD (i+1) 0 % 2^s)*2^(64-s):=by
   rw[Sk m0 a0 a1 (by omega),Int.add_comm]
  have next:∀z,z=u.getD i 0/2^s+(u.getD (i+1) 0 % 2^s)*2^(64-s)→Ends Iy (L6 s (la+1) n m n ((i+1:Nat):Int) qs ((p++[z])++u.drop (i+1))) Q:=by
   intro z hz';refine Es s hs la n m hn hla u qs hu hd hz hm hm9 hdq hq k (i+1) (p++[z]) (by omega) (by simp[hp]) (DL hdp (by rw[hz'];exact Cu hnew.1 hnew.2)) ?_;rw[←he,Ex,hp,Ky,yy, ←zr];congr 2;have:=YZ (b:=18446744073709551616) (c:=2^s) (d:=2^(64-s)) (x:=u.getD i 0) (y:=u.getD (i+1) 0) (X:=zc Ak (u.drop (i+1+1))) hc hB;rw[hz',d1,d2];exact this.symm
  have b1:(decide ((0:Int)≤(i:Int))&&decide ((i:Int)<((la+1:Nat):Int)))=true:=by simp;omega
  have b2:(decide ((0:Int)≤((i+1:Nat):Int))&&decide (((i+1:Nat):Int)<((la+1:Nat):Int)))=true:=by simp;omega
  refine zq (Hr ..) (zd (by simp;omega) ?_);rw[e2,e3,zg,zg,zg,zg,em,em2,g1,efd,s1,g2,g3,s2,ewy,eio,hlen,hlen0];refine zd b1 (zd (decide_eq_true (by omega)) (zd (by simp) (zd b1 (zd (decide_eq_true (by omega)) (zp (fun c=>zd (by simp;omega) (zd b1 (zd (decide_eq_true (by omega)) (zd b2 (zd (decide_eq_true (by omega)) (zd (by simp) (zd b1 (zd (decide_eq_true (by omega)) (next _ rfl))))))))) (fun c=>?_))))));have c:=of_decide_eq_false c;have hs0:s=0:=by omega
  subst hs0;rw[show ∀z:Int,p++z::u.drop (i+1)=(p++[z])++u.drop (i+1)from fun z=>by rw[zB];rfl];refine next _ ?_;rw[zJ,Int.emod_one,yE,yq]
theorem RF{X:A5}{F:Int→List Int→Tr}(w:List Int)(s:Nat)(hs:s≤63)(hd:Av Ak w)
  (Dp:∀(i:Nat) (o:List Int),i<w.length→o.length=w.length+1→Ends X (F ((i+1:Nat):Int) (if 0<s then(o.set i (Xk .u64 (o.getD i 0) (zf .u64 (w.getD i 0*2^s)))).set (i+1) (Int.fdiv (w.getD i 0) (2^(64-s)))else o.set i (Xk .u64 (o.getD i 0) (zf .u64 (w.getD i 0*2^s))))) Q→Ends X (F i o) Q)
  (hend:∀o:List Int,o.length=w.length+1→Av Ak o→zc Ak o=2^s*zc Ak w→Ends X (F w.length o) Q):
  ∀(k i:Nat) (p:List Int) (c:Int),i+k=w.length→p.length=i→Av Ak p→(0≤c∧c<2^s)→zc Ak p+(Ak:Int)^i*c=2^s*zc Ak (w.take i)→Ends X (F i (p++c::zj k 0)) Q
 |0,i,p,c,hi,hp,hdp,hc,he=>by
  have hi:i=w.length:=by omega
  subst hi;have hP:(2:Int)^s≤18446744073709551616:=by
   have:=WV hs;have h1:(1:Int)≤2^(64-s):=zY (by decide);have h2:=zh h1 (show(0:Int)≤2^s from zo (zY (by decide)));omega
  rw[ya]at he;refine hend _ (by simp[hp]) (DL hdp (Cu hc.1 (by omega))) ?_;rw[←he];show zc Ak (p++[c])=_;rw[Ex,hp]
 |k+1,i,p,c,hi,hp,hdp,hc,he=>by
  have gx:=yJ (AR hd i);have hB:=WV hs;have h2s:(0:Int)<2^s:=zY (by decide);have h2d:(0:Int)<2^(64-s):=zY (by decide);obtain⟨s1,s2,s3,s4,s5,s6⟩:=TT (b:=18446744073709551616) (c:=2^s) (d:=2^(64-s)) (x:=w.getD i 0) (k:=c) h2s h2d hB hc gx;have efd:Int.fdiv (w.getD i 0) ((2:Int)^(64-s))=w.getD i 0/2^(64-s):=zZ _ (zo h2d);have g1:(p++c::zj (k+1) 0).getD i 0=c:=Dq _ _ _ _ hp;have st:∀z:Int,(p++c::zj (k+1) 0).set i z=p++z::zj (k+1) 0:=fun z=>C5 _ _ _ _ hp
  have st2:∀z y:Int,(p++z::zj (k+1) 0).set (i+1) y=(p++[z])++y::zj k 0:=fun z y=>by
   rw[show p++z::zj (k+1) (0:Int)=(p++[z])++0::zj k 0 by rw[zB];rfl];exact C5 _ _ _ _ (by simp[hp])
  have eio:Xk .u64 c ((w.getD i 0 % 2^(64-s))*2^s)=(w.getD i 0 % 2^(64-s))*2^s+c:=Sk (zP _ (by omega)) hc.1 hc.2 s2;have go:=RF w s hs hd Dp hend k (i+1) (p++[(w.getD i 0 % 2^(64-s))*2^s+c]) (w.getD i 0/2^(64-s)) (by omega) (by simp[hp]) (DL hdp (Cu (by omega) s2)) ⟨s4,s5⟩ (by
   rw[Ex,hp,Ky,AF,zr (2^s), ←he,yy,yy, ←zr,zE (2^s), ←zr];congr 2;rw[zw (2^s)];omega)
  refine Dp i _ (by omega) (by simp;omega) ?_;rw[Kn,s1,efd,g1,eio,st,st2];by_cases h0:0<s
  ·rw[if_pos h0];exact go
  ·have hs0:s=0:=by omega
   subst hs0;have hz:w.getD i 0/2^(64-0)=0:=yf gx.1 gx.2;rw[hz]at go;rw[if_neg h0,show ∀z:Int,p++z::zj (k+1) (0:Int)=(p++[z])++0::zj k 0 from fun z=>by rw[zB];rfl];exact go
end T230
end Go.Pe
end
section
namespace Go.Pe
open Sp
open Go.Det
theorem gA:∀g sp,Iy.sp g=some sp→Ae AV g sp:=
 Ac T221.ok (Ac T269.ok (Ac T223.ok (Ac T268.ok (Ac T270.ok (Ac eP (Ac T272.ok (fun g sp h=>by cases h)))))))
theorem JH{w:List Int}(hd:Av Ak w)(hn:Sp.nz w){k:Nat}(hl:w.length=k+1):0<w.getD k 0∧w.getD k 0<18446744073709551616:=by
 have g:=yJ (AR hd k);refine⟨?_,g.2⟩;have e:w.getLast?=some (w.getD k 0):=by
  rw[yw,hl,yb,zN,yz (by omega)];rfl
 unfold Sp.nz at hn;rw[e]at hn;have:w.getD k 0≠0:=fun h=>hn (by rw[h])
 omega
namespace T230
set_option maxHeartbeats 1000000 in
theorem ok:Ae AV 230 Fy:=by
 refine AB (X:=Iy) rfl gA (d:=9) (by kernel_rfl) (by kernel_rfl) (by kernel_rfl) (fun(i:List Int×List Int) hi=>?_) (Ad (by kernel_rfl));obtain⟨a,b⟩:=i;have hi:(B2 a&&B2 b&&decide (a.length≤9000)&&decide (b.length≤9000)&&decide (0<Am b))=true:=hi;rw[zi,zi,zi,zi,decide_eq_true_eq,decide_eq_true_eq,decide_eq_true_eq]at hi;obtain⟨⟨⟨⟨na,nb⟩,la9⟩,lb9⟩,hb0⟩:=hi;obtain⟨_,da,za⟩:=ED na;obtain⟨_,db,zb⟩:=ED nb;have hb0:0<zc Ak b:=hb0;have ha0:=Az (b:=Ak) (by decide) da;have hg:∀q r ob,q=Bp (Am a/Am b)→r=Bp (Am a % Am b)→Af Fy (a,b) (PV.tup [PV.dat CW q,PV.dat CW r]) ob:=fun q r ob e1 e2=>z7 rfl rfl (Prod.ext e1 e2)
 have fin:∀(q r:List Int) ob,Av Ak q→Av Ak r→zc Ak a=zc Ak q*zc Ak b+zc Ak r→zc Ak r<zc Ak b→Af Fy (a,b) (PV.tup [PV.dat CW (Au q),PV.dat CW (Au r)]) ob:=by
  intro q r ob dq dr he hr;have hr0:=Az (b:=Ak) (by decide) dr;obtain⟨u1,u2⟩:=(zQ (a:=zc Ak a) (b:=zc Ak b) (r:=zc Ak r) (q:=zc Ak q) hb0).2 ⟨by rw[zw (zc Ak b)];omega,hr0,hr⟩;refine hg _ _ ob ?_ ?_
  ·rw[KL dq];show Bp (zc Ak q)=Bp (zc Ak a/zc Ak b);rw[u1]
  ·rw[KL dr];show Bp (zc Ak r)=Bp (zc Ak a % zc Ak b);rw[u2]
 have hbne:b≠[]:=by rintro rfl;simp[zc]at hb0
 have hblen:b.length≠0:=fun h=>hbne (zC.1 h)
 refine zU (An a b) (zd (by rw[na,nb];rfl) (zp (fun c=>?_) (fun c=>?_)))
 ·have c:=of_decide_eq_true c;have hlt:zc Ak a<zc Ak b:=by
   unfold BX at c;have c:(if zc Ak a<zc Ak b then(-1:Int)else if zc Ak a>zc Ak b then 1 else 0)<0:=c;split at c
   ·assumption
   ·split at c<;>omega
  refine zm (z7 rfl rfl ?_);show([],a)=(Bp (zc Ak a/zc Ak b),Bp (zc Ak a % zc Ak b));rw[yf ha0 hlt,Int.emod_eq_of_lt ha0 hlt];exact Prod.ext rfl (Ih (by decide) da za)
 ·have c:=of_decide_eq_false c;have hge:zc Ak b≤zc Ak a:=by
   rcases zG (zc Ak a) (zc Ak b)with g|g
   ·have:BX (Am a) (Am b)= -1:=if_pos g;omega
   ·exact g
  have hll:b.length≤a.length:=by
   rcases Nat.lt_or_ge a.length b.length with g|g
   ·have:=Ee (b:=Ak) (by decide) da db zb g;omega
   ·exact g
  refine zp (fun c1=>?_) (fun c1=>?_)
  ·have c1:b.length=1:=by
    have:(b.length:Int)=1:=by simpa using c1
    omega
   obtain⟨d,rfl⟩:=yG.1 c1;have hd:0<d∧d<18446744073709551616:=JH (k:=0) db zb rfl;have e1:zf .i64 ((a.length:Int)-1)=(a.length:Int)-1:=wr _ (by omega) (by omega);rw[e1,zg];refine zd (by simp;omega) ?_;have:=Aj (Q:=Af Fy (a,[d])) a d da hd (by omega) (fun q r ob dq dr he=>by
    refine fin q [r] ob dq (fun x hx=>by rw[yc]at hx;subst hx;exact⟨dr.1,by show x<18446744073709551616;omega⟩) ?_ ?_
    ·rw[val_one,val_one];exact he
    ·rw[val_one,val_one];exact dr.2) a.length [] 0 (by simp) (fun x hx=>by cases hx) ⟨yx _,hd.1⟩ (by rw[yC];simp[zc])
   rw[yn]at this;exact this
  ·have c1:b.length≠1:=by
    have:(b.length:Int)≠1:=by simpa using c1
    omega
   obtain⟨k,hk⟩:∃k,b.length=k+2:=⟨b.length-2,by omega⟩;obtain⟨y0,y1⟩:=JH (k:=k+1) db zb hk;obtain⟨s,hs,hs63,hlt,_⟩:=TB y0 y1;have hB:=WV hs63;have h2s:(0:Int)<2^s:=zY (by decide);have h2d:(0:Int)<2^(64-s):=zY (by decide);have hyd:b.getD (k+1) 0<2^(64-s):=by
    rw[hB,zw (b.getD (k+1) 0)]at hlt;exact zz hlt (zo h2s)
   have hv1:(Ak:Int)^(k+1)≤2^s*zc Ak b:=by
    have a1:=CU (b:=Ak) (by decide) db zb hbne;rw[hk,show k+2-1=k+1 by omega]at a1;have a2:=zk (show(1:Int)≤2^s by omega) (zo hb0);omega
   have hv2:2^s*zc Ak b<(Ak:Int)^(k+2):=by
    have b1:zc Ak b=zc Ak (b.take (k+1))+(Ak:Int)^(k+1)*b.getD (k+1) 0:=by
     rw[←AF,zn (by omega)]
    have b2:=Bo (b:=Ak) (by decide) (AM db (k+1));rw[zA,zI (by omega)]at b2;have hp:=AN (b:=Ak) (by decide) (k+1);have b3:zc Ak b<(Ak:Int)^(k+1)*2^(64-s):=by
     have:=zh (show b.getD (k+1) 0+1≤2^(64-s)by omega) (zo hp);rw[zr,zT]at this;omega
    have b4:=yu b3 h2s;have b5:(2:Int)^s*((Ak:Int)^(k+1)*2^(64-s))=(Ak:Int)^(k+2):=by
     rw[zE, ←hB];exact(zu ..).symm
    rw[b5]at b4;exact b4
   have hls:∀o:List Int,Av Ak o→zc Ak o=2^s*zc Ak b→Av Ak (Au o)∧(Au o).length=k+2∧zc Ak (Au o)=2^s*zc Ak b∧1≤(Au o).getD (k+1) 0:=by
    intro o ho hv;have hd':=G0 ho;have hv':zc Ak (Au o)=2^s*zc Ak b:=by rw[IS,hv]
    have hl':=dC (b:=Ak) (by decide) hd' (KR o) (k:=k+1) (by rw[hv'];exact hv1) (by rw[hv'];exact hv2);have:=(JH hd' (KR o) hl').1;exact⟨hd',hl',hv',by omega⟩
   have e2:zf .i64 (((k+2:Nat):Int)-1)=((k+1:Nat):Int):=by rw[wr _ (by omega) (by omega)];omega
   have e3:zf .i64 (((k+2:Nat):Int)+1)=((k+3:Nat):Int):=by rw[wr _ (by omega) (by omega)];omega
   have e4:zf .i64 ((a.length:Int)+1)=((a.length+1:Nat):Int):=by rw[wr _ (by omega) (by omega)];omega
   have e5:zf .i64 ((a.length:Int)-((k+2:Nat):Int))=((a.length-(k+2):Nat):Int):=by rw[wr _ (by omega) (by omega)];omega
   have e6:zf .i64 (((a.length-(k+2):Nat):Int)+1)=((a.length-(k+2)+1:Nat):Int):=by rw[wr _ (by omega) (by omega)];omega
   have e7:zf .i64 ((64:Int)-(s:Int))=((64-s:Nat):Int):=by rw[wr _ (by omega) (by omega)];omega
   have em:Min.min s 64=s:=by omega
   have em2:Min.min (64-s) 64=64-s:=by omega
   rw[hk,e2,e3,zg,zg,hs];refine zd (by simp;omega) (zd (Cu (by omega) y1) (zd (by simp;omega) ?_));refine RF (F:=fun i o=>L2 a b s (k+3) b ((k+2:Nat):Int) i o) b s hs63 db (fun i o hi ho h=>?_) (fun o hol hod hov=>?_) (k+2) 0 [] 0 (by omega) rfl (fun x hx=>by cases hx) ⟨yx _,h2s⟩ (by simp[zc])
   ·have ei:zf .i64 ((i:Int)+1)=((i+1:Nat):Int):=by rw[wr _ (by omega) (by omega)];omega
    have b1:(decide ((0:Int)≤(i:Int))&&decide ((i:Int)<((k+3:Nat):Int)))=true:=by simp;omega
    refine zq (A1 ..) (zd (by simp;omega) ?_);rw[ei,e7,zg,zg,zg,zg,em,em2];refine zd (by simp;omega) (zd b1 (zd (decide_eq_true (by omega)) (zd (by simp) (zd b1 (zd (decide_eq_true (by omega)) (zp (fun c=>zd (by simp) (zd (by simp;omega) (zd (by simp;omega) ?_))) (fun c=>?_)))))))
    ·have c:=of_decide_eq_true c;rw[if_pos (by omega)]at h;exact h
    ·have c:=of_decide_eq_false c;rw[if_neg (by omega)]at h;exact h
   obtain⟨vd,vl,vv,v1⟩:=hls o hod hov;have eo:o.take (k+3)=o:=zn (by omega);rw[hk];refine zq (A1 ..) (zD (by simp) ?_);rw[eo,e4,zg,hk,e2,zg,hs];refine zd (Aa (by simp;omega) (D5 (by omega) hod)) (zd (by simp;omega) ?_);refine RF (F:=fun i o'=>L3 a b s (k+3) b ((k+2:Nat):Int) ((k+2:Nat):Int) o s (a.length+1) a a.length i o' o) a s hs63 da (fun i o' hi ho h=>?_) (fun u hul hud huv=>?_) a.length 0 [] 0 (by omega) rfl (fun x hx=>by cases hx) ⟨yx _,h2s⟩ (by simp[zc])
   ·have ei:zf .i64 ((i:Int)+1)=((i+1:Nat):Int):=by rw[wr _ (by omega) (by omega)];omega
    have b1:(decide ((0:Int)≤(i:Int))&&decide ((i:Int)<((a.length+1:Nat):Int)))=true:=by simp;omega
    refine zq (CN ..) (zd (by simp;omega) ?_);rw[ei,e7,zg,zg,zg,zg,em,em2];refine zd (by simp;omega) (zd b1 (zd (decide_eq_true (by omega)) (zd (by simp) (zd b1 (zd (decide_eq_true (by omega)) (zp (fun c=>zd (by simp) (zd (by simp;omega) (zd (by simp;omega) ?_))) (fun c=>?_)))))))
    ·have c:=of_decide_eq_true c;rw[if_pos (by omega)]at h;exact h
    ·have c:=of_decide_eq_false c;rw[if_neg (by omega)]at h;exact h
   refine zq (CN ..) (zD (by simp) ?_);rw[eo,vl,e5,e6,zg,hk,e2,zg,hs];refine zd (by simp;omega) ?_;have hpn:=AN (b:=Ak) (by decide) (a.length-(k+2)+1);have start:zc Ak (u.drop (a.length-(k+2)+1))<zc Ak (Au o):=by
    have a1:=B7 Ak u (a.length-(k+2)+1) (by omega);have a2:=Az (b:=Ak) (by decide) (AM hud (a.length-(k+2)+1));have a3:=Bo (b:=Ak) (by decide) da;have a4:=yu a3 h2s;have a5:(Ak:Int)^a.length=(Ak:Int)^(a.length-(k+2)+1)*(Ak:Int)^(k+1):=by rw[←yL];congr 1;omega
    have a6:=CU (b:=Ak) (by decide) db zb hbne;rw[hk,show k+2-1=k+1 by omega]at a6;have a7:=zh a6 (zo h2s);have a8:=zh a7 (zo hpn);rw[a5,zE]at a4;rw[vv];refine zz (a:=(Ak:Int)^(a.length-(k+2)+1)) ?_ (zo hpn);omega
   have go:=BR (Q:=Af Fy (a,b)) s (Au o) k a.length vl la9 (by omega) vd v1 (2^s*zc Ak a) (fun u' qs hul' hud' hdq hlt' hql he=>by
    have hz:zc Ak (u'.drop (k+2))=0:=I2 (b:=Ak) (by decide) hud' (by omega) (by rw[vv]at hlt';omega);refine Es s hs63 a.length (k+2) (a.length-(k+2)+1) (by omega) la9 u' qs hul' hud' hz hql (by omega) hdq (fun w ob hw hwv=>?_) (k+2) 0 [] (by omega) rfl (fun x hx=>by cases hx) (by simp[zc]);have e:zc Ak u'=2^s*(zc Ak a-zc Ak qs*zc Ak b):=by
     rw[vv,zH,zw (zc Ak b)]at he;rw[zX];omega
    have ew:zc Ak w=zc Ak a-zc Ak qs*zc Ak b:=by
     rw[hwv,e];exact yA _ (by omega)
    refine fin qs w ob hdq hw (by omega) ?_;rw[vv,e]at hlt';have:=zz hlt' (zo h2s);omega) (a.length-(k+2)+1) u [] (by simp) hul hud (fun x hx=>by cases hx) start (by rw[huv];simp[zc])
   rw[yn,show((a.length-(k+2)+1:Nat):Int)-1=((a.length-(k+2):Nat):Int)by omega]at go;exact go
end T230
theorem Qd:Ae AV 230 Fy:=T230.ok
end Go.Pe
end
section
namespace Go.Pe
open Sp
open Go.Det
theorem iW:∀g sp,wO.sp g=some sp→Ae AV g sp:=fun g sp h=>by cases h
theorem T105n.ok:Ae AV 105 YF:=by
 refine AB (X:=wO) rfl iW (d:=9) (by kernel_rfl) (by kernel_rfl) (by kernel_rfl) (fun(n:Int) _=>?_) (Ad (by kernel_rfl));refine zU (T105n.An n) (zm (z7 rfl rfl ?_));show(n,[])=(n,Eg n);rw[D2]
theorem jO:∀g sp,rI.sp g=some sp→Ae AV g sp:=
 Ac T105n.ok (Ac Qd (Ac (T218.ok EW) (Ac (T219.ok EW) (Ac T217.ok (Ac T158.ok (Ac T173.ok (fun g sp h=>by cases h)))))))
theorem U9{m D:Int}(hD:0<D):(m % D=0→(-m)/D= -(m/D)∧(-m) % D=0)∧(m % D≠0→(-m)/D= -(m/D)-1∧(-m) % D=D-m % D):=by
 have e:=zO m D;have r0:=zP m (show D≠0 by omega);have r1:=zM m hD;refine⟨fun h=>?_,fun h=>?_⟩
 ·exact(zQ (a:= -m) (b:=D) (r:=0) (q:= -(m/D)) hD).2 ⟨by rw[yN];omega,by omega,by omega⟩
 ·exact(zQ (a:= -m) (b:=D) (r:=D-m % D) (q:= -(m/D)-1) hD).2 ⟨by rw[zX,yN,zT];omega,by omega,by omega⟩
theorem kE{m D:Int}(hm:0≤m)(hD:0<D):(0≤m/D∧m/D≤m)∧(0≤m % D∧m % D≤m∧m % D<D):=by
 have e:=zO m D;have q0:0≤m/D:=ym hm (by omega);have q1:m/D≤m:=Int.ediv_le_self _ hm;have r0:=zP m (show D≠0 by omega);have r1:=zM m hD;have:=zF (show 0≤D by omega) q0;exact⟨⟨q0,q1⟩,r0,by omega,r1⟩
theorem VI(n:Bool){v:Int}(h:0≤v):Ag (yO n v)=v:=by
 rw[Da,Ai];split<;>omega
theorem Du{n:Int}(h:Ag n<(Ak:Int)^9000):Ba (CG n)=true:=by
 have:=Mw h (by omega);unfold Ba;exact Aa this.1 (decide_eq_true this.2)
theorem bM{a b:AT}(h:0<zl a+zl b):D7 a b=CG (zl a+zl b):=by
 unfold D7;split
 ·next c=>
  have:=Em c.2.2;rw[Bn c.1,Bn c.2.1]at h ⊢;exact(BT (by omega)).symm
 ·rfl
theorem Mz:((1:Int),Eg (1:Int))=CG 1:=by rw[D2];rfl
namespace T176
theorem PN{a b:AT}(q:Int)(h: -9223372036854775808<q∧q<9223372036854775808)(hq:He a b=CG q∨(-9223372036854775808<q∧He a b=Mu (CG (q+1)) (1,[])∧q+1<9223372036854775808)):He a b=(q,[]):=by
 rcases hq with hq|⟨h1,hq,h2⟩
 ·rw[hq,BT h]
 ·rw[hq,BT (by omega)];unfold Mu CR;rw[if_pos ⟨rfl,by decide⟩];unfold D7;rw[if_pos ⟨rfl,rfl,Ds (by show _≤q+1+ -1;omega) (by show q+1+ -1<_;omega)⟩];show(q+1+ -1,[])=(q,[]);rw[show q+1+ -1=q by omega]
set_option maxHeartbeats 1000000 in
theorem ok:Ae AV 176 Gx:=by
 refine AB (X:=rI) rfl jO (d:=9) (by kernel_rfl) (by kernel_rfl) (by kernel_rfl) (fun(i:(Int×List Int)×(Int×List Int)) hi=>?_) (Ad (by kernel_rfl));obtain⟨a,b⟩:=i;have hi:(Ba a&&Ba b&&decide (0<zl b))=true:=hi;rw[zi,zi,decide_eq_true_eq]at hi;obtain⟨⟨ha,hb⟩,hD⟩:=hi;obtain⟨oa,_,na,_,va,ba⟩:=words ha;obtain⟨ob,_,nb,_,vb,bb⟩:=words hb;have eD:Ag (zl b)=zl b:=by rw[Ai];omega
 have hM:=AH (zl a);have eM:Ag (zl a)=if zl a<0 then -zl a else zl a:=rfl
 obtain⟨⟨q0,q1⟩,r0,r1,r2⟩:=kE (D:=zl b) hM hD;obtain⟨z1,z2⟩:=U9 (m:=Ag (zl a)) hD;have hdiv:Qz (Bp (Ag (zl a))) (Bp (Ag (zl b)))=true:=by
  unfold Qz;exact Aa (Aa (Aa (Aa na nb) (decide_eq_true (Jv hM ba))) (decide_eq_true (Jv (AH _) bb))) (decide_eq_true (by rw[vb,eD];exact hD))
 have fin:∀(q r:AT) v ob,P8 Gx.outs v ob=some (true,(q,r))→q=He a b→r=CG (zl a % zl b)→Af Gx (a,b) v ob:=fun q r v ob h e1 e2=>z7 h rfl (by rw[e1,e2];rfl)
 have slow:Ends rI (L1 (decide (zl a<0)) (Bp (Am (Bp (Ag (zl a)))/Am (Bp (Ag (zl b))))) (Bp (Am (Bp (Ag (zl a))) % Am (Bp (Ag (zl b))))) 0 0 b.1 b.2) (Af Gx (a,b)):=by
  rw[va,vb,eD];obtain⟨nq,_,vq⟩:=CJ (n:=Ag (zl a)/zl b) (k:=9000) q0 (by omega) (by omega);obtain⟨nr,_,vr⟩:=CJ (n:=Ag (zl a) % zl b) (k:=9000) r0 (by omega) (by omega);have jr:Ba (CG (yO (decide (zl a<0)) (Ag (zl a) % zl b)))=true:=Du (by rw[VI _ r0];omega);have jq:Ba (CG (yO (decide (zl a<0)) (Ag (zl a)/zl b)))=true:=Du (by rw[VI _ q0];omega);have j1:Ba ((1:Int),Eg (1:Int))=true:=by rw[Mz];decide
  have es:HW (Cp (yO (decide (zl a<0)) (Ag (zl a) % zl b)),Cn (yO (decide (zl a<0)) (Ag (zl a) % zl b)))=SC (yO (decide (zl a<0)) (Ag (zl a) % zl b)):=by
   show SC (zl (CG _))=_;rw[Cg]
  refine zq (Ar ..) (zd nq (zd nr ?_));rw[vq,vr];refine zq (A1 ..) (zd (B1 jr).1 ?_);rw[es];refine zp (fun c=>?_) (fun c=>?_)
  ·have c:=of_decide_eq_true c;have c2:yO (decide (zl a<0)) (Ag (zl a) % zl b)<0:=by
    rw[JK]at c;split at c
    ·assumption
    ·split at c<;>omega
   have hn:zl a<0:=by
    rcases zG (zl a) 0 with g|g
    ·exact g
    ·rw[Da,if_neg (by simp;omega)]at c2;omega
   have hr:Ag (zl a) % zl b≠0:=by
    rw[Da,if_pos (decide_eq_true hn)]at c2;omega
   obtain⟨z3,z4⟩:=z2 hr;refine zd rfl (zd (Aa jq j1) (zd (Aa jr hb) (zm (fin (Mu (CG (yO (decide (zl a<0)) (Ag (zl a)/zl b))) (1,Eg 1)) (D7 (CG (yO (decide (zl a<0)) (Ag (zl a) % zl b))) b) _ _ rfl ?_ ?_))))
   ·unfold He;rw[if_pos ⟨hn,hr⟩,D2,Da,if_pos (decide_eq_true hn)]
   ·have ev:zl a= -Ag (zl a):=by rw[eM,if_pos hn];omega
    have ep:zl (CG (yO (decide (zl a<0)) (Ag (zl a) % zl b)))= -(Ag (zl a) % zl b):=by rw[Cg,Da,if_pos (decide_eq_true hn)]
    have e5:zl a % zl b=zl b-Ag (zl a) % zl b:=by rw[←z4, ←ev]
    rw[bM (by rw[ep];omega),ep,e5];congr 1;omega
  ·have c:=of_decide_eq_false c;have c2:¬(zl a<0∧Ag (zl a) % zl b≠0):=by
    rintro⟨hn,hr⟩;rw[Da,if_pos (decide_eq_true hn),JK,if_pos (by omega)]at c;omega
   refine zm (fin (CG (yO (decide (zl a<0)) (Ag (zl a)/zl b))) (CG (yO (decide (zl a<0)) (Ag (zl a) % zl b))) _ _ rfl ?_ ?_)
   ·unfold He;rw[if_neg c2]
   ·congr 1;rcases zG (zl a) 0 with g|g
    ·have hr:Ag (zl a) % zl b=0:=by
      rcases zG 0 (Ag (zl a) % zl b)with g2|g2
      ·exact absurd ⟨g,by omega⟩ c2
      ·omega
     have ev:zl a= -Ag (zl a):=by rw[eM,if_pos g];omega
     have:=(z1 hr).2;rw[←ev]at this;rw[this,hr,Da];split<;>rfl
    ·rw[Da,if_neg (by simp;omega),eM,if_neg (by omega)]
 refine zU (An a b) (zp (fun c1=>zp (fun c2=>zp (fun c3=>?_) (fun c3=>?_)) (fun c2=>?_)) (fun c1=>?_))
 ·have a2:=NL c1;have b2:=NL c2;have c3:a.1≠ -9223372036854775808:=by simpa using c3
  have ra:=Em (n:=a.1) (by
   have:=oa;unfold Dt at this;rw[zi]at this;exact this.1)
  have rb:=Em (n:=b.1) (by
   have:=ob;unfold Dt at this;rw[zi]at this;exact this.1)
  have ea:=Bn a2;have eb:=Bn b2;rw[ea]at eM;rw[eb]at hD r2;rw[ea,eb]at q0 q1 r0 r1 z1 z2;rw[ea]at r2;have hq:zS a.1 b.1=if a.1<0 then -(Ag a.1/b.1)else Ag a.1/b.1:=by
   rw[eM];split
   ·have:=Int.neg_tdiv (-a.1) b.1;rw[Int.neg_neg]at this;rw[this,zt (by omega)]
   ·exact zt (by omega)
  have hr:yv a.1 b.1=if a.1<0 then -(Ag a.1 % b.1)else Ag a.1 % b.1:=by
   rw[eM];split
   ·have:=Int.neg_tmod (-a.1) b.1;rw[Int.neg_neg]at this;rw[this,zy (by omega)]
   ·exact zy (by omega)
  refine zd (decide_eq_true (by omega)) (zd (decide_eq_true (by omega)) (zp (fun c=>?_) (fun c=>?_)))
  ·have c:=of_decide_eq_true c;rw[hr]at c;have hn:a.1<0:=by split at c<;>omega
   rw[if_pos hn]at c hq hr;rw[if_pos hn]at eM;obtain⟨z3,z4⟩:=z2 (by omega);have ev:a.1= -Ag a.1:=by omega
   have hqm:Ag a.1/b.1<9223372036854775807:=by
    rcases zG (Ag a.1/b.1) 9223372036854775807 with g|g
    ·exact g
    ·have:=zO (Ag a.1) b.1;have:=zk (show 1≤b.1 by omega) q0;omega
   refine zm (fin (zf .i64 (zf .i64 (zS a.1 b.1)-1),[]) (zf .i64 (yv a.1 b.1+b.1),[]) _ _ rfl ?_ ?_)
   ·rw[hq,wr (-(Ag a.1/b.1)) (by omega) (by omega),wr _ (by omega) (by omega)];refine(PN _ (by omega) (.inr ⟨by omega,?_,by omega⟩)).symm;unfold He;rw[ea,eb,if_pos ⟨hn,by omega⟩,show -(Ag a.1/b.1)-1+1= -(Ag a.1/b.1)by omega]
   ·rw[hr,wr _ (by omega) (by omega)];have:a.1 % b.1=b.1-Ag a.1 % b.1:=by rw[←z4, ←ev]
    rw[ea,eb,this,BT (by omega)];congr 1;omega
  ·have c:=of_decide_eq_false c;rw[hr]at c;refine zm (fin (zf .i64 (zS a.1 b.1),[]) (yv a.1 b.1,[]) _ _ rfl ?_ ?_)
   ·have hqq:He a b=CG (zS a.1 b.1):=by
     unfold He;rw[ea,eb,hq,if_neg (by rintro⟨h1,h2⟩;rw[if_pos h1]at c;omega),Da];by_cases h:a.1<0
     ·rw[if_pos (decide_eq_true h),if_pos h]
     ·rw[if_neg (by simp;omega),if_neg h]
    have hb': -9223372036854775808<zS a.1 b.1∧zS a.1 b.1<9223372036854775808:=by
     rw[hq,eM]at*;split<;>split at q1<;>split at q0<;>omega
    rw[wr _ (by omega) (by omega)];exact(PN _ hb' (.inl hqq)).symm
   ·rw[hr];by_cases h:a.1<0
    ·rw[if_pos h]at c ⊢;have hz:Ag a.1 % b.1=0:=by omega
     rw[if_pos h]at eM;have ev:a.1= -Ag a.1:=by omega
     have:=(z1 hz).2;rw[←ev]at this;rw[ea,eb,this,hz];rfl
    ·rw[if_neg h]at c ⊢;rw[if_neg h]at eM;rw[ea,eb,eM,BT (by rw[eM]at r0 r1;omega)]
 ·exact zd oa (zd ob (zd hdiv slow))
 ·exact zd oa (zd ob (zd hdiv slow))
 ·exact zd oa (zd ob (zd hdiv slow))
end T176
theorem iA:∀g sp,rR.sp g=some sp→Ae AV g sp:=
 Ac T176.ok (Ac T212.ok (Ac T173.ok (fun g sp h=>by cases h)))
theorem kF{a:AT}(h:Dt a=true):Sj a=CG (Ag (zl a)):=by
 have hn:=lS h;obtain⟨hr,hw⟩:=DE h;unfold Sj;by_cases h0:a.1<0
 ·rw[if_pos h0,Ai];unfold CR;have hneg:=hn.1 h0;split
  ·next c=>rw[Bn c.1]at hneg ⊢;rw[BT (by omega)];congr 1;omega
  ·congr 1;omega
 ·rw[if_neg h0];obtain⟨s,w⟩:=a;have h0:¬s<0:=h0;rcases hw with hw|⟨h1,h2,h3⟩
  ·have hw:w=[]:=hw;subst hw;have hr: -9223372036854775808≤s∧s<9223372036854775808:=hr;rw[Eh,Ai,BT (by omega)];congr 1;omega
  ·obtain⟨_,d,z⟩:=ED h1;have h2:s=1∨s= -1:=h2;have h3:9223372036854775808≤Am w:=h3;have hne:w≠[]:=by rintro rfl;exact absurd h3 (by decide)
   have hs:s=1:=by omega
   subst hs;rw[T6 hne,if_neg (by decide),Ai];have:=Re (w:=w) false d z h3;rw[if_neg (by decide),if_neg (by decide)]at this;rw[show((Am w).natAbs:Int)=Am w by omega,this]
theorem cQ(n:Int):HW (Cp n,Cn n)=SC n:=by
 show SC (zl (CG _))=_;rw[Cg]
theorem JS(n:Int):zl (Cp n,Cn n)=n:=Cg n
theorem Xb(m n:Int):Wb (Cp m,Cn m) (Cp n,Cn n)=Cp (m % n)∧Wh (Cp m,Cn m) (Cp n,Cn n)=Cn (m % n):=by
 constructor
 ·show Cp (zl (CG _) % zl (CG _))=_;rw[Cg,Cg]
 ·show Cn (zl (CG _) % zl (CG _))=_;rw[Cg,Cg]
theorem Fp{n:Int}(h:Ba (CG n)=true):Ba (Cp n,Cn n)=true:=h
theorem MP{a:AT}(h:Dt a=true):NJ a=Cp (Ag (zl a))∧OS a=Cn (Ag (zl a)):=by
 unfold NJ OS;rw[kF h];exact⟨rfl,rfl⟩
theorem TF(x y:Nat):((x:Int) % (y:Int))=((x % y:Nat):Int):=rfl
theorem jY(a b:AT)(n:Int)(h:n=Sp.gI (zl a) (zl b)):(Cp n,Cn n)=(Mc a b,LL a b):=by subst h;rfl
namespace T152
variable {Q:PV→Ob→Prop}
theorem jS(n:Nat)(h:(n:Int)<(Ak:Int)^9000):Ba (CG (n:Int))=true:=Du (by rw[Ai,Int.natAbs_natCast];exact h)
theorem Aj(g:Nat)(o2 L:Int)(hL:∀n:Nat,(n:Int)<L→Ba (CG (n:Int))=true)(hq:∀ob,Q (.agg [.dat i64 (Cp (g:Int)),.dat (.nlist u64) (Cn (g:Int))]) ob):∀(f x y:Nat),y<f→yS x y=g→(x:Int)<L→(y:Int)<L→
  Ends rR (L1 o2 (Cp (y:Int)) (Cn (y:Int)) (Cp (x:Int)) (Cn (x:Int))) Q
 |0,x,y,h,_,_,_=>by omega
 |f+1,x,y,hy,hg,bx,by'=>by
  have jx:Ba (CG (x:Int))=true:=hL x bx;have jy:Ba (CG (y:Int))=true:=hL y by'
  refine zq (Ar ..) (zd (B1 (Fp jy)).1 ?_);rw[cQ,(Xb _ _).1,(Xb _ _).2,JS,TF];by_cases h0:y=0
  ·subst h0;rw[Nat.gcd_zero_right]at hg;subst hg;exact zD rfl (zm (hq _))
  ·have hlt:x % y<y:=Nat.mod_lt _ (by omega);refine zd ?_ (zd (Aa (Aa (Fp jx) (Fp jy)) (decide_eq_true (by omega))) ?_)
   ·rw[JK,if_neg (by omega),if_pos (by omega)];rfl
   ·exact Aj g o2 L hL hq f y (x % y) (by omega) (by rw[yH, ←Nat.gcd_rec,yH];exact hg) by' (by omega)
set_option maxRecDepth 10000 in
theorem ok:Ae AV 152 Wj:=by
 refine AB (X:=rR) rfl iA (d:=9) (by kernel_rfl) (by kernel_rfl) (by kernel_rfl) (fun(i:(Int×List Int)×(Int×List Int)) hi=>?_) (Ad (by kernel_rfl));obtain⟨a,b⟩:=i;have hi:(Ba a&&Ba b)=true:=hi;rw[zi]at hi;obtain⟨ha,hb⟩:=hi;have oa:=(B1 ha).1;have ob:=(B1 hb).1;have ba:=bounds ha;have bb:=bounds hb;rw[Ai]at ba bb;refine zU (An a b) (zd oa (zd ob ?_));show Ends rR (L1 0 (NJ b) (OS b) (NJ a) (OS a)) _;rw[(MP oa).1,(MP oa).2,(MP ob).1,(MP ob).2,Ai,Ai];refine Aj (yS (zl a).natAbs (zl b).natAbs) 0 _ jS (fun ob=>z7 rfl rfl (jY a b _ ?_)) ((zl b).natAbs+1) _ _ (Nat.lt_succ_self _) rfl ba bb;rw[F8];rfl
end T152
end Go.Pe
end
section
namespace Go.Pe
open Sp
open Go.Det
theorem sG(n:Nat)(h:n<9223372036854775808):GI .i64 (n:Int) 1=((n % 2:Nat):Int):=by
 have e:(zK 64 (n:Int)&&&zK 64 1).toNat=n % 2:=by
  rw[BitVec.toNat_and];have h1:(zK 64 (n:Int)).toNat=n:=by rw[BitVec.ofInt_natCast,BitVec.toNat_ofNat];exact Nat.mod_eq_of_lt (by omega)
  have h2:(zK 64 1).toNat=2^1-1:=by decide
  rw[h1,h2,Nat.and_two_pow_sub_one_eq_mod]
 show zf .i64 (((zK 64 (n:Int)&&&zK 64 1).toNat:Nat):Int)=_;rw[e];exact wr _ (by omega) (by omega)
namespace T216
variable {Q:PV→Ob→Prop}
theorem SL{c:Int}(h:c≠0):1≤Ag c:=by rw[Ai];omega
theorem VE(c:Int):∀k:Nat,Ag (c^k)=Ag c^k
 |0=>by rw[zJ,zJ];rfl
 |k+1=>by rw[zu,zu,IK,VE c k]
theorem one_le_pow{c:Int}(h:1≤c):∀k:Nat,1≤c^k
 |0=>by rw[zJ];decide
 |k+1=>by
  rw[zu];have:=zk (one_le_pow h k) (show 0≤c by omega);omega
theorem tA{p c L:Int}{k:Nat}(hL:1<L)(h:Ag (p*c^k)<L)(h1:c=0→Ag p≤1)(h2:c≠0→p≠0):Ag p<L∧(1≤k→Ag c<L)∧(2≤k→Ag (c*c)<L)∧(1≤k→Ag (p*c)<L):=by
 by_cases hc:c=0
 ·subst hc;have:=h1 rfl;have e:Ag 0=0:=rfl;exact⟨by omega,fun _=>by rw[e];omega,fun _=>by rw[z8,e];omega,fun _=>by rw[z8,e];omega⟩
 ·have hp:=SL (h2 hc);have hc1:=SL hc;rw[IK,VE]at h;rw[IK,IK];generalize Ag p=P at*;generalize Ag c=C at*;have k0:1≤C^k:=one_le_pow hc1 k;have a1:P≤P*C^k:=by
   have:=zh k0 (show 0≤P by omega);omega
  have aC:C^k≤P*C^k:=by
   have:=zk hp (show 0≤C^k by omega);omega
  refine⟨by omega,fun hk=>?_,fun hk=>?_,fun hk=>?_⟩
  ·obtain⟨j,rfl⟩:∃j,k=j+1:=⟨k-1,by omega⟩;rw[zu]at aC h;have:=zk (one_le_pow hc1 j) (show 0≤C by omega);omega
  ·obtain⟨j,rfl⟩:∃j,k=j+2:=⟨k-2,by omega⟩;have e:C^(j+2)=C^j*(C*C):=by rw[zu,zu,zH]
   rw[e]at aC h;have:=zk (one_le_pow hc1 j) (zF (show 0≤C by omega) (show 0≤C by omega));omega
  ·obtain⟨j,rfl⟩:∃j,k=j+1:=⟨k-1,by omega⟩;have e:P*C^(j+1)=C^j*(P*C):=by rw[zu,zE]
   rw[e]at h;have:=zk (one_le_pow hc1 j) (zF (show 0≤P by omega) (show 0≤C by omega));omega
theorem X0{p c:Int}{k j:Nat}(h:k=2*j):p*(c*c)^j=p*c^k:=by
 subst h;rw[Int.pow_mul,zu,zu,zJ,zL]
theorem aX{p c:Int}{k j:Nat}(h:k=2*j+1):p*c*(c*c)^j=p*c^k:=by
 subst h;rw[zu,Int.pow_mul,show c^2=c*c by rw[zu,zu,zJ,zL],zH,zw c]
theorem sD{x:Int}(h:x<(18446744073709551616:Int)^(4000:Nat)):x<(Ak:Int)^9000:=
 yd h (AL (b:=Ak) (by decide) (by omega))
theorem Aj(o1 R:Int)(hR:Ag R<(18446744073709551616:Int)^(4000:Nat))(hq:∀ob,Q (.agg [.dat i64 (Cp R),.dat (.nlist u64) (Cn R)]) ob):
  ∀(f k:Nat) (p:Int) (a:AT),k<f→k≤100000→(1≤k→Ba a=true)→p*zl a^k=R→(zl a=0→Ag p≤1)→(zl a≠0→p≠0)→
   Ends nY (L1 (k:Int) (Cp p) (Cn p) o1 a.1 a.2) Q
 |0,k,p,a,h,_,_,_,_,_=>by omega
 |f+1,k,p,a,hk,hk2,ha,he,h1,h2=>by
  have hL:(1:Int)<(18446744073709551616:Int)^(4000:Nat):=yd (show(1:Int)<18446744073709551616^(1:Nat)by decide) (AL (b:=18446744073709551616) (by decide) (by omega));rw[←he]at hR;obtain⟨s1,s2,s3,s4⟩:=tA hL hR h1 h2;by_cases h0:k=0
  ·subst h0;rw[zJ,zT]at he;subst he;exact zq (Ar ..) (zD (by simp) (zm (hq _)))
  ·have jp:Ba (Cp p,Cn p)=true:=Du (sD s1);have ja:Ba a=true:=ha (by omega);have ef:Int.fdiv (k:Int) ((2:Int)^(1:Nat))=((k/2:Nat):Int):=by
    rw[zZ _ (by decide)];rfl
   have m1:(EA (Cp p,Cn p) a,Ez (Cp p,Cn p) a)=CG (p*zl a):=by
    show CG (zl (CG p)*zl a)=_;rw[Cg]
   have m1s:EA (Cp p,Cn p) (a.1,a.2)=Cp (p*zl a):=congrArg Prod.fst m1;have m1w:Ez (Cp p,Cn p) (a.1,a.2)=Cn (p*zl a):=congrArg Prod.snd m1;have m2:zl (EK a a)=zl a*zl a:=Dd a a;have sq:∀q:Int,1<k→q*(zl a*zl a)^(k/2)=p*zl a^k→(zl a=0→Ag q≤1)→(zl a≠0→q≠0)→Ends nY (L1 ((k/2:Nat):Int) (Cp q) (Cn q) o1 (EA (a.1,a.2) (a.1,a.2)) (Ez (a.1,a.2) (a.1,a.2))) Q:=by
    intro q hk1 hq' g1 g2;refine Aj o1 R (by rw[he]at hR;exact hR) hq f (k/2) q (EK a a) (by omega) (by omega) (fun _=>Du (sD (s3 (by omega)))) (by rw[m2,hq',he]) (fun z=>g1 ?_) (fun z=>g2 ?_)
    ·rw[m2]at z;rcases Int.mul_eq_zero.1 z with z|z<;>exact z
    ·rintro z2;rw[m2,z2]at z;exact z rfl
   have st:∀q:Int,k=1→q=R→Ends nY (L1 ((k/2:Nat):Int) (Cp q) (Cn q) o1 a.1 a.2) Q:=by
    intro q hk1 hq';subst hk1 hq';exact zq (Ar ..) (zD (by simp) (zm (hq _)))
   refine zq (Ar ..) (zd (decide_eq_true (by omega)) ?_);rw[sG k (by omega),ef,m1s,m1w];refine zp (fun c=>?_) (fun c=>?_)
   ·have c:((k % 2:Nat):Int)=1:=by simpa using c
    refine zd (Aa jp ja) (zp (fun d=>zd (Aa ja ja) (zd rfl ?_)) (fun d=>zd rfl ?_))
    ·have d:=of_decide_eq_true d;refine sq _ (by omega) (aX (by omega)) (fun z=>by rw[z,z8];decide) (fun z=>?_);exact Int.mul_ne_zero (h2 z) z
    ·have d:=of_decide_eq_false d;have hk1:k=1:=by omega
     refine st _ hk1 ?_;rw[←he,hk1,zu,zJ,zL]
   ·have c:((k % 2:Nat):Int)≠1:=by simpa using c
    refine zp (fun d=>zd (Aa ja ja) (zd rfl ?_)) (fun d=>?_)
    ·have d:=of_decide_eq_true d;exact sq _ (by omega) (X0 (by omega)) h1 h2
    ·have d:=of_decide_eq_false d;omega
theorem lJ:∀g sp,nY.sp g=some sp→Ae AV g sp:=Ac T105n.ok (Ac T159.ok (fun g sp h=>by cases h))
theorem ok:Ae AV 216 ZL:=by
 refine AB (X:=nY) rfl lJ (d:=9) (by kernel_rfl) (by kernel_rfl) (by kernel_rfl) (fun(i:(Int×List Int)×Int) hi=>?_) (Ad (by kernel_rfl));obtain⟨a,k⟩:=i;have hi:(Ba a&&(decide (0≤k)&&decide (k≤100000)&&decide (Ag (Sp.pI (zl a) k)<(18446744073709551616:Int)^(4000:Nat))))=true:=hi;rw[zi,zi,zi,decide_eq_true_eq,decide_eq_true_eq,decide_eq_true_eq,QI]at hi;obtain⟨ha,⟨k0,k1⟩,hR⟩:=hi;obtain⟨n,rfl⟩:=ye k0;have e1:Eg 1=Cn 1:=by rw[D2];rfl
 refine zU (An a n) (zd rfl ?_);rw[e1];refine Aj (Q:=Af ZL (a,(n:Int))) 0 (zl a^n) hR (fun ob=>z7 rfl rfl ?_) (n+1) n 1 a (by omega) (by omega) (fun _=>ha) (zL _) (fun _=>by decide) (fun _=>by decide);show CG _=CG (Sp.pI (zl a) (n:Int));rw[QI];rfl
end T216
end Go.Pe
end
section
namespace Go.Sp
theorem N3{l:List Int}(h:Jk l=true):l.length≤20000∧Av B9 l:=by
 unfold Jk at h;rw[zi,decide_eq_true_eq,List.all_eq_true]at h;exact⟨h.1,fun d hd=>by
  have:=h.2 d hd;rw[zi,decide_eq_true_eq,decide_eq_true_eq]at this;exact this⟩
theorem Kw{l:List Int}(h1:l.length≤20000)(h2:Av B9 l):Jk l=true:=by
 unfold Jk;rw[zi,decide_eq_true_eq,List.all_eq_true];exact⟨h1,fun d hd=>by
  have:=h2 d hd;rw[zi,decide_eq_true_eq,decide_eq_true_eq];exact this⟩
theorem nL{l:List Int}(h:hR l=true):l.length≤9000∧Av B9 l:=by
 unfold hR at h;rw[zi,decide_eq_true_eq]at h;exact⟨h.2,(N3 h.1).2⟩
theorem Pn{l:List Int}(h1:l.length≤9000)(h2:Av B9 l):hR l=true:=by
 unfold hR;rw[Kw (by omega) h2,yB];exact decide_eq_true h1
theorem Bj{l:List Int}(h:A4 l=true):l.length≤20000∧Av B9 l∧nz l:=by
 unfold A4 at h;rw[zi]at h;have:=N3 h.1;exact⟨this.1,this.2,by
  have:=h.2;unfold pE at this;have:l.getLast?≠some 0:=of_decide_eq_true this;exact this⟩
theorem Y2{l:List Int}(h1:l.length≤20000)(h2:Av B9 l)(h3:nz l):A4 l=true:=by
 unfold A4 pE;rw[Kw h1 h2,yB];exact decide_eq_true h3
theorem FX{l:List Int}(h:Av B9 l)(i:Nat):0≤l.getD i 0∧l.getD i 0<1000000000:=Jp (by decide) h i
theorem ER{l:List Int}{x:Int}(h:Av B9 l)(hx:0≤x∧x<1000000000):Av B9 (l++[x]):=EH h (fun d hd=>by rw[yc]at hd;subst hd;exact hx)
theorem B6(l:List Int)(x:Int):val B9 (l++[x])=val B9 l+(B9:Int)^l.length*x:=by
 rw[CF];simp[val]
theorem Jl(i:Nat)(c:Int):(B9:Int)^(i+1)*c=(B9:Int)^i*(1000000000*c):=by
 rw[zu,zH];rfl
theorem Fj{l:List Int}(h:Av B9 l):Au l=BN (Aq l):=Vx (by decide) h
theorem MV{n:Int}{k:Nat}(h0:0≤n)(h:n<(B9:Int)^k):(BN n).length≤k:=by
 refine MW B9 (by decide) k n.toNat n.toNat ?_;have e:((B9^k:Nat):Int)=(B9:Int)^k:=Int.natCast_pow ..;rw[←e]at h;generalize B9^k=P at*;omega
theorem Gw{n:Int}{k:Nat}(h0:0≤n)(h:n<(B9:Int)^k)(hk:k≤9000):A4 (BN n)=true∧hR (BN n)=true∧Aq (BN n)=n∧(BN n).length≤k:=by
 have h1:=MV h0 h;have h2:=ET (b:=B9) (by decide) n;exact⟨Y2 (by omega) h2 (Wt (by decide) n),Pn (by omega) h2,CE (by decide) h0,h1⟩
end Go.Sp
namespace Go.Pe
open Sp
open Go.Det
theorem QU:∀g sp,XU.sp g=some sp→Ae AV g sp:=fun g sp h=>by cases h
namespace T227
theorem Aj{Q:PV→Ob→Prop}:∀(n:Nat) (w:List Int),w.length=n→n≤20000→(∀ob,Q (.dat li (Au w)) ob)→Ends XU (L1 w) Q
 |0,w,hl,_,hq=>by
  have:w=[]:=zC.1 hl;subst this;exact zq (Ar ..) (zD (by simp) (zm (hq _)))
 |n+1,w,hl,hn,hq=>by
  obtain⟨p,x,rfl⟩:∃p x,w=p++[x]:=by
   have hne:w≠[]:=by rintro rfl;simp at hl
   exact⟨w.dropLast,w.getLast hne,(yo hne).symm⟩
  have hp:p.length=n:=by simpa using hl
  have e1:zf .i64 (((p++[x]).length:Int)-1)=(n:Int):=by rw[wr _ (by omega) (by omega)];omega
  have g1:(p++[x]).getD n 0=x:=Dq _ _ _ _ hp;have t1:(p++[x]).take n=p:=by rw[←hp];exact yM
  refine zq (Ar ..) (zd (decide_eq_true (by omega)) ?_);rw[e1,zg,g1,t1];refine zd (by simp;omega) (zp (fun c=>zd (by simp;omega) ?_) (fun c=>?_))
  ·have c:x=0:=by simpa using c
   subst c;rw[HE]at hq;exact Aj n p hp (by omega) hq
  ·have c:x≠0:=by simpa using c
   rw[HT (Vz c)]at hq;exact zm (hq _)
theorem ok:Ae AV 227 Qi:=by
 refine AB (X:=XU) rfl QU (d:=9) (by kernel_rfl) (by kernel_rfl) (by kernel_rfl) (fun(w:List Int) hw=>?_) (Ad (by kernel_rfl));have hw:w.length≤20000:=of_decide_eq_true hw;exact zU (An w) (Aj w.length w rfl hw (fun ob=>z7 rfl rfl rfl))
end T227
theorem QH:∀g sp,UT.sp g=some sp→Ae AV g sp:=Ac T227.ok (fun g sp h=>by cases h)
theorem T168.ok:Ae AV 168 HS:=by
 refine AB (X:=UT) rfl QH (d:=9) (by kernel_rfl) (by kernel_rfl) (by kernel_rfl) (fun(i:Bool×List Int) hi=>?_) (Ad (by kernel_rfl));obtain⟨n,w⟩:=i;refine zU (T168.An n w) (zd hi (zp (fun c=>zm (z7 rfl rfl ?_)) (fun c=>zm (z7 rfl rfl ?_))))
 ·show(decide (((Au w).length:Int)>0),Au w)=(B5 n w,Au w);unfold B5;rw[c,yB];congr 1;rw[decide_eq_decide];constructor
  ·intro h h2;rw[h2]at h;simp at h
  ·intro h;have:(Au w).length≠0:=fun h2=>h (zC.1 h2)
   omega
 ·show(false,Au w)=(B5 n w,Au w);unfold B5;rw[c];rfl
namespace T170
theorem Aj{Q:PV→Ob→Prop}(a b:List Int)(ha:Av ze a)(hb:Av ze b)(hl:a.length=b.length)(h2:b.length≤20000)(hq:∀ob,Q (.dat i64 (BX (Aq a) (Aq b))) ob):∀(i:Nat),i≤a.length→a.drop i=b.drop i→Ends XU (L1 a b ((i:Int)-1)) Q
 |0,hi,he=>by
  have he:a=b:=he;have:BX (Aq a) (Aq b)=0:=by rw[he];unfold BX;simp
  rw[this]at hq;exact zq (Ar ..) (zD (by simp) (zm (hq _)))
 |i+1,hi,he=>by
  have e1:(((i+1:Nat):Int)-1)=(i:Int):=by omega
  have da:a.drop i=a.getD i 0::a.drop (i+1):=B3 (by omega);have db:b.drop i=b.getD i 0::a.drop (i+1):=by rw[he];exact B3 (by omega)
  rw[e1];refine zq (Ar ..) (zd (by simp) ?_);rw[zg];refine zd (by simp;omega) (zd (by simp;omega) (zp (fun d=>?_) (fun d=>zd (by simp;omega) (zd (by simp;omega) (zp (fun c=>?_) (fun c=>?_))))))
  ·have d:=of_decide_eq_true d;have:=IJ (b:=ze) (by decide) ha hb da db d;have e:BX (Aq a) (Aq b)= -1:=by unfold BX;exact if_pos this
   rw[e]at hq;exact zm (hq _)
  ·have c:=of_decide_eq_true c;have:=IJ (b:=ze) (by decide) hb ha db da c;have e:BX (Aq a) (Aq b)=1:=by unfold BX Aq;rw[if_neg (by omega),if_pos (by omega)]
   rw[e]at hq;exact zm (hq _)
  ·have c:=of_decide_eq_false c;have d:=of_decide_eq_false d;rw[wr ((i:Int)-1) (by omega) (by omega)];exact Aj a b ha hb hl h2 hq i (by omega) (by rw[da,db,show a.getD i 0=b.getD i 0 by omega])
theorem ok:Ae AV 170 Wd:=by
 refine AB (X:=XU) rfl QU (d:=9) (by kernel_rfl) (by kernel_rfl) (by kernel_rfl) (fun(i:List Int×List Int) hi=>?_) (Ad (by kernel_rfl));obtain⟨a,b⟩:=i;have hi:(A4 a&&A4 b)=true:=hi;rw[zi]at hi;obtain⟨a1,a2,a3⟩:=Bj hi.1;obtain⟨b1,b2,b3⟩:=Bj hi.2;have hq:∀ob,Af Wd (a,b) (.dat i64 (BX (Aq a) (Aq b))) ob:=fun ob=>z7 rfl rfl rfl
 refine zU (An a b) (zp (fun c=>zp (fun d=>?_) (fun d=>?_)) (fun c=>?_))
 ·have d:=of_decide_eq_true d;have e:BX (Aq a) (Aq b)= -1:=by unfold BX;exact if_pos (Ee (by decide) a2 b2 b3 (by omega))
  rw[e]at hq;exact zm (hq _)
 ·have d:=of_decide_eq_false d;have c:(a.length:Int)≠b.length:=by simpa using c
  have:=Ee (b:=ze) (by decide) b2 a2 a3 (by omega);have e:BX (Aq a) (Aq b)=1:=by
   unfold BX Aq;rw[if_neg (by omega),if_pos (by omega)]
  rw[e]at hq;exact zm (hq _)
 ·have c:(a.length:Int)=b.length:=by simpa using c
  rw[wr _ (by omega) (by omega)];exact Aj a b a2 b2 (by omega) b1 hq a.length (by omega) (by rw[yC,yI (by omega)])
end T170
theorem Xc{x y o c:Int}(hx:0≤x∧x<1000000000)(hy:0≤y∧y<1000000000)(ho:0≤o∧o<1000000000)(hc:0≤c∧c<1000000000):
  zf .i64 (zf .i64 (o+zf .i64 (x*y))+c)=o+x*y+c∧yv (o+x*y+c) 1000000000=(o+x*y+c) % 1000000000∧zf .i64 (zS (o+x*y+c) 1000000000)=(o+x*y+c)/1000000000∧
  (0≤(o+x*y+c)/1000000000∧(o+x*y+c)/1000000000<1000000000)∧(0≤(o+x*y+c) % 1000000000∧(o+x*y+c) % 1000000000<1000000000):=by
 have h0:0≤x*y:=zF hx.1 hy.1;have h1:x*y≤999999999*999999999:=by
  have a:=zh (show y≤999999999 by omega) hx.1;have b:=zk (show x≤999999999 by omega) (show(0:Int)≤999999999 by omega);omega
 generalize x*y=P at*;have e1:zf .i64 P=P:=wr _ (by omega) (by omega);have e2:zf .i64 (o+P)=o+P:=wr _ (by omega) (by omega);have e3:zS (o+P+c) 1000000000=(o+P+c)/1000000000:=zt (by omega);refine⟨?_,zy (by omega),?_,by omega,by omega⟩
 ·rw[e1,e2];exact wr _ (by omega) (by omega)
 ·rw[e3];exact wr _ (by omega) (by omega)
namespace T172
variable {Q:PV→Ob→Prop}
theorem AS(x y:List Int)(n i:Nat)(hi:i<x.length)(hn:n=x.length+y.length)(hx9:x.length≤9000)(hy9:y.length≤9000)(hx:Av ze x)(hy:Av ze y)(p:List Int)(hp:p.length=i+y.length)(hdp:Av ze p)
  (hq:∀q c,q.length=i+y.length→Av ze q→(0≤c∧c<1000000000)→zc ze q+(ze:Int)^(i+y.length)*c=zc ze p+(ze:Int)^i*(x.getD i 0*zc ze y)→Ends UT (L1 x y n ((i+1:Nat):Int) ((q++[c])++zj (n-(i+y.length+1)) 0)) Q):∀(k j:Nat) (q:List Int) (c:Int),j+k=y.length→q.length=i+j→Av ze q→(0≤c∧c<1000000000)→zc ze q+(ze:Int)^(i+j)*c=zc ze (p.take (i+j))+(ze:Int)^i*(x.getD i 0*zc ze (y.take j))→
  Ends UT (L2 x y n i c j (q++(p.drop (i+j)++zj (n-(i+y.length)) 0))) Q
 |0,j,q,c,hj,hl,hd,hc,he=>by
  have hj:j=y.length:=by omega
  subst hj;have e1:zf .i64 ((i:Int)+(y.length:Int))=((i+y.length:Nat):Int):=by rw[wr _ (by omega) (by omega)];omega
  have e2:zf .i64 ((i:Int)+1)=((i+1:Nat):Int):=by rw[wr _ (by omega) (by omega)];omega
  have ed:p.drop (i+y.length)=[]:=yI (by omega);have eg:(q++zj (n-(i+y.length)) (0:Int)).getD (i+y.length) 0=0:=by
   have:n-(i+y.length)=(n-(i+y.length+1))+1:=by omega
   rw[this,List.replicate_succ];exact Dq _ _ _ _ hl
  refine zq (A1 ..) (zD (by simp) ?_);rw[e1,e2,zg,ed,yp,eg,Int.zero_add,wr c (by omega) (by omega),IQ q n _ c hl (by omega)];refine zd (by simp;omega) (zd (by simp;omega) (zd (by simp;omega) (zd (by simp;omega) (hq q c hl hd hc ?_))));rw[he,zn (by omega),ya]
 |k+1,j,q,c,hj,hl,hd,hc,he=>by
  have gx:=FX hx i;have gy:=FX hy j;have gp:=FX hdp (i+j);have ep:p.drop (i+j)=p.getD (i+j) 0::p.drop (i+j+1):=B3 (by omega);have e1:zf .i64 ((i:Int)+(j:Int))=((i+j:Nat):Int):=by rw[wr _ (by omega) (by omega)];omega
  have e2:zf .i64 ((j:Int)+1)=((j+1:Nat):Int):=by rw[wr _ (by omega) (by omega)];omega
  have lo:(q++(p.drop (i+j)++zj (n-(i+y.length)) (0:Int))).length=n:=by simp;omega
  have g1:(q++(p.drop (i+j)++zj (n-(i+y.length)) (0:Int))).getD (i+j) 0=p.getD (i+j) 0:=by
   rw[ep,List.cons_append];exact Dq _ _ _ _ hl
  have s1:∀z,(q++(p.drop (i+j)++zj (n-(i+y.length)) (0:Int))).set (i+j) z=(q++[z])++(p.drop (i+(j+1))++zj (n-(i+y.length)) 0):=by
   intro z;rw[ep,List.cons_append,C5 _ _ _ _ hl,zB];rfl
  obtain⟨m1,m2,m3,m4,m5⟩:=Xc gx gy gp hc;refine zq (A1 ..) (zd (by simp;omega) ?_);rw[e1,e2,zg,zg,zg,g1,m1,m2,m3,s1];have t1:(decide ((0:Int)≤((i+j:Nat):Int))&&decide (((i+j:Nat):Int)<(n:Int)))=true:=by simp;omega
  refine zd t1 (zd (decide_eq_true (by rw[lo];omega)) (zd (by simp;omega) (zd (by simp;omega) (zd rfl (zd t1 (zd (decide_eq_true (by rw[lo];omega)) (zd rfl ?_)))))));refine AS x y n i hi hn hx9 hy9 hx hy p hp hdp hq k (j+1) _ _ (by omega) (by simp;omega) (ER hd m5) m4 ?_;have ea:i+(j+1)=(i+j)+1:=by omega
  have eb:(ze:Int)^i*(x.getD i 0*((ze:Int)^j*y.getD j 0))=(ze:Int)^(i+j)*(x.getD i 0*y.getD j 0):=by
   rw[yL,zH,zE (x.getD i 0)]
  have e6:(p.getD (i+j) 0+x.getD i 0*y.getD j 0+c) % 1000000000+1000000000*((p.getD (i+j) 0+x.getD i 0*y.getD j 0+c)/1000000000)=x.getD i 0*y.getD j 0+p.getD (i+j) 0+c:=by
   generalize x.getD i 0*y.getD j 0=P;omega
  rw[ea,B6,hl,Jl,yy, ←zr,e6,AF _ p (i+j),AF _ y j,zr,zr,zr (x.getD i 0),zr,eb];omega
theorem Aj(x y:List Int)(n:Nat)(hn:n=x.length+y.length)(hx9:x.length≤9000)(hy9:y.length≤9000)(hx:Av ze x)(hy:Av ze y)(hq:∀ob,Q (.dat li (BN (Aq x*Aq y))) ob):∀(k i:Nat) (p:List Int),i+k=x.length→p.length=i+y.length→Av ze p→zc ze p=zc ze (x.take i)*zc ze y→
  Ends UT (L1 x y n i (p++zj (n-(i+y.length)) 0)) Q
 |0,i,p,hi,hp,hd,he=>by
  have hi:i=x.length:=by omega
  subst hi;have ez:p++zj (n-(x.length+y.length)) (0:Int)=p:=by rw[hn,Nat.sub_self];simp
  have hv:Aq p=Aq x*Aq y:=by
   rw[ya]at he;exact he
  rw[ez];refine zq (Ar ..) (zD (by simp) ?_);rw[zn (by omega)];refine zd ?_ (zm ?_)
  ·simp;omega
  ·rw[Fj hd,hv];exact hq _
 |k+1,i,p,hi,hp,hd,he=>by
  refine zq (Ar ..) (zd (by simp;omega) ?_);have:=AS (Q:=Q) x y n i (by omega) hn hx9 hy9 hx hy p hp hd (fun q c hl hdq hc hv=>by
   have:=Aj x y n hn hx9 hy9 hx hy hq k (i+1) (q++[c]) (by omega) (by simp;omega) (ER hdq hc) (by
    rw[B6,hl,hv,he,AF,Int.add_mul,zH])
   rw[show i+1+y.length=i+y.length+1 by omega]at this;exact this) y.length 0 (p.take i) 0 (by omega) (by simp;omega) (AM hd i) (by decide) (by simp[zc])
  rw[Nat.add_zero, ←zB,zV]at this;exact this
theorem ok:Ae AV 172 W2:=by
 refine AB (X:=UT) rfl QH (d:=9) (by kernel_rfl) (by kernel_rfl) (by kernel_rfl) (fun(i:List Int×List Int) hi=>?_) (Ad (by kernel_rfl));obtain⟨x,y⟩:=i;have hi:(Sp.hR x&&Sp.hR y)=true:=hi;rw[zi]at hi;obtain⟨x1,x2⟩:=nL hi.1;obtain⟨y1,y2⟩:=nL hi.2;have e1:zf .i64 ((x.length:Int)+(y.length:Int))=((x.length+y.length:Nat):Int):=by rw[wr _ (by omega) (by omega)];omega
 refine zU (An x y) ?_;conv=>zeta
 rw[e1,zg];refine zd (by simp;omega) ?_;have:=Aj (Q:=Af W2 (x,y)) x y (x.length+y.length) rfl x1 y1 x2 y2 (fun ob=>z7 rfl rfl rfl) x.length 0 (zj y.length 0) (by omega) (by simp) (fun d hd=>by rw[(List.mem_replicate.1 hd).2];decide) (by rw[Lz];simp[zc]);rw[yP,List.replicate_append_replicate,show y.length+(x.length+y.length-y.length)=x.length+y.length by omega]at this;exact this
end T172
theorem Yn{r x d:Int}(hd:0<d∧d<1000000000)(hr:0≤r∧r<d)(hx:0≤x∧x<1000000000):
  zf .i64 (zf .i64 (r*1000000000)+x)=r*1000000000+x∧zf .i64 (zS (r*1000000000+x) d)=(r*1000000000+x)/d∧yv (r*1000000000+x) d=(r*1000000000+x) % d∧
  (0≤(r*1000000000+x)/d∧(r*1000000000+x)/d<1000000000)∧(0≤(r*1000000000+x) % d∧(r*1000000000+x) % d<d)∧(r*1000000000+x)/d*d+(r*1000000000+x) % d=r*1000000000+x:=by
 have h:=zO (r*1000000000+x) d;rw[zw]at h;have q0:0≤(r*1000000000+x)/d:=ym (by omega) (by omega);have q1:(r*1000000000+x)/d<1000000000:=yg hd.1 (by omega);refine⟨?_,?_,zy (by omega),⟨q0,q1⟩,⟨zP _ (by omega),zM _ hd.1⟩,h⟩
 ·rw[wr (r*1000000000) (by omega) (by omega)];exact wr _ (by omega) (by omega)
 ·rw[zt (by omega)];exact wr _ (by omega) (by omega)
namespace T226
variable {Q:PV→Ob→Prop}
theorem Aj(a:List Int)(d:Int)(ha:Av ze a)(hd:0<d∧d<1000000000)(hm:a.length≤20000)(hq:∀q r ob,Av ze q→(0≤r∧r<d)→Aq a=Aq q*d+r→Q (.tup [.dat li (Au q),.dat i64 r]) ob):∀(i:Nat) (q:List Int) (r:Int),i+q.length=a.length→Av ze q→(0≤r∧r<d)→zc ze (a.drop i)=zc ze q*d+r→
  Ends UT (L1 a d a.length r ((i:Int)-1) (zj i 0++q)) Q
 |0,q,r,hl,hdq,hr,he=>by
  have ht:((zj 0 0++q).take a.length)=q:=by
   rw[List.replicate_zero,yp];exact zn (by omega)
  refine zq (Ar ..) (zD (by simp) ?_);rw[ht];refine zd (Aa (by simp;omega) (decide_eq_true (by omega))) (zm (hq q r _ hdq hr he))
 |i+1,q,r,hl,hdq,hr,he=>by
  have e1:(((i+1:Nat):Int)-1)=(i:Int):=by omega
  have gx:=FX ha i;obtain⟨d1,d2,d3,d4,d5,d6⟩:=Yn hd hr gx;have da:a.drop i=a.getD i 0::a.drop (i+1):=B3 (by omega);have es:∀x,(zj (i+1) (0:Int)++q).set i x=zj i 0++(x::q):=by
   intro x;rw[yj,zB];exact C5 _ _ _ _ (by simp)
  rw[e1];refine zq (Ar ..) (zd (by simp) ?_);rw[zg,es,wr ((i:Int)-1) (by omega) (by omega),d1,d2,d3];refine zd (by simp;omega) (zd (decide_eq_true (by omega)) (zd (by simp;omega) (zd (by simp;omega) (zd (decide_eq_true (by omega)) ?_))));refine Aj a d ha hd hm hq i _ _ (by simp;omega) (fun x hx=>?_) d5 ?_
  ·rcases yi.1 hx with rfl|hx
   ·exact d4
   ·exact hdq x hx
  ·rw[da];show a.getD i 0+(1000000000:Int)*zc ze (a.drop (i+1))=((r*1000000000+a.getD i 0)/d+(1000000000:Int)*zc ze q)*d+(r*1000000000+a.getD i 0) % d;rw[he,Int.add_mul,zr,zH];omega
theorem ok:Ae AV 226 UI:=by
 refine AB (X:=UT) rfl QH (d:=9) (by kernel_rfl) (by kernel_rfl) (by kernel_rfl) (fun(i:List Int×Int) hi=>?_) (Ad (by kernel_rfl));obtain⟨a,d⟩:=i;have hi:(Jk a&&decide (0<d)&&decide (d<1000000000))=true:=hi;rw[zi,zi,decide_eq_true_eq,decide_eq_true_eq]at hi;obtain⟨⟨ha,d0⟩,d1⟩:=hi;obtain⟨hl,hda⟩:=N3 ha;refine zU (An a d) ?_;conv=>zeta
 rw[zg,wr ((a.length:Int)-1) (by omega) (by omega)];refine zd (by simp;omega) ?_;have:=Aj (Q:=Af UI (a,d)) a d hda ⟨d0,d1⟩ hl (fun q r ob hq hr he=>?_) a.length [] 0 (by simp) (fun x hx=>by cases hx) ⟨yx _,d0⟩ (by rw[yC];simp[zc])
 ·rw[yn]at this;exact this
 ·refine z7 rfl rfl ?_;show(Au q,r)=(BN (Aq a/d),Aq a % d);obtain⟨u1,u2⟩:=(zQ (a:=Aq a) (b:=d) (r:=r) (q:=Aq q) d0).2 ⟨by rw[zw d];omega,hr.1,hr.2⟩;rw[Fj hq,u1,u2]
end T226
end Go.Pe
end
section
namespace Go.Pe
open Sp
open Go.Det
theorem gD:∀g sp,KW.sp g=some sp→Ae AV g sp:=
 Ac T170.ok (Ac T227.ok (Ac T226.ok (Ac T172.ok (fun g sp h=>by cases h))))
theorem RI{t x y w:Int}(ht:0≤t∧t<1000000000)(hx:0≤x∧x<1000000000)(hy:0≤y∧y<1000000000)(hw:0≤w∧w≤1000000000):
  zf .i64 (zf .i64 (t*x)+w)=t*x+w∧yv (t*x+w) 1000000000=(t*x+w) % 1000000000∧zf .i64 (zS (t*x+w) 1000000000)=(t*x+w)/1000000000∧
  zf .i64 ((t*x+w)/1000000000+1)=(t*x+w)/1000000000+1∧zf .i64 (y-(t*x+w) % 1000000000)=y-(t*x+w) % 1000000000∧(0≤(t*x+w)/1000000000∧(t*x+w)/1000000000<1000000000)∧(0≤(t*x+w) % 1000000000∧(t*x+w) % 1000000000<1000000000):=by
 have h0:0≤t*x:=zF ht.1 hx.1;have h1:t*x≤999999999*999999999:=by
  have a:=zh (show x≤999999999 by omega) ht.1;have b:=zk (show t≤999999999 by omega) (show(0:Int)≤999999999 by omega);omega
 generalize t*x=P at*;have e1:zf .i64 P=P:=wr _ (by omega) (by omega);have e3:zS (P+w) 1000000000=(P+w)/1000000000:=zt (by omega);refine⟨?_,zy (by omega),?_,wr _ (by omega) (by omega),wr _ (by omega) (by omega),by omega,by omega⟩
 ·rw[e1];exact wr _ (by omega) (by omega)
 ·rw[e3];exact wr _ (by omega) (by omega)
theorem Xo(w r:List Int)(i:Nat)(h:i<w.length):(w++r).getD i 0=w.getD i 0:=by
 rw[zN,zN,List.getElem?_append_left h]
namespace T164
variable {Q:PV→Ob→Prop}
theorem gW{lo w z:List Int}{h:Int}{j i:Nat}(hlo:lo.length=j)(hi:i<w.length):(lo++(w++h::z)).getD (i+j) 0=w.getD i 0:=by
 rw[Gi _ _ _ _ hlo,Xo _ _ _ hi]
theorem sW{lo w z:List Int}{h:Int}{j i:Nat}(x:Int)(hlo:lo.length=j)(hi:i<w.length):(lo++(w++h::z)).set (i+j) x=lo++(w.set i x++h::z):=by
 rw[Qs _ _ _ _ _ hlo,List.set_append_left _ _ hi]
theorem gH{lo w z:List Int}{h:Int}{j n:Nat}(hlo:lo.length=j)(hn:w.length=n):(lo++(w++h::z)).getD (n+j) 0=h:=by
 rw[Gi _ _ _ _ hlo];exact Dq _ _ _ _ hn
theorem sH{lo w z:List Int}{h:Int}{j n:Nat}(x:Int)(hlo:lo.length=j)(hn:w.length=n):(lo++(w++h::z)).set (n+j) x=lo++(w++x::z):=by
 rw[Qs _ _ _ _ _ hlo];congr 1;exact C5 _ _ _ _ hn
theorem MI(w z:List Int)(h:Int)(hz:zc ze z=0):zc ze (w++h::z)=zc ze w+(ze:Int)^w.length*h:=by
 rw[CF];show _+_*(h+(ze:Int)*zc ze z)=_;rw[hz,z8,yq]
theorem Ck(v8n v11n v12n:Nat)(o2 o0 v lo z:List Int)(n j:Nat)(t h' X:Int)(hn:v.length=n)(hn9:n≤9000)(hlo:lo.length=j)(hj:j≤9000)(h11:n+j<v11n)(hjv:j<v12n)(hj1:j<o2.length)(hv:Av ze v)(hz:zc ze z=0)(hdz:Av ze z)(hh: -2000000000≤h'∧h'≤2000000000)
  (hX:0≤X∧X<(ze:Int)^n) (hlen:v11n=j+n+1+z.length)
  (hfin:∀r:List Int,r.length=n+1+z.length→Av ze r→zc ze r=X→Ends KW (L2 v8n v n v11n v12n (zf .i64 ((j:Int)-1)) (o2.set j t) (lo++r) o0) Q):
  ∀(k i:Nat) (w:List Int) (c:Int),i+k=n→w.length=n→Av ze w→(0≤c∧c≤1)→zc ze w+(ze:Int)^n*h'=X-zc ze v+zc ze (v.take i)-(ze:Int)^i*c→
   Ends KW (L5 v8n v n v11n v12n j t c i o2 (lo++(w++h'::z)) o0) Q
 |0,i,w,c,hi,hw,hd,hc,he=>by
  have hi:i=n:=by omega
  subst hi;have e1:zf .i64 ((j:Int)+(i:Int))=((i+j:Nat):Int):=by rw[wr _ (by omega) (by omega)];omega
  have hv1:v.take i=v:=zn (by omega);rw[hv1]at he;have a1:=Az (b:=ze) (by decide) hd;have a2:=Bo (b:=ze) (by decide) hd;rw[hw]at a2;have hp:=AN (b:=ze) (by decide) i;have e5:zc ze w+(ze:Int)^i*(h'+c)=X:=by rw[zr];omega
  have hzero:h'+c=0:=by
   rcases Int.lt_trichotomy (h'+c) 0 with g|g|g
   ·have:=zh (show h'+c≤ -1 by omega) (zo hp);rw[yN,zT]at this;omega
   ·exact g
   ·have:=zh (show 1≤h'+c by omega) (zo hp);rw[zT]at this;omega
  have hll:i+j<(lo++(w++h'::z)).length:=by simp;omega
  refine zq (Gy ..) (zD (by simp) ?_);rw[e1,zg,zg,gH hlo hw,sH _ hlo hw,wr (h'+c) (by omega) (by omega),hzero];have t1:(decide ((0:Int)≤((i+j:Nat):Int))&&decide (((i+j:Nat):Int)<(v11n:Int)))=true:=by simp;omega
  refine zd t1 (zd (decide_eq_true hll) (zd t1 (zd (decide_eq_true hll) (zd (by simp;omega) (zd (decide_eq_true hj1) (hfin _ (by simp;omega) (EH hd (fun d hd'=>?_)) ?_))))))
  ·rcases yi.1 hd' with rfl|hd'
   ·decide
   ·exact hdz d hd'
  ·rw[MI _ _ _ hz,hw, ←e5,hzero]
 |k+1,i,w,c,hi,hw,hd,hc,he=>by
  have gx:=FX hv i;have gy:=FX hd i;have e1:zf .i64 ((i:Int)+(j:Int))=((i+j:Nat):Int):=by rw[wr _ (by omega) (by omega)];omega
  have e2:zf .i64 ((i:Int)+1)=((i+1:Nat):Int):=by rw[wr _ (by omega) (by omega)];omega
  have e3:zf .i64 (zf .i64 (w.getD i 0+v.getD i 0)+c)=w.getD i 0+v.getD i 0+c:=by
   rw[wr (w.getD i 0+v.getD i 0) (by omega) (by omega)];exact wr _ (by omega) (by omega)
  have e4:yv (w.getD i 0+v.getD i 0+c) 1000000000=(w.getD i 0+v.getD i 0+c) % 1000000000:=zy (by omega);have e5:zf .i64 (zS (w.getD i 0+v.getD i 0+c) 1000000000)=(w.getD i 0+v.getD i 0+c)/1000000000:=by
   rw[zt (by omega)];exact wr _ (by omega) (by omega)
  have hll:i+j<(lo++(w++h'::z)).length:=by simp;omega
  refine zq (Gy ..) (zd (by simp;omega) ?_);rw[e1,e2,zg,zg,gW hlo (by omega),sW _ hlo (by omega),e3,e4,e5];have t1:(decide ((0:Int)≤((i+j:Nat):Int))&&decide (((i+j:Nat):Int)<(v11n:Int)))=true:=by simp;omega
  refine zd t1 (zd (decide_eq_true hll) (zd (by simp;omega) (zd rfl (zd t1 (zd (decide_eq_true hll) (zd rfl ?_))))));refine Ck v8n v11n v12n o2 o0 v lo z n j t h' X hn hn9 hlo hj h11 hjv hj1 hv hz hdz hh hX hlen hfin k (i+1) _ _ (by omega) (by simp[hw]) (Gs hd i (by show 0≤_∧_<(1000000000:Int);omega)) (by omega) ?_;rw[G2 _ _ _ _ (by omega),Jl,AF];have e6:(ze:Int)^i*((w.getD i 0+v.getD i 0+c) % 1000000000-w.getD i 0)=(ze:Int)^i*v.getD i 0+(ze:Int)^i*c-(ze:Int)^i*(1000000000*((w.getD i 0+v.getD i 0+c)/1000000000)):=by
   rw[←zr, ←zX];congr 1;omega
  omega
theorem BR(v8n v11n v12n:Nat)(o2 o0 v lo z:List Int)(n j:Nat)(t h W:Int)(hn:v.length=n)(hn9:n≤9000)(hlo:lo.length=j)(hj:j≤9000)(h11:n+j<v11n)(hjv:j<v12n)(hj1:j<o2.length)(hv:Av ze v)(hh:0≤h∧h<1000000000)(hlen:v11n=j+n+1+z.length)(ht:0≤t∧t<1000000000)
  (h0:∀(w:List Int) (h':Int),w.length=n→Av ze w→0≤h'→zc ze w+(ze:Int)^n*h'=W-t*zc ze v→Ends KW (L2 v8n v n v11n v12n (zf .i64 ((j:Int)-1)) (o2.set j t) (lo++(w++h'::z)) o0) Q)
  (h1:∀(w:List Int) (h':Int),w.length=n→Av ze w→h'<0→ -2000000000≤h'→zc ze w+(ze:Int)^n*h'=W-t*zc ze v→Ends KW (L5 v8n v n v11n v12n j (zf .i64 (t-1)) 0 0 o2 (lo++(w++h'::z)) o0) Q):
  ∀(k i:Nat) (w:List Int) (c:Int),i+k=n→w.length=n→Av ze w→(0≤c∧c≤1000000000)→zc ze w+(ze:Int)^n*h=W-t*zc ze (v.take i)+(ze:Int)^i*c→
   Ends KW (L4 v8n v n v11n v12n j t c i o2 (lo++(w++h::z)) o0) Q
 |0,i,w,c,hi,hw,hd,hc,he=>by
  have hi:i=n:=by omega
  subst hi;have e1:zf .i64 ((j:Int)+(i:Int))=((i+j:Nat):Int):=by rw[wr _ (by omega) (by omega)];omega
  have hv1:v.take i=v:=zn (by omega);rw[hv1]at he;have hll:i+j<(lo++(w++h::z)).length:=by simp;omega
  have hll2:i+j<(lo++(w++(h-c)::z)).length:=by simp;omega
  have e5:zc ze w+(ze:Int)^i*(h-c)=W-t*zc ze v:=by rw[zX];omega
  refine zq (Dm ..) (zD (by simp) ?_);rw[e1,zg,zg,gH hlo hw,wr (h-c) (by omega) (by omega),sH _ hlo hw,gH hlo hw];have t1:(decide ((0:Int)≤((i+j:Nat):Int))&&decide (((i+j:Nat):Int)<(v11n:Int)))=true:=by simp;omega
  refine zd t1 (zd (decide_eq_true hll) (zd t1 (zd (decide_eq_true hll) (zd t1 (zd (decide_eq_true hll2) (zp (fun d=>?_) (fun d=>?_)))))))
  ·have d:=of_decide_eq_true d;exact h1 w (h-c) hw hd d (by omega) e5
  ·have d:=of_decide_eq_false d;exact zd (by simp;omega) (zd (decide_eq_true hj1) (h0 w (h-c) hw hd (by omega) e5))
 |k+1,i,w,c,hi,hw,hd,hc,he=>by
  have gx:=FX hv i;have gy:=FX hd i;obtain⟨m1,m2,m3,m4,m5,m6,m7⟩:=RI ht gx gy hc;have e1:zf .i64 ((i:Int)+(j:Int))=((i+j:Nat):Int):=by rw[wr _ (by omega) (by omega)];omega
  have e2:zf .i64 ((i:Int)+1)=((i+1:Nat):Int):=by rw[wr _ (by omega) (by omega)];omega
  have hll:i+j<(lo++(w++h::z)).length:=by simp;omega
  have t1:(decide ((0:Int)≤((i+j:Nat):Int))&&decide (((i+j:Nat):Int)<(v11n:Int)))=true:=by simp;omega
  have go:∀(x c':Int),(0≤x∧x<1000000000)→(0≤c'∧c'≤1000000000)→c+(x-w.getD i 0)=1000000000*c'-t*v.getD i 0→Ends KW (L4 v8n v n v11n v12n j t c' ((i+1:Nat):Int) o2 (lo++(w.set i x++h::z)) o0) Q:=by
   intro x c' hx hc' hxc;refine BR v8n v11n v12n o2 o0 v lo z n j t h W hn hn9 hlo hj h11 hjv hj1 hv hh hlen ht h0 h1 k (i+1) _ _ (by omega) (by simp[hw]) (Gs hd i hx) hc' ?_;rw[G2 _ _ _ _ (by omega),Jl,AF,zr t,zE t];have e6:(ze:Int)^i*c+(ze:Int)^i*(x-w.getD i 0)=(ze:Int)^i*(1000000000*c')-(ze:Int)^i*(t*v.getD i 0):=by
    rw[←zr, ←zX,hxc]
   omega
  refine zq (Dm ..) (zd (by simp;omega) ?_);rw[e1,e2,zg,zg,gW hlo (by omega),m1,m2,m3,m4,m5,sW _ hlo (by omega),sW _ hlo (by omega)];refine zd (by simp;omega) (zd t1 (zd (decide_eq_true hll) (zd rfl (zd rfl (zp (fun d=>?_) (fun d=>?_))))))
  ·have d:=of_decide_eq_true d;rw[wr (w.getD i 0-(t*v.getD i 0+c) % 1000000000+1000000000) (by omega) (by omega)];refine zd t1 (zd (decide_eq_true hll) (go _ _ (by omega) (by omega) ?_));generalize t*v.getD i 0=P at*;omega
  ·have d:=of_decide_eq_false d;refine zd t1 (zd (decide_eq_true hll) (go _ _ (by omega) (by omega) ?_));generalize t*v.getD i 0=P at*;omega
theorem jD(v8n v11n v12n:Nat)(o2 o0 v lo r0:List Int)(n j:Nat)(hn:v.length=n)(hn9:n≤9000)(hlo:lo.length=j)(hj:j≤9000)(hr:n+1≤r0.length)(hlen:v11n=j+r0.length)(hjv:j<v12n)(hj1:j<o2.length)(hv:Av ze v)(hd:Av ze r0)(hz:zc ze (r0.drop (n+1))=0)
  (hfin:∀(q:Int) (r:List Int),r.length=r0.length→Av ze r→(0≤q∧q<1000000000)→zc ze r<zc ze v→zc ze r=zc ze r0-q*zc ze v→Ends KW (L2 v8n v n v11n v12n (zf .i64 ((j:Int)-1)) (o2.set j q) (lo++r) o0) Q)
  (q:Int) (hq:0≤q∧q<1000000000) (h1:zc ze r0<(q+1)*zc ze v) (h2:q*zc ze v<zc ze r0+zc ze v):
  Ends KW (L4 v8n v n v11n v12n j q 0 0 o2 (lo++r0) o0) Q:=by
 have hdec:r0=r0.take n++r0.getD n 0::r0.drop (n+1):=by
  rw[←B3 (by omega)];exact(zV n r0).symm
 have gh:=FX hd n;have hdw:=AM hd n;have hdz:=Eb hd (n+1);have hlw:(r0.take n).length=n:=by rw[zA];omega
 have hlz:(r0.drop (n+1)).length=r0.length-(n+1):=yh ..;have hW:zc ze r0=zc ze (r0.take n)+(ze:Int)^n*r0.getD n 0:=by
  conv=>lhs;rw[hdec]
  rw[MI _ _ _ hz,hlw]
 have hVlt:=Bo (b:=ze) (by decide) hv;rw[hn]at hVlt;have hV0:=Az (b:=ze) (by decide) hv;have hW0:=Az (b:=ze) (by decide) hd;have hp:=AN (b:=ze) (by decide) n;rw[Int.add_mul,zL]at h1;rw[hdec];refine BR v8n v11n v12n o2 o0 v lo (r0.drop (n+1)) n j q (r0.getD n 0) (zc ze r0) hn hn9 hlo hj (by omega) hjv hj1 hv gh (by omega) hq (fun w h' a b c d=>?_) (fun w h' a b c c2 d=>?_) n 0 (r0.take n) 0 (by omega) hlw hdw (by decide) (by rw[←hW];simp[zc])
 ·have b0:=Az (b:=ze) (by decide) b;have hz':h'=0:=by
   rcases zG 0 h' with g|g
   ·have:=zh (show 1≤h' by omega) (zo hp);omega
   ·omega
  refine hfin q _ (by simp;omega) (EH b (fun x hx=>?_)) hq ?_ ?_
  ·rcases yi.1 hx with rfl|hx
   ·rw[hz'];decide
   ·exact hdz x hx
  ·rw[MI _ _ _ hz,a,d];omega
  ·rw[MI _ _ _ hz,a,d]
 ·have b0:=Bo (b:=ze) (by decide) b;rw[a]at b0;have hneg:zc ze r0-q*zc ze v<0:=by
   have:=zh (show h'≤ -1 by omega) (zo hp);rw[yN,zT]at this;omega
  have hq1:1≤q:=by
   rcases zG 0 q with g|g
   ·exact g
   ·have:q=0:=by omega
    subst this;rw[yE]at hneg;omega
  rw[wr (q-1) (by omega) (by omega)];refine Ck v8n v11n v12n o2 o0 v lo (r0.drop (n+1)) n j (q-1) h' (zc ze r0-q*zc ze v+zc ze v) hn hn9 hlo hj (by omega) hjv hj1 hv hz hdz (by omega) (by omega) (by omega) (fun r a' b' d'=>?_) n 0 w 0 (by omega) a b (by decide) (by rw[d];simp[zc]<;>omega);refine hfin (q-1) r (by omega) b' (by omega) (by omega) ?_;rw[d',yK,zL];omega
theorem Cs(v8n v11n v12n:Nat)(o2 o0 v lo r0:List Int)(a2 a1 a0:List Int)(k j:Nat)(hn:v.length=k+2)(hn9:k+2≤9000)(hlo:lo.length=j)(hj:j≤9000)(hr:k+3≤r0.length)(hlen:v11n=j+r0.length)(hjv:j<v12n)(hj1:j<o2.length)(hv:Av ze v)(hd:Av ze r0)(hz:zc ze (r0.drop (k+3))=0)(hv1:1≤v.getD (k+1) 0)
  (hle:r0.getD (k+2) 0≤v.getD (k+1) 0) (hBV:zc ze r0<1000000000*zc ze v)
  (hfin:∀(q:Int) (r:List Int),r.length=r0.length→Av ze r→(0≤q∧q<1000000000)→zc ze r<zc ze v→zc ze r=zc ze r0-q*zc ze v→Ends KW (L2 v8n v ((k+2:Nat):Int) v11n v12n (zf .i64 ((j:Int)-1)) (o2.set j q) (lo++r) o0) Q):
  ∀(f:Nat) (q r:Int),0≤q→q<f→q≤2000000000000000000→(0≤r∧r<1000000000)→q*v.getD (k+1) 0+r=r0.getD (k+2) 0*1000000000+r0.getD (k+1) 0→zc ze r0<(q+1)*zc ze v→
   Ends KW (L3 v8n v ((k+2:Nat):Int) v11n v12n j a2 a1 a0 v11n v j ((k+2:Nat):Int) q r o2 (lo++r0) o0) Q
 |0,q,r,h0,hf,_,_,_,_=>by omega
 |f+1,q,r,h0,hf,hmax,hr1,he,hup=>by
  have gv2:=FX hv k;have gv1:=FX hv (k+1);have gu2:=FX hd k;have gu1:=FX hd (k+1);have hP:=AN (b:=ze) (by decide) k;have hW:=kA ze r0 k (by omega) hz;have hV:=fR ze v k hn;have hu':=Az (b:=ze) (by decide) (AM hd k);have hu'':=Bo (b:=ze) (by decide) (AM hd k);have hv':=Az (b:=ze) (by decide) (AM hv k);have hv'':=Bo (b:=ze) (by decide) (AM hv k);have hV0:=Az (b:=ze) (by decide) hv;rw[zA,zI (by omega)]at hu'' hv'';have exit:∀q R:Int,0≤q→q<1000000000→q*v.getD (k+1) 0+R=r0.getD (k+2) 0*1000000000+r0.getD (k+1) 0→zc ze r0<(q+1)*zc ze v→q*v.getD k 0≤R*1000000000+r0.getD k 0→Ends KW (L4 v8n v ((k+2:Nat):Int) v11n v12n j q 0 0 o2 (lo++r0) o0) Q:=by
   intro q R q0 q1 hqe hqu hx;refine jD v8n v11n v12n o2 o0 v lo r0 (k+2) j hn hn9 hlo hj hr hlen hjv hj1 hv hd hz hfin q ⟨q0,q1⟩ hqu ?_;rw[hW,hV];exact SS hP ⟨hv',hv''⟩ hu' ⟨q0,q1⟩ hv1 gv2.1 hqe hx
  have e1:zf .i64 (((k+2:Nat):Int)-2)=(k:Int):=by rw[wr _ (by omega) (by omega)];omega
  have e2:zf .i64 (((k+2:Nat):Int)-1)=((k+1:Nat):Int):=by rw[wr _ (by omega) (by omega)];omega
  have e3:zf .i64 (zf .i64 ((j:Int)+((k+2:Nat):Int))-2)=((k+j:Nat):Int):=by
   rw[wr ((j:Int)+((k+2:Nat):Int)) (by omega) (by omega),wr _ (by omega) (by omega)];omega
  have g3:(lo++r0).getD (k+j) 0=r0.getD k 0:=Gi _ _ _ _ hlo;have b1:(decide ((0:Int)≤((k+1:Nat):Int))&&decide (((k+1:Nat):Int)<(v.length:Int)))=true:=by simp;omega
  have dec:zc ze r0<q*zc ze v→Ends KW (.ite (decide (zf .i64 (r+v.getD (k+1) 0)≥(1000000000:Int))) (L4 v8n v ((k+2:Nat):Int) v11n v12n j (zf .i64 (q-1)) 0 0 o2 (lo++r0) o0) (L3 v8n v ((k+2:Nat):Int) v11n v12n j a2 a1 a0 v11n v j ((k+2:Nat):Int) (zf .i64 (q-1)) (zf .i64 (r+v.getD (k+1) 0)) o2 (lo++r0) o0)) Q:=by
   intro hx;have hW0:=Az (b:=ze) (by decide) hd;have hq1:1≤q:=by
    rcases zG 0 q with g|g
    ·exact g
    ·have:q=0:=by omega
     subst this;rw[yE]at hx;omega
   have he':(q-1)*v.getD (k+1) 0+(r+v.getD (k+1) 0)=r0.getD (k+2) 0*1000000000+r0.getD (k+1) 0:=by rw[yK,zL];omega
   have hup':zc ze r0<(q-1+1)*zc ze v:=by rw[show q-1+1=q by omega];exact hx
   rw[wr (q-1) (by omega) (by omega),wr (r+v.getD (k+1) 0) (by omega) (by omega)];refine zp (fun c=>?_) (fun c=>?_)
   ·have c:=of_decide_eq_true c;have hlt:q-1<1000000000:=by
     rcases zG (q-1) 1000000000 with g|g
     ·exact g
     ·have a:=zk g (show 0≤v.getD (k+1) 0 by omega);have b:=zk hle (show(0:Int)≤1000000000 by omega);omega
    refine exit (q-1) _ (by omega) hlt he' hup' ?_;have a:=zh (show v.getD k 0≤999999999 by omega) (show 0≤q-1 by omega);omega
   ·have c:=of_decide_eq_false c;exact Cs v8n v11n v12n o2 o0 v lo r0 a2 a1 a0 k j hn hn9 hlo hj hr hlen hjv hj1 hv hd hz hv1 hle hBV hfin f (q-1) _ (by omega) (by omega) (by omega) (by omega) he' hup'
  refine zq (CN ..) ?_;conv=>zeta
  rw[e1,e2,e3,zg,zg,zg,g3];refine zp (fun c=>zd b1 (dec ?_)) (fun c=>zd (by simp;omega) (zd (by simp;omega) (zd (by simp;omega) (zp (fun d=>zd b1 (dec ?_)) (fun d=>?_)))))
  ·have c:=of_decide_eq_true c;have:=zk c hV0;omega
  ·have c:=of_decide_eq_false c;have d:=of_decide_eq_true d;have a:=zh (show v.getD k 0≤999999999 by omega) h0;have b:=zF h0 gv2.1;rw[wr (q*v.getD k 0) (by omega) (by omega),wr (r*1000000000) (by omega) (by omega),wr _ (by omega) (by omega)]at d;have:=TN (B:=ze) (u0:=r0.getD (k+2) 0) (u1:=r0.getD (k+1) 0) (u2:=r0.getD k 0) hP hv' hu'' h0 (v1:=v.getD (k+1) 0) (v2:=v.getD k 0) (r:=r) he d;rw[←hW, ←hV]at this;exact this
  ·have c:=of_decide_eq_false c;have d:=of_decide_eq_false d;have a:=zh (show v.getD k 0≤999999999 by omega) h0;have b:=zF h0 gv2.1;rw[wr (q*v.getD k 0) (by omega) (by omega),wr (r*1000000000) (by omega) (by omega),wr _ (by omega) (by omega)]at d;exact exit q r h0 (by omega) he hup (by omega)
end T164
end Go.Pe
end
section
namespace Go.Pe
open Sp
open Go.Det
theorem FQ{w:List Int}(hd:Av ze w)(hn:Sp.nz w){k:Nat}(hl:w.length=k+1):0<w.getD k 0∧w.getD k 0<1000000000:=by
 have g:=FX hd k;refine⟨?_,g.2⟩;have e:w.getLast?=some (w.getD k 0):=by
  rw[yw,hl,yb,zN,yz (by omega)];rfl
 unfold Sp.nz at hn;rw[e]at hn;have:w.getD k 0≠0:=fun h=>hn (by rw[h])
 omega
theorem DT(d:Int):zc ze [d]=d:=by simp[zc]
namespace T164
variable {Q:PV→Ob→Prop}
theorem AS(v:List Int)(k la:Nat)(f:Int)(hf:0<f∧f<1000000000)(hn:v.length=k+2)(hla:la≤9000)(hkl:k+2≤la)(hv:Av ze v)(hv1:1≤v.getD (k+1) 0)(W0:Int)
  (hq:∀(u qs:List Int) ob,Av ze u→Av ze qs→zc ze u<zc ze v→W0=zc ze u+zc ze v*zc ze qs→Q (.tup [.dat li (Au qs),.dat li (BN (zc ze u/f))]) ob):
  ∀(t:Nat) (u qs:List Int),t+qs.length=la-(k+2)+1→u.length=la+1→Av ze u→Av ze qs→zc ze (u.drop t)<zc ze v→W0=zc ze u+zc ze v*((ze:Int)^t*zc ze qs)→
   Ends KW (L2 1 v ((k+2:Nat):Int) (la+1) (la-(k+2)+1) ((t:Int)-1) (zj t 0++qs) u [f]) Q
 |0,u,qs,hl,hu,hd,hdq,hlt,he=>by
  have hlt:zc ze u<zc ze v:=hlt;have hVlt:=Bo (b:=ze) (by decide) hv;rw[hn]at hVlt;have hz:zc ze (u.drop (k+2))=0:=I2 (b:=ze) (by decide) hd (by omega) (by omega);have hvu:zc ze (u.take (k+2))=zc ze u:=by
   rw[B7 ze u (k+2) (by omega),hz,z8,yq]
  have ht:(zj 0 0++qs).take (la-(k+2)+1)=qs:=by
   rw[List.replicate_zero,yp];exact zn (by omega)
  have htr:=G0 (AM hd (k+2));have hlr:(Au (u.take (k+2))).length≤9000:=by
   rw[Fj (AM hd (k+2))];refine Nat.le_trans (MV (k:=k+2) (Az (by decide) (AM hd (k+2))) ?_) (by omega);show zc ze (u.take (k+2))<_;rw[hvu];omega
  have e1:Aq (Au (u.take (k+2)))=zc ze u:=by
   show zc ze (Au _)=_;rw[IS,hvu]
  refine zq (A1 ..) (zD (by simp) ?_);rw[zg,ht,e1];refine zd (by simp;omega) (zd rfl (zd rfl (zd (by simp;omega) (zd (Aa (Aa (Kw (by omega) htr) (decide_eq_true hf.1)) (decide_eq_true hf.2)) (zd (by simp;omega) (zm (hq u qs _ hd hdq hlt (by rw[he,zJ,zL]))))))))
 |j+1,u,qs,hl,hu,hd,hdq,hlt,he=>by
  obtain⟨lo,r,rfl,hlo⟩:∃lo r:List Int,u=lo++r∧lo.length=j:=⟨u.take j,u.drop j,(zV j u).symm,by rw[zA];omega⟩;have hdlo:Av ze lo:=fun d hd'=>hd d (yk.2 (.inl hd'))
  have hdr:Av ze r:=fun d hd'=>hd d (yk.2 (.inr hd'))
  have hrl:r.length=la+1-j:=by rw[yr]at hu;omega
  have hdrop:∀z:List Int,(lo++z).drop j=z:=fun z=>by rw[←hlo];exact List.drop_left
  have hr0:r=r.getD 0 0::r.drop 1:=by
   have:=B3 (l:=r) (i:=0) (by omega);rw[List.drop_zero]at this;exact this
  have hd1:(lo++r).drop (j+1)=r.drop 1:=by rw[yF j 1,yF 1 j, ←yt,hdrop]
  rw[hd1]at hlt;have g0:=FX hdr 0;have hvr:zc ze r=r.getD 0 0+1000000000*zc ze (r.drop 1):=by
   conv=>lhs;rw[hr0]
   rfl
  have hVlt:=Bo (b:=ze) (by decide) hv;rw[hn]at hVlt;have hrV:zc ze r<1000000000*zc ze v:=by rw[hvr];omega
  have hz:zc ze (r.drop (k+3))=0:=by
   refine I2 (b:=ze) (by decide) hdr (by omega) ?_;have ep:(ze:Int)^(k+3)=(ze:Int)^(k+2)*1000000000:=zu ..;rw[ep];omega
  have gu0:=FX hdr (k+2);have gu1:=FX hdr (k+1);have gu2:=FX hdr k;have gv1:=FX hv (k+1);have gv2:=FX hv k;have hP:=AN (b:=ze) (by decide) k;have hW:=kA ze r k (by omega) hz;have hV:=fR ze v k hn;have hu'':=Bo (b:=ze) (by decide) (AM hdr k);have hv':=Az (b:=ze) (by decide) (AM hv k);rw[zA,zI (by omega)]at hu'';have hle:r.getD (k+2) 0≤v.getD (k+1) 0:=by
   have a1:=B7 ze (r.drop 1) (k+1) (by rw[yh];omega);have a2:(r.drop 1).drop (k+1)=r.getD (k+2) 0::r.drop (k+3):=by
    rw[yt,show 1+(k+1)=k+2 by omega];exact B3 (by omega)
   have a3:zc ze (r.getD (k+2) 0::r.drop (k+3))=r.getD (k+2) 0:=by
    show r.getD (k+2) 0+(ze:Int)*zc ze (r.drop (k+3))=_;rw[hz];omega
   rw[a2,a3]at a1;have b1:zc ze v=zc ze (v.take (k+1))+(ze:Int)^(k+1)*v.getD (k+1) 0:=by
    rw[←AF,zn (by omega)]
   have b2:=Bo (b:=ze) (by decide) (AM hv (k+1));rw[zA,zI (by omega)]at b2;have c1:=Az (b:=ze) (by decide) (AM (Eb hdr 1) (k+1));have c2:(ze:Int)^(k+1)*r.getD (k+2) 0<(ze:Int)^(k+1)*(v.getD (k+1) 0+1):=by
    rw[zr,zT];omega
   have:=zz c2 (zo (AN (by decide) (k+1)));omega
  have hfin:∀(q:Int) (r':List Int),r'.length=r.length→Av ze r'→(0≤q∧q<1000000000)→zc ze r'<zc ze v→zc ze r'=zc ze r-q*zc ze v→Ends KW (L2 1 v ((k+2:Nat):Int) (la+1) (la-(k+2)+1) (zf .i64 ((j:Int)-1)) ((zj (j+1) 0++qs).set j q) (lo++r') [f]) Q:=by
   intro q r' h1 h2 h3 h4 h5;have es:(zj (j+1) (0:Int)++qs).set j q=zj j 0++(q::qs):=by
    rw[yj,zB];exact C5 _ _ _ _ (by simp)
   rw[es,wr ((j:Int)-1) (by omega) (by omega)];refine AS v k la f hf hn hla hkl hv hv1 W0 hq j (lo++r') (q::qs) (by simp;omega) (by simp;omega) (EH hdlo h2) (fun d hd'=>?_) (by rw[hdrop];exact h4) ?_
   ·rcases yi.1 hd' with rfl|hd'
    ·exact h3
    ·exact hdq d hd'
   ·rw[he,CF,CF,hlo,h5,Jl];show zc ze lo+(ze:Int)^j*zc ze r+zc ze v*((ze:Int)^j*(1000000000*zc ze qs))=zc ze lo+(ze:Int)^j*(zc ze r-q*zc ze v)+zc ze v*((ze:Int)^j*(q+1000000000*zc ze qs));have x1:zc ze v*((ze:Int)^j*q)=(ze:Int)^j*(q*zc ze v):=by
     rw[zE,zw (zc ze v) q]
    rw[zX,zr ((ze:Int)^j) q,zr (zc ze v),x1];omega
  have e0:(((j+1:Nat):Int)-1)=(j:Int):=by omega
  have e1:zf .i64 ((j:Int)+((k+2:Nat):Int))=((k+2+j:Nat):Int):=by rw[wr _ (by omega) (by omega)];omega
  have e2:zf .i64 (((k+2+j:Nat):Int)-1)=((k+1+j:Nat):Int):=by rw[wr _ (by omega) (by omega)];omega
  have e3:zf .i64 (((k+2:Nat):Int)-1)=((k+1:Nat):Int):=by rw[wr _ (by omega) (by omega)];omega
  have g1:(lo++r).getD (k+2+j) 0=r.getD (k+2) 0:=Gi _ _ _ _ hlo;have g2:(lo++r).getD (k+1+j) 0=r.getD (k+1) 0:=Gi _ _ _ _ hlo;have hll:(lo++r).length=la+1:=hu;have hmul:zf .i64 (zf .i64 (r.getD (k+2) 0*1000000000)+r.getD (k+1) 0)=r.getD (k+2) 0*1000000000+r.getD (k+1) 0:=by
   rw[wr (r.getD (k+2) 0*1000000000) (by omega) (by omega)];exact wr _ (by omega) (by omega)
  have htop0:0≤r.getD (k+2) 0*1000000000+r.getD (k+1) 0:=by omega
  have hq0:0≤(r.getD (k+2) 0*1000000000+r.getD (k+1) 0)/v.getD (k+1) 0:=ym htop0 (by omega);have hqs:(r.getD (k+2) 0*1000000000+r.getD (k+1) 0)/v.getD (k+1) 0≤r.getD (k+2) 0*1000000000+r.getD (k+1) 0:=Int.ediv_le_self _ htop0;have hdm:=zO (r.getD (k+2) 0*1000000000+r.getD (k+1) 0) (v.getD (k+1) 0);have hm0:=zP (r.getD (k+2) 0*1000000000+r.getD (k+1) 0) (show v.getD (k+1) 0≠0 by omega);have hm1:=zM (r.getD (k+2) 0*1000000000+r.getD (k+1) 0) (show 0<v.getD (k+1) 0 by omega);rw[zw]at hdm;have et:zf .i64 (zS (r.getD (k+2) 0*1000000000+r.getD (k+1) 0) (v.getD (k+1) 0))=(r.getD (k+2) 0*1000000000+r.getD (k+1) 0)/v.getD (k+1) 0:=by
   rw[zt htop0];exact wr _ (by omega) (by omega)
  have em:yv (r.getD (k+2) 0*1000000000+r.getD (k+1) 0) (v.getD (k+1) 0)=(r.getD (k+2) 0*1000000000+r.getD (k+1) 0) % v.getD (k+1) 0:=zy htop0;have b2:(decide ((0:Int)≤((k+1:Nat):Int))&&decide (((k+1:Nat):Int)<((k+2:Nat):Int)))=true:=by simp;omega
  have bn:decide (v.getD (k+1) 0≠0)=true:=decide_eq_true (by omega);rw[e0];refine zq (A1 ..) (zd (by simp) ?_);rw[hn,e1,e2,e3,zg,zg,zg,g1,g2,hmul,et,em,hll];refine zd (by simp;omega) (zd (decide_eq_true (by omega)) (zd (by simp;omega) (zd (decide_eq_true (by omega)) (zd b2 (zd bn (zd b2 (zd bn ?_)))))));refine Cs 1 (la+1) (la-(k+2)+1) _ [f] v lo r _ _ _ k j hn (by omega) hlo (by omega) (by omega) (by omega) (by omega) (by simp;omega) hv hdr hz hv1 hle hrV hfin (((r.getD (k+2) 0*1000000000+r.getD (k+1) 0)/v.getD (k+1) 0).toNat+1) _ _ hq0 (by omega) (by omega) ⟨hm0,by omega⟩ hdm ?_;rw[hW,hV];exact Mh hP (by decide) hq0 hv' gv2.1 hu'' gu2.2 hdm hm1
theorem Aj(a v:List Int)(n la:Nat)(f:Int)(hla:a.length=la)(hla9:la≤9000)(hnl:n≤la)(hq:∀u:List Int,u.length=la+1→Av ze u→zc ze u=zc ze a*f→Ends KW (L2 1 v n (la+1) (la-n+1) (((la-n+1:Nat):Int)-1) (zj (la-n+1) 0) u [f]) Q):
  ∀(m:Nat) (u:List Int),u.length+m=la+1→Av ze u→zc ze u=zc ze a*f→Ends KW (L1 a 1 v n u.length u [f]) Q
 |0,u,hl,hd,he=>by
  have e1:zf .i64 ((a.length:Int)+1)=((la+1:Nat):Int):=by rw[wr _ (by omega) (by omega)];omega
  have e2:zf .i64 ((u.length:Int)-(n:Int))=((la-n+1:Nat):Int):=by rw[wr _ (by omega) (by omega)];omega
  have e3:zf .i64 (((la-n+1:Nat):Int)-1)=((la-n+1:Nat):Int)-1:=wr _ (by omega) (by omega);refine zq (Ar ..) ?_;conv=>zeta
  rw[e1,e2,e3,zg];refine zD (by simp;omega) (zd (by simp;omega) ?_);have hul:u.length=la+1:=by omega
  rw[hul];exact hq u hul hd he
 |m+1,u,hl,hd,he=>by
  have e1:zf .i64 ((a.length:Int)+1)=((la+1:Nat):Int):=by rw[wr _ (by omega) (by omega)];omega
  refine zq (Ar ..) ?_;conv=>zeta
  rw[e1];refine zd (by simp;omega) (zd (by simp;omega) ?_);have:=Aj a v n la f hla hla9 hnl hq m (u++[0]) (by simp;omega) (ER hd (by decide)) (by rw[B6,z8,yq];exact he);rw[yr]at this;exact this
set_option maxHeartbeats 1000000 in
theorem ok:Ae AV 164 PU:=by
 refine AB (X:=KW) rfl gD (d:=9) (by kernel_rfl) (by kernel_rfl) (by kernel_rfl) (fun(i:List Int×List Int) hi=>?_) (Ad (by kernel_rfl));obtain⟨a,b⟩:=i;have hi:(A4 a&&A4 b&&decide (a.length≤9000)&&decide (b.length≤9000)&&decide (0<Aq b))=true:=hi;rw[zi,zi,zi,zi,decide_eq_true_eq,decide_eq_true_eq,decide_eq_true_eq]at hi;obtain⟨⟨⟨⟨na,nb⟩,la9⟩,lb9⟩,hb0⟩:=hi;obtain⟨_,da,za⟩:=Bj na;obtain⟨_,db,zb⟩:=Bj nb;have hb0:0<zc ze b:=hb0;have ha0:=Az (b:=ze) (by decide) da;have hg:∀q r ob,q=BN (Aq a/Aq b)→r=BN (Aq a % Aq b)→Af PU (a,b) (PV.tup [PV.dat li q,PV.dat li r]) ob:=fun q r ob e1 e2=>z7 rfl rfl (Prod.ext e1 e2)
 have hbne:b≠[]:=by rintro rfl;simp[zc]at hb0
 have hblen:b.length≠0:=fun h=>hbne (zC.1 h)
 refine zU (An a b) (zd (by rw[na,nb];rfl) (zp (fun c=>?_) (fun c=>?_)))
 ·have c:=of_decide_eq_true c;have hlt:zc ze a<zc ze b:=by
   unfold BX at c;have c:(if zc ze a<zc ze b then(-1:Int)else if zc ze a>zc ze b then 1 else 0)<0:=c;split at c
   ·assumption
   ·split at c<;>omega
  refine zm (z7 rfl rfl ?_);show([],a)=(BN (zc ze a/zc ze b),BN (zc ze a % zc ze b));rw[yf ha0 hlt,Int.emod_eq_of_lt ha0 hlt];exact Prod.ext rfl (Ih (by decide) da za)
 ·have c:=of_decide_eq_false c;have hge:zc ze b≤zc ze a:=by
   rcases zG (zc ze a) (zc ze b)with g|g
   ·have:BX (Aq a) (Aq b)= -1:=if_pos g;omega
   ·exact g
  have hll:b.length≤a.length:=by
   rcases Nat.lt_or_ge a.length b.length with g|g
   ·have:=Ee (b:=ze) (by decide) da db zb g;omega
   ·exact g
  refine zp (fun c1=>?_) (fun c1=>?_)
  ·have c1:b.length=1:=by
    have:(b.length:Int)=1:=by simpa using c1
    omega
   obtain⟨d,rfl⟩:=yG.1 c1;have hd:0<d∧d<1000000000:=FQ (k:=0) db zb rfl;have m0:=zP (zc ze a) (show d≠0 by omega);have m1:=zM (zc ze a) hd.1;refine zd rfl (zd (Aa (Aa (Kw (by omega) da) (decide_eq_true hd.1)) (decide_eq_true hd.2)) (zd rfl (zm (hg _ _ _ ?_ ?_))))
   ·show BN (zc ze a/d)=BN (zc ze a/zc ze [d]);rw[DT]
   ·show Au [zc ze a % d]=BN (zc ze a % zc ze [d]);rw[DT,Fj (fun x hx=>by rw[yc]at hx;subst hx;show 0≤_∧_<(1000000000:Int);omega)];show BN (zc ze [_])=_;rw[DT]
  ·have c1:b.length≠1:=by
    have:(b.length:Int)≠1:=by simpa using c1
    omega
   obtain⟨k,hk⟩:∃k,b.length=k+2:=⟨b.length-2,by omega⟩;obtain⟨y0,y1⟩:=FQ (k:=k+1) db zb hk;have e1:zf .i64 (((k+2:Nat):Int)-1)=((k+1:Nat):Int):=by rw[wr _ (by omega) (by omega)];omega
   have e2:zf .i64 (b.getD (k+1) 0+1)=b.getD (k+1) 0+1:=wr _ (by omega) (by omega);have f0:0<1000000000/(b.getD (k+1) 0+1):=by
    have:=Int.le_ediv_of_mul_le (a:=1) (b:=1000000000) (c:=b.getD (k+1) 0+1) (by omega) (by omega);omega
   have f1:1000000000/(b.getD (k+1) 0+1)<1000000000:=yg (by omega) (by omega);have f2:1000000000/(b.getD (k+1) 0+1)*(b.getD (k+1) 0+1)≤1000000000:=Int.ediv_mul_le _ (by omega);have e3:zf .i64 (zS 1000000000 (b.getD (k+1) 0+1))=1000000000/(b.getD (k+1) 0+1):=by
    rw[zt (by decide)];exact wr _ (by omega) (by omega)
   rw[hk,e1,zg,e2,e3];generalize 1000000000/(b.getD (k+1) 0+1)=f at*;have hdf:Av ze [f]:=fun x hx=>by rw[yc]at hx;subst hx;show 0≤_∧_<(1000000000:Int);omega
   have hvf:Aq [f]=f:=DT f;rw[hvf];have hv1:(ze:Int)^(k+1)≤zc ze b*f:=by
    have a1:=CU (b:=ze) (by decide) db zb hbne;rw[hk,show k+2-1=k+1 by omega]at a1;have a2:=zh (show 1≤f by omega) (zo hb0);omega
   have hv2:zc ze b*f<(ze:Int)^(k+2):=by
    have b1:zc ze b=zc ze (b.take (k+1))+(ze:Int)^(k+1)*b.getD (k+1) 0:=by
     rw[←AF,zn (by omega)]
    have b2:=Bo (b:=ze) (by decide) (AM db (k+1));rw[zA,zI (by omega)]at b2;have hp:=AN (b:=ze) (by decide) (k+1);have b3:zc ze b<(ze:Int)^(k+1)*(b.getD (k+1) 0+1):=by
     rw[zr,zT];omega
    have b4:=zW b3 f0;have b5:=zh f2 (zo hp);have b6:(ze:Int)^(k+2)=(ze:Int)^(k+1)*1000000000:=zu ..;rw[zH,zw (b.getD (k+1) 0+1) f]at b4;omega
   have hV0:0≤zc ze b*f:=zF (zo hb0) (by omega);have hU0:0≤zc ze a*f:=zF ha0 (by omega);have hU1:zc ze a*f<(ze:Int)^(a.length+1):=by
    have a1:=Bo (b:=ze) (by decide) da;have a2:=zW a1 f0;have a3:=zh (show f≤1000000000 by omega) (zo (AN (b:=ze) (by decide) a.length));have a4:(ze:Int)^(a.length+1)=(ze:Int)^a.length*1000000000:=zu ..;omega
   have vd:=ET (b:=ze) (by decide) (zc ze b*f);have vz:=Wt (b:=ze) (by decide) (zc ze b*f);have vv:zc ze (Sp.dg ze (zc ze b*f))=zc ze b*f:=CE (by decide) hV0;have vl:=dC (b:=ze) (by decide) vd vz (k:=k+1) (by rw[vv];exact hv1) (by rw[vv];exact hv2);have v1:=(FQ vd vz vl).1;have ud:=ET (b:=ze) (by decide) (zc ze a*f);have uv:zc ze (Sp.dg ze (zc ze a*f))=zc ze a*f:=CE (by decide) hU0;have ul:=MV (k:=a.length+1) hU0 hU1;have hfa:Sp.hR [f]=true:=Pn (by simp) hdf;have bd:decide ((2*(0+(BN (Aq a*f)).length)+1000)*8≤281474976710656)=true:=decide_eq_true (by have:(BN (Aq a*f)).length≤a.length+1:=ul;omega);refine zd (by simp;omega) (zd (decide_eq_true (by omega)) (zd (by rw[Pn lb9 db,hfa];rfl) (zd (by rw[Pn la9 da,hfa];rfl) (zd bd ?_))));have ez:yR 0 (BN (Aq a*f)).length=(BN (Aq a*f)).length:=yP _;have evl:(BN (Aq b*f)).length=k+2:=vl;rw[ez,yp,evl];refine Aj a (BN (Aq b*f)) (k+2) a.length f rfl la9 (by omega) (fun u hul hud huv=>?_) (a.length+1-(BN (Aq a*f)).length) (BN (Aq a*f)) (by have:(BN (Aq a*f)).length≤a.length+1:=ul;omega) ud uv;have hpn:=AN (b:=ze) (by decide) (a.length-(k+2)+1);have start:zc ze (u.drop (a.length-(k+2)+1))<zc ze (BN (Aq b*f)):=by
    have a1:=B7 ze u (a.length-(k+2)+1) (by omega);have a2:=Az (b:=ze) (by decide) (AM hud (a.length-(k+2)+1));have a3:=Bo (b:=ze) (by decide) da;have a4:=zW a3 f0;have a5:(ze:Int)^a.length=(ze:Int)^(a.length-(k+2)+1)*(ze:Int)^(k+1):=by rw[←yL,show a.length-(k+2)+1+(k+1)=a.length by omega]
    have a6:=CU (b:=ze) (by decide) db zb hbne;rw[hk,show k+2-1=k+1 by omega]at a6;have a7:=zk a6 (show 0≤f by omega);have a8:=zh a7 (zo hpn);rw[a5,zH]at a4;show _<zc ze (Sp.dg ze (zc ze b*f));rw[vv];refine zz (a:=(ze:Int)^(a.length-(k+2)+1)) ?_ (zo hpn);omega
   have go:=AS (Q:=Af PU (a,b)) (BN (Aq b*f)) k a.length f ⟨f0,f1⟩ evl la9 (by omega) vd (by have:0<(BN (Aq b*f)).getD (k+1) 0:=v1;omega) (zc ze a*f) (fun u' qs ob hud' hdq hlt' he=>by
    have vv':zc ze (BN (Aq b*f))=zc ze b*f:=vv;rw[vv']at he hlt';have e:zc ze u'=f*(zc ze a-zc ze qs*zc ze b):=by
     have x1:zc ze b*f*zc ze qs=f*(zc ze qs*zc ze b):=by
      rw[zw (zc ze b) f,zH,zw (zc ze b)]
     rw[x1,zw (zc ze a)]at he;rw[zX];omega
    have h0:=Az (b:=ze) (by decide) hud';have r0:0≤zc ze a-zc ze qs*zc ze b:=by
     rw[e]at h0;exact Int.nonneg_of_mul_nonneg_right h0 f0
    have r1:zc ze a-zc ze qs*zc ze b<zc ze b:=by
     rw[e,zw (zc ze b) f]at hlt';exact zz hlt' (by omega)
    obtain⟨u1,u2⟩:=(zQ (a:=zc ze a) (b:=zc ze b) (r:=zc ze a-zc ze qs*zc ze b) (q:=zc ze qs) hb0).2 ⟨by rw[zw (zc ze b)];omega,r0,r1⟩;refine hg _ _ ob ?_ ?_
    ·rw[Fj hdq];show BN (zc ze qs)=BN (zc ze a/zc ze b);rw[u1]
    ·show BN (zc ze u'/f)=BN (zc ze a % zc ze b);rw[u2,e,yA _ (by omega)]) (a.length-(k+2)+1) u [] (by simp) hul hud (fun x hx=>by cases hx) start (by rw[huv];simp[zc])
   rw[yn]at go;exact go
end T164
theorem iT:∀g sp,rP.sp g=some sp→Ae AV g sp:=Ac T164.ok (fun g sp h=>by cases h)
namespace T92
variable {Q:PV→Ob→Prop}
theorem Aj(g:Nat)(L:Int)(hL:∀n:Nat,(n:Int)<L→A4 (BN (n:Int))=true∧Aq (BN (n:Int))=n∧(BN (n:Int)).length≤9000)(hq:∀ob,Q (.dat li (BN (g:Int))) ob):∀(f x y:Nat),y<f→yS x y=g→(x:Int)<L→(y:Int)<L→
  Ends rP (L1 (BN (x:Int)) (BN (y:Int))) Q
 |0,x,y,h,_,_,_=>by omega
 |f+1,x,y,hy,hg,bx,by'=>by
  obtain⟨nx,vx,lx⟩:=hL x bx;obtain⟨ny,vy,ly⟩:=hL y by'
  refine zq (Ar ..) ?_;conv=>zeta
  by_cases h0:y=0
  ·subst h0;rw[Nat.gcd_zero_right]at hg;subst hg;exact zD rfl (zm (hq _))
  ·have hlt:x % y<y:=Nat.mod_lt _ (by omega);have hl:(BN (y:Int)).length≠0:=by
    intro h;have:=zC.1 h;rw[this]at vy;simp[Aq,zc]at vy;omega
   rw[vx,vy,TF];refine zd (by simp;omega) (zd (Aa (Aa (Aa (Aa nx ny) (decide_eq_true lx)) (decide_eq_true ly)) (decide_eq_true (by omega))) ?_);exact Aj g L hL hq f y (x % y) (by omega) (by rw[yH, ←Nat.gcd_rec,yH];exact hg) by' (by omega)
theorem TL{a:List Int}(h:A4 a=true):a=BN (Aq a)∧0≤Aq a:=by
 obtain⟨_,d,z⟩:=Bj h;exact⟨Ih (by decide) d z,Az (by decide) d⟩
theorem U6(n:Nat)(h:(n:Int)<(ze:Int)^9000):A4 (BN (n:Int))=true∧Aq (BN (n:Int))=n∧(BN (n:Int)).length≤9000:=by
 obtain⟨a,_,b,c⟩:=Gw (n:=(n:Int)) (k:=9000) (Int.natCast_nonneg n) h (by decide);exact⟨a,b,c⟩
theorem ok:Ae AV 92 J0:=by
 refine AB (X:=rP) rfl iT (d:=9) (by kernel_rfl) (by kernel_rfl) (by kernel_rfl) (fun(i:List Int×List Int) hi=>?_) (Ad (by kernel_rfl));obtain⟨a,b⟩:=i;have hi:(A4 a&&A4 b&&decide (a.length≤9000)&&decide (b.length≤9000))=true:=hi;rw[zi,zi,zi,decide_eq_true_eq,decide_eq_true_eq]at hi;obtain⟨⟨⟨na,nb⟩,la9⟩,lb9⟩:=hi;obtain⟨ea,a0⟩:=TL na;obtain⟨eb,b0⟩:=TL nb;have la:Aq a<(ze:Int)^9000:=yd (Bo (b:=ze) (by decide) (Bj na).2.1) (AL (by decide) la9);have lb:Aq b<(ze:Int)^9000:=yd (Bo (b:=ze) (by decide) (Bj nb).2.1) (AL (by decide) lb9);have key:∀(x y:Nat),Aq a=x→Aq b=y→Ends rP (L1 a b) (Af J0 (a,b)):=by
  intro x y hx hy;rw[ea,eb,hx,hy];rw[hx]at la;rw[hy]at lb;refine Aj (yS x y) _ U6 (fun ob=>z7 rfl rfl ?_) (y+1) x y (Nat.lt_succ_self _) rfl la lb;have e:Sp.gI (Aq (BN (x:Int))) (Aq (BN (y:Int)))=((yS x y:Nat):Int):=by
   rw[(U6 x la).2.1,(U6 y lb).2.1,F8];rfl
  exact congrArg BN e.symm
 obtain⟨x,hx⟩:=ye a0;obtain⟨y,hy⟩:=ye b0;exact zU (An a b) (key x y hx hy)
end T92
end Go.Pe
end
section
namespace Go.Pe
open Sp
open Go.Det
theorem lT:∀g sp,WM.sp g=some sp→Ae AV g sp:=
 Ac (GD (by kernel_rfl) (Ad (by kernel_rfl))) (Ac (GD (by kernel_rfl) (Ad (by kernel_rfl))) (Ac (GD (by kernel_rfl) (Ad (by kernel_rfl))) (Ac (GD (by kernel_rfl) (Ad (by kernel_rfl))) (fun g sp h=>by cases h))))
theorem EU:∀g sp,I4.sp g=some sp→Ae AV g sp:=fun g sp h=>by cases h
namespace T211
variable {Q:PV→Ob→Prop}
theorem sU:∀i:Fin 10,(C8.getD i.1 0).toNat<128:=by decide
theorem Er(s:List UInt8)(i:Nat)(o:List Bool)(hi:i<10)(ho:o.length=256)(h:Ends WM (L2 s C8 C8 ((i+1:Nat):Int) (o.set (C8.getD i 0).toNat true)) Q):Ends WM (L2 s C8 C8 (i:Int) o) Q:=by
 have hl:C8.length=10:=rfl;have hc:=sU ⟨i,hi⟩;have hc:(C8.getD i 0).toNat<128:=hc;have e:zf .i64 ((i:Int)+1)=((i+1:Nat):Int):=by rw[wr _ (by omega) (by omega)];omega
 refine zq (A1 ..) ?_;conv=>zeta
 rw[hl,e,zg,zg];exact zd (decide_eq_true (by omega)) (zd (Aa (decide_eq_true (by omega)) (decide_eq_true (by omega))) (zD (decide_eq_false (by omega)) (zd (Aa (decide_eq_true (show(0:Int)≤((C8.getD i 0).toNat:Int)by omega)) (decide_eq_true (by omega))) (zd (decide_eq_true (by omega)) h))))
def Tb(o:List Bool):Prop:=o.length=256∧∀c:UInt8,o.getD c.toNat false=BJ c
theorem Cc(s t v0:List UInt8)(v4:Int)(o0:List Bool)(v0':List UInt8)(o1 o0':List Bool)(p1 p0:List Bool)(hT:Tb p1):∀(w:List UInt8),(∀ob,Q (.dat .str (w.dropWhile BJ)) ob)→Ends WM (L7 s t v0 v4 o0 v0' o1 o0' w p1 p0) Q
 |[],hq=>zq (FH ..) (zD (by simp) (zm (hq _)))
 |c::r,hq=>by
  have hc:c.toNat<256:=c.toNat_lt;have g0:(c::r).getD 0 0=c:=rfl;have e:(List.drop 1 (c::r)).take (yQ (c::r).length 1)=r:=by show r.take ((r.length+1)-1)=r;rw[yb];exact ya
  refine zq (FH ..) ?_;conv=>zeta
  rw[g0,zg,hT.2,hT.1,e];refine zd (by simp) (zd (by simp) (zd (Aa (decide_eq_true (show(0:Int)≤(c.toNat:Int)by omega)) (decide_eq_true (by omega))) (zd (decide_eq_true hc) (zp (fun d=>?_) (fun d=>zd (by simp) ?_)))))
  ·have d:BJ c=false:=by simpa using d
   rw[zR,if_neg (by rw[d];decide)]at hq;exact zm (hq _)
  ·have d:BJ c=true:=by simpa using d
   rw[zR,if_pos d]at hq;exact Cc s t v0 v4 o0 v0' o1 o0' p1 p0 hT r hq
theorem BR(s t v0:List UInt8)(v4:Int)(o0:List Bool)(o1 o0':List Bool)(hT:Tb o1):∀(n:Nat) (w:List UInt8),w.length=n→n≤1000000→(∀ob,Q (.dat .str (((w.reverse.dropWhile BJ).reverse).dropWhile BJ)) ob)→Ends WM (L4 s t v0 v4 o0 w o1 o0') Q
 |0,w,hl,_,hq=>by
  have:w=[]:=zC.1 hl;subst this;exact zq (Dm ..) (zD (by simp) (zq (Jb ..) (zD (by simp) (zm (hq _)))))
 |n+1,w,hl,hn,hq=>by
  obtain⟨p,c,rfl⟩:∃p c,w=p++[c]:=by
   have hne:w≠[]:=by rintro rfl;simp at hl
   exact⟨w.dropLast,w.getLast hne,(yo hne).symm⟩
  have hp:p.length=n:=by simpa using hl
  have hc:c.toNat<256:=c.toNat_lt;have e1:zf .i64 (((p++[c]).length:Int)-1)=(n:Int):=by rw[hl,wr _ (by omega) (by omega)];omega
  have g1:(p++[c]).getD n 0=c:=Dq _ _ _ _ hp;have t1:(p++[c]).take n=p:=by rw[←hp];exact yM
  have hr:(p++[c]).reverse=c::p.reverse:=by simp
  rw[hr,zR]at hq;refine zq (Dm ..) (zd (decide_eq_true (by omega)) ?_);rw[e1,zg,g1,t1,zg,hT.2,hT.1,hl];refine zd (by simp;omega) (zd (Aa (decide_eq_true (show(0:Int)≤(c.toNat:Int)by omega)) (decide_eq_true (by omega))) (zd (decide_eq_true hc) (zp (fun d=>?_) (fun d=>zd (by simp) ?_))))
  ·have d:BJ c=false:=by simpa using d
   rw[if_neg (by rw[d];decide),List.reverse_cons,List.reverse_reverse]at hq;exact Cc s t v0 v4 o0 _ o1 o0' o1 o0' hT (p++[c]) hq
  ·have d:BJ c=true:=by simpa using d
   rw[if_pos d]at hq;exact BR s t v0 v4 o0 o1 o0' hT n p hp (by omega) hq
theorem uP{o:List Bool}(h1:o.length=256)(h2:∀c:Fin 256,o.getD c.1 false=(Nat.ble 48 c.1&&Nat.ble c.1 57)):Tb o:=by
 refine⟨h1,fun c=>?_⟩;have:=h2 ⟨c.toNat,c.toNat_lt⟩;rw[show o.getD c.toNat false=_ from this];unfold BJ;rw[Bool.eq_iff_iff];simp[Nat.ble_eq]
set_option maxRecDepth 10000 in
theorem ok:Ae AV 211 T4:=by
 refine AB (X:=WM) rfl lT (d:=9) (by kernel_rfl) (by kernel_rfl) (by kernel_rfl) (fun(i:List UInt8×List UInt8) hi=>?_) (Ad (by kernel_rfl));obtain⟨s,t⟩:=i;have hi:(decide (t=C8)&&decide (s.length≤1000000))=true:=hi;rw[zi,decide_eq_true_eq,decide_eq_true_eq]at hi;obtain⟨rfl,hl⟩:=hi;have hq:∀ob,Af T4 (s,C8) (.dat .str (((s.reverse.dropWhile BJ).reverse).dropWhile BJ)) ob:=fun ob=>z7 rfl rfl rfl
 refine zU (An s C8) (zp (fun c=>?_) (fun c=>zD (by decide) (zD (by decide) ?_)))
 ·have c:s=[]:=by simpa using c
  subst c;exact zm (hq _)
 ·refine Er s 0 _ (by decide) rfl (Er s 1 _ (by decide) rfl (Er s 2 _ (by decide) rfl (Er s 3 _ (by decide) rfl (Er s 4 _ (by decide) rfl (Er s 5 _ (by decide) rfl (Er s 6 _ (by decide) rfl (Er s 7 _ (by decide) rfl (Er s 8 _ (by decide) rfl (Er s 9 _ (by decide) rfl ?_)))))))));refine zq (A1 ..) (zD (by decide) (zd (by decide+kernel) (zd (by decide+kernel) (zd (by decide+kernel) (zd rfl (BR s _ _ _ _ _ _ (uP rfl ?_) s.length s rfl hl hq))))));decide+kernel
end T211
theorem iU:∀g sp,wQ.sp g=some sp→Ae AV g sp:=Ac T211.ok (fun g sp h=>by cases h)
theorem dropWhile_nil{p:UInt8→Bool}:∀ {l:List UInt8},l.dropWhile p=[]↔l.all p=true
 |[]=>by simp
 |a::l=>by
  rw[zR,List.all_cons];cases h:p a with
  |true=>simp only[if_true,yB];exact dropWhile_nil
  |false=>simp
theorem H7{p:UInt8→Bool}:∀ {l:List UInt8} {a:UInt8} {r:List UInt8},l.dropWhile p=a::r→p a=false
 |[],a,r,h=>by simp at h
 |b::l,a,r,h=>by
  rw[zR]at h;cases hb:p b with
  |true=>rw[hb,if_pos rfl]at h;exact H7 h
  |false=>
   rw[hb]at h;simp at h;rw[←h.1];exact hb
theorem Ln(s:List UInt8):M7 s=[]↔Al s=true:=by
 unfold M7 Al;rw[dropWhile_nil,yD];constructor
 ·intro h;cases hd:s.reverse.dropWhile BJ with
  |nil=>have:=dropWhile_nil.1 hd;rwa [yD]at this
  |cons a r=>
   rw[hd,List.all_cons,H7 hd]at h;cases h
 ·intro h;have:s.reverse.dropWhile BJ=[]:=dropWhile_nil.2 (by rwa [yD]);rw[this];rfl
theorem T151.ok:Ae AV 151 K5:=by
 refine AB (X:=wQ) rfl iU (d:=9) (by kernel_rfl) (by kernel_rfl) (by kernel_rfl) (fun(s:List UInt8) hl=>?_) (Ad (by kernel_rfl));have hl:s.length≤1000000:=of_decide_eq_true hl;have hq:∀v b ob,v=.bl b∨v=.dat .bool b→b=AU s→Af K5 s v ob:=by
  rintro v b ob (rfl|rfl) hb
  ·exact z7 rfl rfl hb
  ·exact z7 rfl rfl hb
 refine zU (T151.An s) (zp (fun c=>zd ?_ (zp (fun d=>zd ?_ (zp (fun e=>zm (hq _ _ _ (.inl rfl) ?_)) (fun e=>zm (hq _ _ _ (.inr rfl) ?_)))) (fun d=>zm (hq _ _ _ (.inl rfl) ?_)))) (fun c=>zm (hq _ _ _ (.inl rfl) ?_)))
 ·exact Aa (decide_eq_true rfl) (decide_eq_true hl)
 ·have c:s≠[]:=by simpa using c
  have:s.length≠0:=fun h=>c (zC.1 h)
  exact decide_eq_true (by omega)
 ·have c:s≠[]:=by simpa using c
  have d:M7 s=[]:=by simpa using d
  have d:=(Ln s).1 d;have e:s.getD 0 0≠48:=by
   intro h;rw[h]at e;exact absurd e (by decide)
  unfold AU;rw[d,decide_eq_true c,decide_eq_true e];rfl
 ·have c:s≠[]:=by simpa using c
  have d:M7 s=[]:=by simpa using d
  have d:=(Ln s).1 d;have e:s.getD 0 0=48:=by
   have:((s.getD 0 0).toNat:Int)=48:=by simpa using e
   exact UInt8.toNat_inj.1 (by show _=48;omega)
  unfold AU;rw[d,decide_eq_true c,decide_eq_false (by rw[e];exact fun h=>h rfl)];show(s==[48])=decide (s=[48]);rw[Bool.eq_iff_iff];simp
 ·have d:¬M7 s=[]:=by simpa using d
  have d:Al s=false:=by
   cases h:Al s with
   |true=>exact absurd ((Ln s).2 h) d
   |false=>rfl
  unfold AU;rw[d];simp
 ·have c:s=[]:=by simpa using c
  subst c;rfl
theorem T149.ok:Ae AV 149 mT:=by
 refine AB (X:=I4) rfl EU (d:=9) (by kernel_rfl) (by kernel_rfl) (by kernel_rfl) (fun(i:List UInt8×List UInt8) hi=>?_) (Ad (by kernel_rfl));obtain⟨s,t⟩:=i;have hi:(decide (t=[45])&&decide (s.length≤1000000))=true:=hi;rw[zi,decide_eq_true_eq,decide_eq_true_eq]at hi;obtain⟨rfl,hl⟩:=hi;have hno:s.getD 0 0≠45→(s,false)=(AZ s,Sp.preB s):=fun h=>by
  unfold AZ Sp.preB;rw[if_neg h,decide_eq_false h]
 refine zU (T149.An s [45]) ?_;conv=>zeta
 cases s with
 |nil=>exact zD (by decide) (zm (z7 rfl rfl (hno (by decide))))
 |cons c r=>
  have ht:(c::r).take 1=[c]:=rfl;refine zd (by simp;omega) (zd (by simp) ?_);show Ends I4 (.ite (!List.take 1 (c::r)==[45]) _ _) _;rw[ht];refine zp (fun d=>zm (z7 rfl rfl (hno ?_))) (fun d=>zd (by simp) (zm (z7 rfl rfl ?_)))
  ·show c≠45;rintro rfl;exact absurd d (by decide)
  ·have d:c=45:=by simpa using d
   subst d;show(((List.drop 1 ((45:UInt8)::r)).take (yQ ((45:UInt8)::r).length 1)),true)=(AZ (45::r),Sp.preB (45::r));have e:(List.drop 1 ((45:UInt8)::r)).take (yQ ((45:UInt8)::r).length 1)=r:=by show r.take ((r.length+1)-1)=r;rw[yb];exact ya
   rw[e];rfl
end Go.Pe
end
section
namespace Go.Pe
open Sp
open Go.Det
theorem pJ{F:Fz}{s:List UInt8}{c:Int}{args:List V}(h:Lj F (Ah [Sh.str,Sh.int .u8] (s,c)) args):args=[.str s,.int .u8 c]:=by
 have:=h (fun _=>none) 0;simp only[Ah,B4,Bb]at this;obtain⟨a,as1,rfl,h1,b,as2,rfl,h2,rfl⟩:=this;simp only[PR,DC,List.cons.injEq,and_true]at h1 h2;rw[h1,h2]
theorem T316.ok:Ae AV 316 mD:=by
 refine .inr ⟨PK.indexByte.run,by kernel_rfl,fun F h args i ha hp=>?_⟩;obtain⟨s,c⟩:=i;have:=pJ ha;subst this;refine⟨Sd (s.findIdx? fun x=>x==c.toNat.toUInt8),rfl,fun ρ N=>?_⟩;show PR F ρ N (.dat i64 (Od s c)) _;unfold Od;cases s.findIdx? fun x=>x==c.toNat.toUInt8 with
 |none=>simp[PR,DC,Sd]
 |some i=>simp[PR,DC,Sd,Det.i64]
theorem jI:∀g sp,wR.sp g=some sp→Ae AV g sp:=Ac T316.ok (fun g sp h=>by cases h)
theorem U4{p:UInt8→Bool}{s:List UInt8}{i:Nat}(h:s.findIdx? p=some i):i<s.length:=(List.findIdx?_eq_some_iff_getElem.1 h).1
theorem T150.ok:Ae AV 150 ZR:=by
 refine AB (X:=wR) rfl jI (d:=9) (by kernel_rfl) (by kernel_rfl) (by kernel_rfl) (fun(i:List UInt8×List UInt8) hi=>?_) (Ad (by kernel_rfl));obtain⟨s,t⟩:=i;have hi:(decide (t=[47])&&decide (s.length≤1000000))=true:=hi;rw[zi,decide_eq_true_eq,decide_eq_true_eq]at hi;obtain⟨rfl,hl⟩:=hi;have hany:s.any (fun x=>x==47)=(s.findIdx? fun x=>x==47).isSome:=by
  rw[List.findIdx?_isSome]
 refine zU (T150.An s [47]) (zD (by decide) (zp (fun c=>?_) (fun c=>zd (by decide) (zd (by decide) (zd (by decide) ?_)))))
 ·have c:s=[47]:=by
   have:[47]=s:=by simpa using c
   exact this.symm
  subst c;exact zd rfl (zd rfl (zd rfl (zm (z7 rfl rfl rfl))))
 ·have ei:Od s (((([47]:List UInt8).getD 0 0).toNat:Nat):Int)=match s.findIdx? (fun x=>x==47)with
   |some i=>(i:Int)
   |none=> -1:=rfl
  cases hf:s.findIdx? (fun x=>x==47)with
  |none=>
   rw[hf]at ei;have ei:Od s (((([47]:List UInt8).getD 0 0).toNat:Nat):Int)= -1:=ei;rw[ei];refine zD (by decide) (zm (z7 rfl rfl ?_));show(s,[],false)=(Ax s,Sp.AO s,Bm s);unfold Ax Sp.AO Bm;rw[hany,hf];rfl
  |some k=>
   rw[hf]at ei;have ei:Od s (((([47]:List UInt8).getD 0 0).toNat:Nat):Int)=(k:Int):=ei;have hk:=U4 hf;have e1:zf .i64 ((k:Int)+(([47]:List UInt8).length:Int))=((k+1:Nat):Int):=by
    show zf .i64 ((k:Int)+1)=_;rw[wr _ (by omega) (by omega)];omega
   rw[ei,e1,zg,zg];refine zd (by simp) (zd (by simp;omega) (zd (by simp;omega) (zm (z7 rfl rfl ?_))));show(s.take k,(s.drop (k+1)).take (yQ s.length (k+1)),true)=(Ax s,Sp.AO s,Bm s);unfold Ax Sp.AO Bm;have e2:(s.drop (k+1)).take (yQ s.length (k+1))=s.drop (k+1):=zn (by rw[yh];exact Nat.le_refl _);rw[hany,hf,e2];rfl
end Go.Pe
end
