import Derived.Test.YtknhdhchejmpgaaGreatDoorX11
import Derived.Test.YtknhdhchejmpgaaGreatDoorX10
/- A part of a proof (no law is stated here). Made by program out of texts by AI agents. -/
open Go.Sp renaming val → zc, B9 → zg, vI → zo, AZ → qw, sg → jc
open Go.Pe.Ends renaming tt → ze, leaf → zp, ite → zt, At → zu, ff → zP, eq → ye
open Go.IntKind renaming wrap → zh
open Int renaming toNat_natCast → zj, mul_le_mul_of_nonneg_left → zk, mul_le_mul_of_nonneg_right → zn, le_of_lt → zr, mul_add → zw, tdiv_eq_ediv_of_nonneg → zx, pow_succ → zy, mul_comm → zz, tmod_eq_emod_of_nonneg → zK, lt_of_mul_lt_mul_left → zL, mul_left_comm → zQ, mul_nonneg → zR, lt_or_le → zS, mul_assoc → zT, pow_zero → zV, one_mul → zX, emod_lt_of_pos → zY, mul_ediv_add_emod → z6, emod_nonneg → z7, ediv_emod_unique → z8, tdiv → yb, mul_one → yc, mul_lt_mul_of_pos_right → yg, mul_sub → yh, pow_pos → yi, fdiv_eq_ediv_of_nonneg → yj, mul_zero → ym, lt_of_lt_of_le → yq, eq_ofNat_of_zero_le → yr, ediv_eq_zero_of_lt → yt, ediv_lt_of_lt_mul → yu, ediv_nonneg → yz, add_zero → qc, mul_lt_mul_of_pos_left → qf, tmod → qg, le_refl → qi, add_assoc → qj, mul_ediv_cancel_left → ql, zero_mul → qp, sub_mul → qx, pow_add → qy, mul_neg → q9
open Bool renaming and_eq_true → zl, true_and → qm
open List renaming replicate → zm, take_of_length_le → zq, length_take → zM, append_assoc → zN, length_eq_zero_iff → zO, getD_eq_getElem?_getD → zZ, dropWhile_cons → ya, take_append_drop → yf, take_length → yn, mem_singleton → yp, length_drop → yv, mem_cons → yw, replicate_succ' → yx, mem_append → yy, append_nil → y7, dropLast_concat_getLast → y8, nil_append → y9, length_append → qd, drop_drop → qe, getLast?_eq_getElem? → qh, getElem?_eq_getElem → qk, drop_length → qn, all_reverse → qo, length_eq_one_iff → qt, drop_eq_nil_of_le → qv, take_left → qz
open Nat renaming min_eq_left → zU, add_sub_cancel → yo, add_comm → qq, gcd_comm → qu, zero_add → je, sub → jf, add → jg, gcd → jh
open BitVec renaming ofInt → zW
open Go.Pe.Af renaming of → yk
section
namespace Go.Pe
open Sp
open Go.Det
namespace T230
variable {Q:PV→Ob→Prop}
theorem xJ(q x:Int):P7 q x*18446744073709551616+H3 q x=q*x∧0≤H3 q x∧H3 q x<18446744073709551616:=by
 unfold P7 H3;generalize q*x=P;omega
theorem Co(v9:Int)(v10:List Int)(v11n:Nat)(v12:Int)(v13n:Nat)(o1 o0:List Int)(v0c:Nat)(v:List Int)(k j:Nat)(lo:List Int)(m:Nat)(r0 o1':List Int)
  (hn:v.length=k+2) (hn9:k+2≤9000) (hm:k+3≤m) (hlo:lo.length=j) (hjv:j<v13n) (hj1:j<o1'.length) (hv:Au Ak v)
  (hr:r0.length=m) (hd:Au Ak r0) (hz:zc Ak (r0.drop (k+3))=0) (hv1:1≤v.getD (k+1) 0)
  (hfin:∀(q:Int) (r:List Int),r.length=m→Au Ak r→(0≤q∧q<18446744073709551616)→zc Ak r<zc Ak v→zc Ak r=zc Ak r0-q*zc Ak v→Ends IK (L4 v9 v10 v11n v12 v13n (zh .i64 ((j:Int)-1)) (o1'.set j q) (lo++r)) Q):
  ∀(f:Nat) (q r o:Int),0≤q→q<f→q<18446744073709551616→Sp.u64 r=true→(o=0∨o=1)→q*v.getD (k+1) 0+(r+18446744073709551616*o)=r0.getD (k+2) 0*18446744073709551616+r0.getD (k+1) 0→zc Ak r0<(q+1)*zc Ak v→
   Ends IK (L5 v9 v10 v11n v12 v13n j o1 o0 j (k+3) v0c v ((k+2:Nat):Int) q r o o1' (lo++r0)) Q
 |0,q,r,o,h0,hf,_,_,_,_,_=>by omega
 |f+1,q,r,o,h0,hf,hB,hr64,ho,he,hup=>by
  have uq:Sp.u64 q=true:=Cv h0 hB;have uv2:=AS hv k;have uv1:=AS hv (k+1);have uu2:=AS hd k;have gv2:=qw uv2;have gv1:=qw uv1;have gu2:=qw uu2;have gr:=qw hr64;have hP:=AM (b:=Ak) (by decide) k;have hW:=mA Ak r0 k (by omega) hz;have hV:=jH Ak v k hn;have hu':=Ay (b:=Ak) (by decide) (AK hd k);have hu'':=Bn (b:=Ak) (by decide) (AK hd k);have hv':=Ay (b:=Ak) (by decide) (AK hv k);have hv'':=Bn (b:=Ak) (by decide) (AK hv k);rw[zM,zU (by omega)]at hu'' hv'';have exit:q*v.getD k 0≤(r+18446744073709551616*o)*18446744073709551616+r0.getD k 0→Ends IK (L7 v9 v10 v11n v12 v13n j o1 o0 j (k+3) v0c v ((k+2:Nat):Int) q 0 0 ((k+2:Nat):Int) 0 o1' (lo++r0)) Q:=by
   intro hx;refine lQ v9 v10 v11n v12 v13n o1 o0 v0c v (k+2) j lo m r0 o1' hn hn9 hm hlo hjv hj1 hv hr hd hz hfin q uq hup ?_;rw[hW,hV];exact Tz hP ⟨hv',hv''⟩ hu' ⟨h0,hB⟩ hv1 gv2.1 he hx
  have e1:zh .i64 (((k+2:Nat):Int)-2)=(k:Int):=by rw[wr _ (by omega) (by omega)];omega
  have e2:zh .i64 (((k+2:Nat):Int)-1)=((k+1:Nat):Int):=by rw[wr _ (by omega) (by omega)];omega
  obtain⟨w1,w2,w3⟩:=xJ q (v.getD k 0);have hlw:decide (jg k j<(lo++r0).length)=true:=lw hlo (by omega);refine zu (Gr ..) (zt (fun c=>?_) (fun c=>?_))
  ·have c:o=0:=by simpa using c
   subst c;rw[e1,e2,zj,zj,gw hlo];refine ze (by simp;omega) (ze (Ac uq uv2) ?_);have dec:r*18446744073709551616+r0.getD k 0<q*v.getD k 0→Ends IK (L5 v9 v10 v11n v12 v13n j o1 o0 j (k+3) v0c v ((k+2:Nat):Int) (zh .u64 (q-1)) (Hk r (v.getD (k+1) 0) 0) (OY r (v.getD (k+1) 0) 0) o1' (lo++r0)) Q:=by
    intro hx;obtain⟨a1,a2,a3⟩:=JO hr64 uv1 (c:=0) (by decide);have hq1:1≤q:=by
     rcases zS 0 q with g|g
     ·exact g
     ·have:q=0:=by omega
      subst this;rw[qp]at hx;omega
    rw[wu (q-1) (by omega) (by omega)];refine Co v9 v10 v11n v12 v13n o1 o0 v0c v k j lo m r0 o1' hn hn9 hm hlo hjv hj1 hv hr hd hz hv1 hfin f (q-1) _ _ (by omega) (by omega) (by omega) a1 (by omega) ?_ ?_
    ·rw[qx,zX,a3];omega
    ·have he':q*v.getD (k+1) 0+r=r0.getD (k+2) 0*18446744073709551616+r0.getD (k+1) 0:=by omega
     have:=TX (B:=Ak) (u0:=r0.getD (k+2) 0) (u1:=r0.getD (k+1) 0) (u2:=r0.getD k 0) hP hv' hu'' h0 (v1:=v.getD (k+1) 0) (v2:=v.getD k 0) (r:=r) he' hx;rw[←hW, ←hV]at this;rw[show q-1+1=q by omega];exact this
   refine zt (fun c1=>exit ?_) (fun c1=>zt (fun c2=>ze (by simp;omega) (ze hlw (zt (fun c3=>exit ?_) (fun c3=>ze (by simp;omega) (ze (Ac (Ac (Ac hr64 uv1) rfl) rfl) (dec ?_)))))) (fun c2=>ze (by simp;omega) (ze (Ac (Ac (Ac hr64 uv1) rfl) rfl) (dec ?_))))
   ·have c1:=of_decide_eq_true c1;omega
   ·have c2:P7 q (v.getD k 0)=r:=by simpa using c2
    have c3:=of_decide_eq_true c3;omega
   ·have c2:P7 q (v.getD k 0)=r:=by simpa using c2
    have c3:=of_decide_eq_false c3;omega
   ·have c1:=of_decide_eq_false c1;have c2:P7 q (v.getD k 0)≠r:=by simpa using c2
    omega
  ·have c:o≠0:=by simpa using c
   refine exit ?_;have a:=zk (show v.getD k 0≤18446744073709551615 by omega) h0;omega
theorem BP(s:Int)(v:List Int)(k la:Nat)(hn:v.length=k+2)(hla:la≤9000)(hkl:k+2≤la)(hv:Au Ak v)(hv1:1≤v.getD (k+1) 0)(W0:Int)
  (hq:∀u qs:List Int,u.length=la+1→Au Ak u→Au Ak qs→zc Ak u<zc Ak v→qs.length=la-(k+2)+1→W0=zc Ak u+zc Ak v*zc Ak qs→Ends IK (L6 s (la+1) ((k+2:Nat):Int) (la-(k+2)+1) ((k+2:Nat):Int) 0 qs u) Q):
  ∀(t:Nat) (u qs:List Int),t+qs.length=la-(k+2)+1→u.length=la+1→Au Ak u→Au Ak qs→zc Ak (u.drop t)<zc Ak v→W0=zc Ak u+zc Ak v*((Ak:Int)^t*zc Ak qs)→
   Ends IK (L4 s v (la+1) ((k+2:Nat):Int) (la-(k+2)+1) ((t:Int)-1) (zm t 0++qs) u) Q
 |0,u,qs,hl,hu,hd,hdq,hlt,he=>by
  refine zu (Dp ..) (zP (by simp) ?_);exact hq u qs hu hd hdq hlt (by omega) (by rw[he,zV,zX])
 |j+1,u,qs,hl,hu,hd,hdq,hlt,he=>by
  obtain⟨lo,r,rfl,hlo⟩:∃lo r:List Int,u=lo++r∧lo.length=j:=⟨u.take j,u.drop j,(yf j u).symm,by rw[zM];omega⟩;have hdlo:Au Ak lo:=fun d hd'=>hd d (yy.2 (.inl hd'))
  have hdr:Au Ak r:=fun d hd'=>hd d (yy.2 (.inr hd'))
  have hrl:r.length=la+1-j:=by rw[qd]at hu;omega
  have hdrop:∀z:List Int,(lo++z).drop j=z:=fun z=>by rw[←hlo];exact List.drop_left
  have hr0:r=r.getD 0 0::r.drop 1:=by
   have:=B5 (l:=r) (i:=0) (by omega);rw[List.drop_zero]at this;exact this
  have hd1:(lo++r).drop (j+1)=r.drop 1:=by rw[qq j 1,qq 1 j, ←qe,hdrop]
  rw[hd1]at hlt;have g0:=Jd (b:=Ak) (by decide) hdr 0;have hvr:zc Ak r=r.getD 0 0+18446744073709551616*zc Ak (r.drop 1):=by
   conv=>lhs;rw[hr0]
   rfl
  have hVlt:=Bn (b:=Ak) (by decide) hv;rw[hn]at hVlt;have g0:0≤r.getD 0 0∧r.getD 0 0<18446744073709551616:=g0;have hrV:zc Ak r<18446744073709551616*zc Ak v:=by rw[hvr];omega
  have hz:zc Ak (r.drop (k+3))=0:=by
   refine Ij (b:=Ak) (by decide) hdr (by omega) ?_;have ep:(Ak:Int)^(k+3)=(Ak:Int)^(k+2)*18446744073709551616:=zy ..;rw[ep];omega
  have uu0:=AS hdr (k+2);have uu1:=AS hdr (k+1);have uu2:=AS hdr k;have uv1:=AS hv (k+1);have gu0:=qw uu0;have gu1:=qw uu1;have gu2:=qw uu2;have gv1:=qw uv1;have gv2:=qw (AS hv k);have hP:=AM (b:=Ak) (by decide) k;have hW:=mA Ak r k (by omega) hz;have hV:=jH Ak v k hn;have hu':=Ay (b:=Ak) (by decide) (AK hdr k);have hu'':=Bn (b:=Ak) (by decide) (AK hdr k);have hv':=Ay (b:=Ak) (by decide) (AK hv k);rw[zM,zU (by omega)]at hu'';have hle:r.getD (k+2) 0≤v.getD (k+1) 0:=by
   have a1:=B6 Ak (r.drop 1) (k+1) (by rw[yv];omega);have a2:(r.drop 1).drop (k+1)=r.getD (k+2) 0::r.drop (k+3):=by
    rw[qe,show 1+(k+1)=k+2 by omega];exact B5 (by omega)
   have a3:zc Ak (r.getD (k+2) 0::r.drop (k+3))=r.getD (k+2) 0:=by
    show r.getD (k+2) 0+(Ak:Int)*zc Ak (r.drop (k+3))=_;rw[hz];omega
   rw[a2,a3]at a1;have b1:zc Ak v=zc Ak (v.take (k+1))+(Ak:Int)^(k+1)*v.getD (k+1) 0:=by
    rw[←AD,zq (by omega)]
   have b2:=Bn (b:=Ak) (by decide) (AK hv (k+1));rw[zM,zU (by omega)]at b2;have c1:=Ay (b:=Ak) (by decide) (AK (Ef hdr 1) (k+1));have c2:(Ak:Int)^(k+1)*r.getD (k+2) 0<(Ak:Int)^(k+1)*(v.getD (k+1) 0+1):=by
    rw[zw,yc];omega
   have:=zL c2 (zr (AM (by decide) (k+1)));omega
  have hfin:∀(q:Int) (r':List Int),r'.length=la+1-j→Au Ak r'→(0≤q∧q<18446744073709551616)→zc Ak r'<zc Ak v→zc Ak r'=zc Ak r-q*zc Ak v→Ends IK (L4 s v (la+1) ((k+2:Nat):Int) (la-(k+2)+1) (zh .i64 ((j:Int)-1)) ((zm (j+1) 0++qs).set j q) (lo++r')) Q:=by
   intro q r' h1 h2 h3 h4 h5;have es:(zm (j+1) (0:Int)++qs).set j q=zm j 0++(q::qs):=by
    rw[yx,zN];exact C5 _ _ _ _ (by simp)
   rw[es,wr ((j:Int)-1) (by omega) (by omega)];refine BP s v k la hn hla hkl hv hv1 W0 hq j (lo++r') (q::qs) (by simp;omega) (by simp;omega) (EC hdlo h2) (fun d hd'=>?_) (by rw[hdrop];exact h4) ?_
   ·rcases yw.1 hd' with rfl|hd'
    ·exact h3
    ·exact hdq d hd'
   ·rw[he,CF,CF,hlo,h5,JG];show zc Ak lo+(Ak:Int)^j*zc Ak r+zc Ak v*((Ak:Int)^j*(18446744073709551616*zc Ak qs))=zc Ak lo+(Ak:Int)^j*(zc Ak r-q*zc Ak v)+zc Ak v*((Ak:Int)^j*(q+18446744073709551616*zc Ak qs));have x1:zc Ak v*((Ak:Int)^j*q)=(Ak:Int)^j*(q*zc Ak v):=by
     rw[zQ,zz (zc Ak v) q]
    rw[yh,zw ((Ak:Int)^j) q,zw (zc Ak v),x1];omega
  have ez:jg 0 j=j:=je j;have e0:(((j+1:Nat):Int)-1)=(j:Int):=by omega
  have e1:zh .i64 (zh .i64 ((j:Int)+((k+2:Nat):Int))+1)=((j+(k+3):Nat):Int):=by
   rw[wr ((j:Int)+((k+2:Nat):Int)) (by omega) (by omega),wr _ (by omega) (by omega)];omega
  have e2:zh .i64 (((k+2:Nat):Int)-1)=((k+1:Nat):Int):=by rw[wr _ (by omega) (by omega)];omega
  have e3:jf (j+(k+3)) j=k+3:=by show j+(k+3)-j=_;omega
  have lw1:decide (jg (k+2) j<(lo++r).length)=true:=lw hlo (by omega);have lw2:decide (jg (k+1) j<(lo++r).length)=true:=lw hlo (by omega);rw[e0];refine zu (Dp ..) (ze (by simp) ?_);rw[hn,e1,e2,zj,zj,zj,zj,ez,e3,gw hlo,gw hlo];have b1:(decide ((0:Int)≤((k+2:Nat):Int))&&decide (((k+2:Nat):Int)<((k+3:Nat):Int)))=true:=by simp;omega
  have b2:(decide ((0:Int)≤((k+1:Nat):Int))&&decide (((k+1:Nat):Int)<((k+2:Nat):Int)))=true:=by simp;omega
  have b3:(decide ((0:Int)≤((k+1:Nat):Int))&&decide (((k+1:Nat):Int)<((k+3:Nat):Int)))=true:=by simp;omega
  have hjl:j<(zm (j+1) (0:Int)++qs).length:=by simp;omega
  refine ze (by simp;omega) (ze b1 (ze lw1 (ze b2 (zt (fun c=>?_) (fun c=>?_)))))
  ·have c:=of_decide_eq_true c;obtain⟨a1,a2,a3⟩:=JO uu1 uv1 (c:=0) (by decide);refine ze b3 (ze lw2 (ze b2 (ze (Ac (Ac (Ac uu1 uv1) rfl) rfl) ?_)));refine Co s v (la+1) _ _ _ _ _ v k j lo (la+1-j) r _ hn (by omega) (by omega) hlo (by omega) hjl hv hrl hdr hz hv1 hfin 18446744073709551616 _ _ _ (by decide) (by decide) (by decide) a1 (by omega) ?_ ?_
   ·rw[a3];omega
   ·exact hrV
  ·have c:=of_decide_eq_false c;obtain⟨d1,d2,d3,d4,d5⟩:=yN (r:=r.getD (k+2) 0) (x:=r.getD (k+1) 0) (d:=v.getD (k+1) 0) (by omega) (by omega) gu1;refine ze b1 (ze lw1 (ze b3 (ze lw2 (ze b2 (ze (Ac (Ac (Ac uu0 uu1) uv1) (decide_eq_true (by omega))) ?_)))));refine Co s v (la+1) _ _ _ _ _ v k j lo (la+1-j) r _ hn (by omega) (by omega) hlo (by omega) hjl hv hrl hdr hz hv1 hfin 18446744073709551616 _ _ _ d2 d3 d3 (Cv d4 (by omega)) (.inl rfl) ?_ ?_
   ·rw[←d1];omega
   ·rw[hW,hV];exact Mb hP (by decide) d2 hv' gv2.1 hu'' gu2.2 d1 d5
end T230
end Go.Pe
end
section
namespace Go.Pe
open Sp
open Go.Det
theorem Sv{a b:Int}{s:Nat}(ha:0≤a)(hb:0≤b)(h:b<2^s)(hm:a*2^s+b<18446744073709551616):TZ .u64 b (a*2^s)=a*2^s+b:=by
 have:=Q1 ha hb h hm;rw[←this];show zh .u64 (((zW 64 b|||zW 64 (a*2^s)).toNat:Nat):Int)=zh .u64 (((zW 64 (a*2^s)|||zW 64 b).toNat:Nat):Int);rw[BitVec.or_comm]
theorem WG{s:Nat}(hs:s≤63):(18446744073709551616:Int)=2^s*2^(64-s):=by rw[←qy,show s+(64-s)=64 by omega];rfl
namespace T230
variable {Q:PV→Ob→Prop}
theorem Em(s:Nat)(hs:s≤63)(la n m:Nat)(hn:n≤la)(hla:la≤9000)(u qs:List Int)(hu:u.length=la+1)(hd:Au Ak u)(hz:zc Ak (u.drop n)=0)(hm:qs.length=m)(hm9:m≤9000)(hdq:Au Ak qs)
  (hq:∀(w:List Int) ob,Au Ak w→zc Ak w=zc Ak u/2^s→Q (.tup [.dat CZ (Ar qs),.dat CZ (Ar w)]) ob):
  ∀(k i:Nat) (p:List Int),i+k=n→p.length=i→Au Ak p→zc Ak p+(Ak:Int)^i*(zc Ak (u.drop i)/2^s)=zc Ak u/2^s→
   Ends IK (L6 s (la+1) n m n i qs (p++u.drop i)) Q
 |0,i,p,hi,hp,hdp,he=>by
  have hi:i=n:=by omega
  subst hi;have ht:(p++u.drop i).take i=p:=by rw[←hp];exact qz
  have ht2:qs.take m=qs:=zq (by omega);rw[hz,Int.zero_ediv,ym,qc]at he;refine zu (Hg ..) (zP (by simp) ?_);rw[zj,ht,ht2];refine ze (by simp;omega) (ze (Ac (by simp;omega) (DR (by omega) hdq)) (ze (Ac (by simp;omega) (DR (by omega) hdp)) (zp (hq p _ hdp he))))
 |k+1,i,p,hi,hp,hdp,he=>by
  have d1:=B5 (l:=u) (i:=i) (by omega);have d2:=B5 (l:=u) (i:=i+1) (by omega);have gx:=qw (AS hd i);have gy:=qw (AS hd (i+1));have g1:(p++u.drop i).getD i 0=u.getD i 0:=by rw[d1];exact Di _ _ _ _ hp
  have s1:∀z,(p++u.drop i).set i z=p++z::u.drop (i+1):=fun z=>by rw[d1];exact C5 _ _ _ _ hp
  have s2:∀z x,(p++z::u.drop (i+1)).set i x=(p++[x])++u.drop (i+1):=fun z x=>by rw[C5 _ _ _ _ hp,zN];rfl
  have g2:∀z,(p++z::u.drop (i+1)).getD i 0=z:=fun z=>Di _ _ _ _ hp
  have g3:∀z,(p++z::u.drop (i+1)).getD (i+1) 0=u.getD (i+1) 0:=fun z=>by
   rw[d2,show p++z::u.getD (i+1) 0::u.drop (i+1+1)=(p++[z])++u.getD (i+1) 0::u.drop (i+1+1)by rw[zN];rfl];exact Di _ _ _ _ (by simp[hp])
  have hlen:∀z,(p++z::u.drop (i+1)).length=la+1:=fun z=>by simp;omega
  have hlen0:(p++u.drop i).length=la+1:=by simp;omega
  have e2:zh .i64 ((i:Int)+1)=((i+1:Nat):Int):=by rw[wr _ (by omega) (by omega)];omega
  have e3:zh .i64 ((64:Int)-(s:Int))=((64-s:Nat):Int):=by rw[wr _ (by omega) (by omega)];omega
  have em:Min.min s 64=s:=by omega
  have em2:Min.min (64-s) 64=64-s:=by omega
  have hB:=WG hs;have hc:(0:Int)<2^s:=yi (by decide);have hd':(0:Int)<2^(64-s):=yi (by decide);have efd:Int.fdiv (u.getD i 0) ((2:Int)^s)=u.getD i 0/2^s:=yj _ (zr hc);have a0:0≤u.getD i 0/2^s:=yz gx.1 (zr hc);have a1:u.getD i 0/2^s<2^(64-s):=yu hc (by rw[zz, ←hB];exact gx.2);have m0:=z7 (u.getD (i+1) 0) (show(2:Int)^s≠0 by omega);have m1:=zY (u.getD (i+1) 0) hc;have p0:0≤(u.getD (i+1) 0 % 2^s)*2^(64-s):=zR m0 (zr hd');have p1:(u.getD (i+1) 0 % 2^s)*2^(64-s)≤18446744073709551616-2^(64-s):=by
   have:=zn (show u.getD (i+1) 0 % 2^s≤2^s-1 by omega) (zr hd');rw[qx,zX, ←hB]at this;exact this
  have hnew:0≤u.getD i 0/2^s+(u.getD (i+1) 0 % 2^s)*2^(64-s)∧u.getD i 0/2^s+(u.getD (i+1) 0 % 2^s)*2^(64-s)<18446744073709551616:=by omega
  have ewy:zh .u64 (u.getD (i+1) 0*2^(64-s))=(u.getD (i+1) 0 % 2^s)*2^(64-s):=by
   rw[Ku];exact(TG (b:=18446744073709551616) (c:=2^(64-s)) (d:=2^s) (k:=0) hd' hc (by rw[hB,zz]) ⟨qi _,hd'⟩ gy).1
  have eio:TZ .u64 (u.getD i 0/2^s) ((u.getD (i+1) 0 % 2^s)*2^(64-s))=u.getD i 0/2^s+(u.getD (i+1) 0 % 2^s)*2^(64-s):=by
   rw[Sv m0 a0 a1 (by omega),Int.add_comm]
  have next:∀z,z=u.getD i 0/2^s+(u.getD (i+1) 0 % 2^s)*2^(64-s)→Ends IK (L6 s (la+1) n m n ((i+1:Nat):Int) qs ((p++[z])++u.drop (i+1))) Q:=by
   intro z hz';refine Em s hs la n m hn hla u qs hu hd hz hm hm9 hdq hq k (i+1) (p++[z]) (by omega) (by simp[hp]) (DI hdp (by rw[hz'];exact Cv hnew.1 hnew.2)) ?_;rw[←he,EB,hp,JG,qj, ←zw];congr 2;have:=Z2 (b:=18446744073709551616) (c:=2^s) (d:=2^(64-s)) (x:=u.getD i 0) (y:=u.getD (i+1) 0) (X:=zc Ak (u.drop (i+1+1))) hc hB;rw[hz',d1,d2];exact this.symm
  have b1:(decide ((0:Int)≤(i:Int))&&decide ((i:Int)<((la+1:Nat):Int)))=true:=by simp;omega
  have b2:(decide ((0:Int)≤((i+1:Nat):Int))&&decide (((i+1:Nat):Int)<((la+1:Nat):Int)))=true:=by simp;omega
  refine zu (Hg ..) (ze (by simp;omega) ?_);rw[e2,e3,zj,zj,zj,zj,em,em2,g1,efd,s1,g2,g3,s2,ewy,eio,hlen,hlen0];refine ze b1 (ze (decide_eq_true (by omega)) (ze (by simp) (ze b1 (ze (decide_eq_true (by omega)) (zt (fun c=>ze (by simp;omega) (ze b1 (ze (decide_eq_true (by omega)) (ze b2 (ze (decide_eq_true (by omega)) (ze (by simp) (ze b1 (ze (decide_eq_true (by omega)) (next _ rfl))))))))) (fun c=>?_))))));have c:=of_decide_eq_false c;have hs0:s=0:=by omega
  subst hs0;rw[show ∀z:Int,p++z::u.drop (i+1)=(p++[z])++u.drop (i+1)from fun z=>by rw[zN];rfl];refine next _ ?_;rw[zV,Int.emod_one,qp,qc]
theorem QE{X:A6}{F:Int→List Int→Tr}(w:List Int)(s:Nat)(hs:s≤63)(hd:Au Ak w)
  (Dl:∀(i:Nat) (o:List Int),i<w.length→o.length=w.length+1→Ends X (F ((i+1:Nat):Int) (if 0<s then(o.set i (TZ .u64 (o.getD i 0) (zh .u64 (w.getD i 0*2^s)))).set (i+1) (Int.fdiv (w.getD i 0) (2^(64-s)))else o.set i (TZ .u64 (o.getD i 0) (zh .u64 (w.getD i 0*2^s))))) Q→Ends X (F i o) Q)
  (hend:∀o:List Int,o.length=w.length+1→Au Ak o→zc Ak o=2^s*zc Ak w→Ends X (F w.length o) Q):
  ∀(k i:Nat) (p:List Int) (c:Int),i+k=w.length→p.length=i→Au Ak p→(0≤c∧c<2^s)→zc Ak p+(Ak:Int)^i*c=2^s*zc Ak (w.take i)→Ends X (F i (p++c::zm k 0)) Q
 |0,i,p,c,hi,hp,hdp,hc,he=>by
  have hi:i=w.length:=by omega
  subst hi;have hP:(2:Int)^s≤18446744073709551616:=by
   have:=WG hs;have h1:(1:Int)≤2^(64-s):=yi (by decide);have h2:=zk h1 (show(0:Int)≤2^s from zr (yi (by decide)));omega
  rw[yn]at he;refine hend _ (by simp[hp]) (DI hdp (Cv hc.1 (by omega))) ?_;rw[←he];show zc Ak (p++[c])=_;rw[EB,hp]
 |k+1,i,p,c,hi,hp,hdp,hc,he=>by
  have gx:=qw (AS hd i);have hB:=WG hs;have h2s:(0:Int)<2^s:=yi (by decide);have h2d:(0:Int)<2^(64-s):=yi (by decide);obtain⟨s1,s2,s3,s4,s5,s6⟩:=TG (b:=18446744073709551616) (c:=2^s) (d:=2^(64-s)) (x:=w.getD i 0) (k:=c) h2s h2d hB hc gx;have efd:Int.fdiv (w.getD i 0) ((2:Int)^(64-s))=w.getD i 0/2^(64-s):=yj _ (zr h2d);have g1:(p++c::zm (k+1) 0).getD i 0=c:=Di _ _ _ _ hp;have st:∀z:Int,(p++c::zm (k+1) 0).set i z=p++z::zm (k+1) 0:=fun z=>C5 _ _ _ _ hp
  have st2:∀z y:Int,(p++z::zm (k+1) 0).set (i+1) y=(p++[z])++y::zm k 0:=fun z y=>by
   rw[show p++z::zm (k+1) (0:Int)=(p++[z])++0::zm k 0 by rw[zN];rfl];exact C5 _ _ _ _ (by simp[hp])
  have eio:TZ .u64 c ((w.getD i 0 % 2^(64-s))*2^s)=(w.getD i 0 % 2^(64-s))*2^s+c:=Sv (z7 _ (by omega)) hc.1 hc.2 s2;have go:=QE w s hs hd Dl hend k (i+1) (p++[(w.getD i 0 % 2^(64-s))*2^s+c]) (w.getD i 0/2^(64-s)) (by omega) (by simp[hp]) (DI hdp (Cv (by omega) s2)) ⟨s4,s5⟩ (by
   rw[EB,hp,JG,AD,zw (2^s), ←he,qj,qj, ←zw,zQ (2^s), ←zw];congr 2;rw[zz (2^s)];omega)
  refine Dl i _ (by omega) (by simp;omega) ?_;rw[Ku,s1,efd,g1,eio,st,st2];by_cases h0:0<s
  ·rw[if_pos h0];exact go
  ·have hs0:s=0:=by omega
   subst hs0;have hz:w.getD i 0/2^(64-0)=0:=yt gx.1 gx.2;rw[hz]at go;rw[if_neg h0,show ∀z:Int,p++z::zm (k+1) (0:Int)=(p++[z])++0::zm k 0 from fun z=>by rw[zN];rfl];exact go
end T230
end Go.Pe
end
section
namespace Go.Pe
open Sp
open Go.Det
theorem lO:∀g sp,IK.sp g=some sp→Ae AT g sp:=
 Aa T221.ok (Aa T269.ok (Aa T223.ok (Aa T268.ok (Aa T270.ok (Aa fJ (Aa T272.ok (fun g sp h=>by cases h)))))))
theorem Jm{w:List Int}(hd:Au Ak w)(hn:Sp.nz w){k:Nat}(hl:w.length=k+1):0<w.getD k 0∧w.getD k 0<18446744073709551616:=by
 have g:=qw (AS hd k);refine⟨?_,g.2⟩;have e:w.getLast?=some (w.getD k 0):=by
  rw[qh,hl,yo,zZ,qk (by omega)];rfl
 unfold Sp.nz at hn;rw[e]at hn;have:w.getD k 0≠0:=fun h=>hn (by rw[h])
 omega
namespace T230
set_option maxHeartbeats 1000000 in
theorem ok:Ae AT 230 FE:=by
 refine Av (X:=IK) rfl lO (d:=9) (by kernel_rfl) (by kernel_rfl) (by kernel_rfl) (fun(i:List Int×List Int) hi=>?_) (Ad (by kernel_rfl));obtain⟨a,b⟩:=i;have hi:(B0 a&&B0 b&&decide (a.length≤9000)&&decide (b.length≤9000)&&decide (0<An b))=true:=hi;rw[zl,zl,zl,zl,decide_eq_true_eq,decide_eq_true_eq,decide_eq_true_eq]at hi;obtain⟨⟨⟨⟨na,nb⟩,la9⟩,lb9⟩,hb0⟩:=hi;obtain⟨_,da,za⟩:=Ey na;obtain⟨_,db,zb⟩:=Ey nb;have hb0:0<zc Ak b:=hb0;have ha0:=Ay (b:=Ak) (by decide) da;have hg:∀q r ob,q=Bo (An a/An b)→r=Bo (An a % An b)→Af FE (a,b) (PV.tup [PV.dat CZ q,PV.dat CZ r]) ob:=fun q r ob e1 e2=>yk rfl rfl (Prod.ext e1 e2)
 have fin:∀(q r:List Int) ob,Au Ak q→Au Ak r→zc Ak a=zc Ak q*zc Ak b+zc Ak r→zc Ak r<zc Ak b→Af FE (a,b) (PV.tup [PV.dat CZ (Ar q),PV.dat CZ (Ar r)]) ob:=by
  intro q r ob dq dr he hr;have hr0:=Ay (b:=Ak) (by decide) dr;obtain⟨u1,u2⟩:=(z8 (a:=zc Ak a) (b:=zc Ak b) (r:=zc Ak r) (q:=zc Ak q) hb0).2 ⟨by rw[zz (zc Ak b)];omega,hr0,hr⟩;refine hg _ _ ob ?_ ?_
  ·rw[Kg dq];show Bo (zc Ak q)=Bo (zc Ak a/zc Ak b);rw[u1]
  ·rw[Kg dr];show Bo (zc Ak r)=Bo (zc Ak a % zc Ak b);rw[u2]
 have hbne:b≠[]:=by rintro rfl;simp[zc]at hb0
 have hblen:b.length≠0:=fun h=>hbne (zO.1 h)
 refine ye (Am a b) (ze (by rw[na,nb];rfl) (zt (fun c=>?_) (fun c=>?_)))
 ·have c:=of_decide_eq_true c;have hlt:zc Ak a<zc Ak b:=by
   unfold BW at c;have c:(if zc Ak a<zc Ak b then(-1:Int)else if zc Ak a>zc Ak b then 1 else 0)<0:=c;split at c
   ·assumption
   ·split at c<;>omega
  refine zp (yk rfl rfl ?_);show([],a)=(Bo (zc Ak a/zc Ak b),Bo (zc Ak a % zc Ak b));rw[yt ha0 hlt,Int.emod_eq_of_lt ha0 hlt];exact Prod.ext rfl (HN (by decide) da za)
 ·have c:=of_decide_eq_false c;have hge:zc Ak b≤zc Ak a:=by
   rcases zS (zc Ak a) (zc Ak b)with g|g
   ·have:BW (An a) (An b)= -1:=if_pos g;omega
   ·exact g
  have hll:b.length≤a.length:=by
   rcases Nat.lt_or_ge a.length b.length with g|g
   ·have:=Ei (b:=Ak) (by decide) da db zb g;omega
   ·exact g
  refine zt (fun c1=>?_) (fun c1=>?_)
  ·have c1:b.length=1:=by
    have:(b.length:Int)=1:=by simpa using c1
    omega
   obtain⟨d,rfl⟩:=qt.1 c1;have hd:0<d∧d<18446744073709551616:=Jm (k:=0) db zb rfl;have e1:zh .i64 ((a.length:Int)-1)=(a.length:Int)-1:=wr _ (by omega) (by omega);rw[e1,zj];refine ze (by simp;omega) ?_;have:=Aj (Q:=Af FE (a,[d])) a d da hd (by omega) (fun q r ob dq dr he=>by
    refine fin q [r] ob dq (fun x hx=>by rw[yp]at hx;subst hx;exact⟨dr.1,by show x<18446744073709551616;omega⟩) ?_ ?_
    ·rw[val_one,val_one];exact he
    ·rw[val_one,val_one];exact dr.2) a.length [] 0 (by simp) (fun x hx=>by cases hx) ⟨qi _,hd.1⟩ (by rw[qn];simp[zc])
   rw[y7]at this;exact this
  ·have c1:b.length≠1:=by
    have:(b.length:Int)≠1:=by simpa using c1
    omega
   obtain⟨k,hk⟩:∃k,b.length=k+2:=⟨b.length-2,by omega⟩;obtain⟨y0,y1⟩:=Jm (k:=k+1) db zb hk;obtain⟨s,hs,hs63,hlt,_⟩:=Un y0 y1;have hB:=WG hs63;have h2s:(0:Int)<2^s:=yi (by decide);have h2d:(0:Int)<2^(64-s):=yi (by decide);have hyd:b.getD (k+1) 0<2^(64-s):=by
    rw[hB,zz (b.getD (k+1) 0)]at hlt;exact zL hlt (zr h2s)
   have hv1:(Ak:Int)^(k+1)≤2^s*zc Ak b:=by
    have a1:=CW (b:=Ak) (by decide) db zb hbne;rw[hk,show k+2-1=k+1 by omega]at a1;have a2:=zn (show(1:Int)≤2^s by omega) (zr hb0);omega
   have hv2:2^s*zc Ak b<(Ak:Int)^(k+2):=by
    have b1:zc Ak b=zc Ak (b.take (k+1))+(Ak:Int)^(k+1)*b.getD (k+1) 0:=by
     rw[←AD,zq (by omega)]
    have b2:=Bn (b:=Ak) (by decide) (AK db (k+1));rw[zM,zU (by omega)]at b2;have hp:=AM (b:=Ak) (by decide) (k+1);have b3:zc Ak b<(Ak:Int)^(k+1)*2^(64-s):=by
     have:=zk (show b.getD (k+1) 0+1≤2^(64-s)by omega) (zr hp);rw[zw,yc]at this;omega
    have b4:=qf b3 h2s;have b5:(2:Int)^s*((Ak:Int)^(k+1)*2^(64-s))=(Ak:Int)^(k+2):=by
     rw[zQ, ←hB];exact(zy ..).symm
    rw[b5]at b4;exact b4
   have hls:∀o:List Int,Au Ak o→zc Ak o=2^s*zc Ak b→Au Ak (Ar o)∧(Ar o).length=k+2∧zc Ak (Ar o)=2^s*zc Ak b∧1≤(Ar o).getD (k+1) 0:=by
    intro o ho hv;have hd':=GM ho;have hv':zc Ak (Ar o)=2^s*zc Ak b:=by rw[IG,hv]
    have hl':=ZV (b:=Ak) (by decide) hd' (JC o) (k:=k+1) (by rw[hv'];exact hv1) (by rw[hv'];exact hv2);have:=(Jm hd' (JC o) hl').1;exact⟨hd',hl',hv',by omega⟩
   have e2:zh .i64 (((k+2:Nat):Int)-1)=((k+1:Nat):Int):=by rw[wr _ (by omega) (by omega)];omega
   have e3:zh .i64 (((k+2:Nat):Int)+1)=((k+3:Nat):Int):=by rw[wr _ (by omega) (by omega)];omega
   have e4:zh .i64 ((a.length:Int)+1)=((a.length+1:Nat):Int):=by rw[wr _ (by omega) (by omega)];omega
   have e5:zh .i64 ((a.length:Int)-((k+2:Nat):Int))=((a.length-(k+2):Nat):Int):=by rw[wr _ (by omega) (by omega)];omega
   have e6:zh .i64 (((a.length-(k+2):Nat):Int)+1)=((a.length-(k+2)+1:Nat):Int):=by rw[wr _ (by omega) (by omega)];omega
   have e7:zh .i64 ((64:Int)-(s:Int))=((64-s:Nat):Int):=by rw[wr _ (by omega) (by omega)];omega
   have em:Min.min s 64=s:=by omega
   have em2:Min.min (64-s) 64=64-s:=by omega
   rw[hk,e2,e3,zj,zj,hs];refine ze (by simp;omega) (ze (Cv (by omega) y1) (ze (by simp;omega) ?_));refine QE (F:=fun i o=>L2 a b s (k+3) b ((k+2:Nat):Int) i o) b s hs63 db (fun i o hi ho h=>?_) (fun o hol hod hov=>?_) (k+2) 0 [] 0 (by omega) rfl (fun x hx=>by cases hx) ⟨qi _,h2s⟩ (by simp[zc])
   ·have ei:zh .i64 ((i:Int)+1)=((i+1:Nat):Int):=by rw[wr _ (by omega) (by omega)];omega
    have b1:(decide ((0:Int)≤(i:Int))&&decide ((i:Int)<((k+3:Nat):Int)))=true:=by simp;omega
    refine zu (A3 ..) (ze (by simp;omega) ?_);rw[ei,e7,zj,zj,zj,zj,em,em2];refine ze (by simp;omega) (ze b1 (ze (decide_eq_true (by omega)) (ze (by simp) (ze b1 (ze (decide_eq_true (by omega)) (zt (fun c=>ze (by simp) (ze (by simp;omega) (ze (by simp;omega) ?_))) (fun c=>?_)))))))
    ·have c:=of_decide_eq_true c;rw[if_pos (by omega)]at h;exact h
    ·have c:=of_decide_eq_false c;rw[if_neg (by omega)]at h;exact h
   obtain⟨vd,vl,vv,v1⟩:=hls o hod hov;have eo:o.take (k+3)=o:=zq (by omega);rw[hk];refine zu (A3 ..) (zP (by simp) ?_);rw[eo,e4,zj,hk,e2,zj,hs];refine ze (Ac (by simp;omega) (DR (by omega) hod)) (ze (by simp;omega) ?_);refine QE (F:=fun i o'=>L3 a b s (k+3) b ((k+2:Nat):Int) ((k+2:Nat):Int) o s (a.length+1) a a.length i o' o) a s hs63 da (fun i o' hi ho h=>?_) (fun u hul hud huv=>?_) a.length 0 [] 0 (by omega) rfl (fun x hx=>by cases hx) ⟨qi _,h2s⟩ (by simp[zc])
   ·have ei:zh .i64 ((i:Int)+1)=((i+1:Nat):Int):=by rw[wr _ (by omega) (by omega)];omega
    have b1:(decide ((0:Int)≤(i:Int))&&decide ((i:Int)<((a.length+1:Nat):Int)))=true:=by simp;omega
    refine zu (C9 ..) (ze (by simp;omega) ?_);rw[ei,e7,zj,zj,zj,zj,em,em2];refine ze (by simp;omega) (ze b1 (ze (decide_eq_true (by omega)) (ze (by simp) (ze b1 (ze (decide_eq_true (by omega)) (zt (fun c=>ze (by simp) (ze (by simp;omega) (ze (by simp;omega) ?_))) (fun c=>?_)))))))
    ·have c:=of_decide_eq_true c;rw[if_pos (by omega)]at h;exact h
    ·have c:=of_decide_eq_false c;rw[if_neg (by omega)]at h;exact h
   refine zu (C9 ..) (zP (by simp) ?_);rw[eo,vl,e5,e6,zj,hk,e2,zj,hs];refine ze (by simp;omega) ?_;have hpn:=AM (b:=Ak) (by decide) (a.length-(k+2)+1);have start:zc Ak (u.drop (a.length-(k+2)+1))<zc Ak (Ar o):=by
    have a1:=B6 Ak u (a.length-(k+2)+1) (by omega);have a2:=Ay (b:=Ak) (by decide) (AK hud (a.length-(k+2)+1));have a3:=Bn (b:=Ak) (by decide) da;have a4:=qf a3 h2s;have a5:(Ak:Int)^a.length=(Ak:Int)^(a.length-(k+2)+1)*(Ak:Int)^(k+1):=by rw[←qy];congr 1;omega
    have a6:=CW (b:=Ak) (by decide) db zb hbne;rw[hk,show k+2-1=k+1 by omega]at a6;have a7:=zk a6 (zr h2s);have a8:=zk a7 (zr hpn);rw[a5,zQ]at a4;rw[vv];refine zL (a:=(Ak:Int)^(a.length-(k+2)+1)) ?_ (zr hpn);omega
   have go:=BP (Q:=Af FE (a,b)) s (Ar o) k a.length vl la9 (by omega) vd v1 (2^s*zc Ak a) (fun u' qs hul' hud' hdq hlt' hql he=>by
    have hz:zc Ak (u'.drop (k+2))=0:=Ij (b:=Ak) (by decide) hud' (by omega) (by rw[vv]at hlt';omega);refine Em s hs63 a.length (k+2) (a.length-(k+2)+1) (by omega) la9 u' qs hul' hud' hz hql (by omega) hdq (fun w ob hw hwv=>?_) (k+2) 0 [] (by omega) rfl (fun x hx=>by cases hx) (by simp[zc]);have e:zc Ak u'=2^s*(zc Ak a-zc Ak qs*zc Ak b):=by
     rw[vv,zT,zz (zc Ak b)]at he;rw[yh];omega
    have ew:zc Ak w=zc Ak a-zc Ak qs*zc Ak b:=by
     rw[hwv,e];exact ql _ (by omega)
    refine fin qs w ob hdq hw (by omega) ?_;rw[vv,e]at hlt';have:=zL hlt' (zr h2s);omega) (a.length-(k+2)+1) u [] (by simp) hul hud (fun x hx=>by cases hx) start (by rw[huv];simp[zc])
   rw[y7,show((a.length-(k+2)+1:Nat):Int)-1=((a.length-(k+2):Nat):Int)by omega]at go;exact go
end T230
theorem PX:Ae AT 230 FE:=T230.ok
end Go.Pe
end
section
namespace Go.Pe
open Sp
open Go.Det
theorem jO:∀g sp,wU.sp g=some sp→Ae AT g sp:=fun g sp h=>by cases h
theorem T105n.ok:Ae AT 105 TC:=by
 refine Av (X:=wU) rfl jO (d:=9) (by kernel_rfl) (by kernel_rfl) (by kernel_rfl) (fun(n:Int) _=>?_) (Ad (by kernel_rfl));refine ye (T105n.Am n) (zp (yk rfl rfl ?_));show(n,[])=(n,B1 n);rw[DT]
theorem iA:∀g sp,rG.sp g=some sp→Ae AT g sp:=
 Aa T105n.ok (Aa PX (Aa (T218.ok EO) (Aa (T219.ok EO) (Aa T217.ok (Aa T158.ok (Aa T173.ok (fun g sp h=>by cases h)))))))
theorem Vn{m D:Int}(hD:0<D):(m % D=0→(-m)/D= -(m/D)∧(-m) % D=0)∧(m % D≠0→(-m)/D= -(m/D)-1∧(-m) % D=D-m % D):=by
 have e:=z6 m D;have r0:=z7 m (show D≠0 by omega);have r1:=zY m hD;refine⟨fun h=>?_,fun h=>?_⟩
 ·exact(z8 (a:= -m) (b:=D) (r:=0) (q:= -(m/D)) hD).2 ⟨by rw[q9];omega,by omega,by omega⟩
 ·exact(z8 (a:= -m) (b:=D) (r:=D-m % D) (q:= -(m/D)-1) hD).2 ⟨by rw[yh,q9,yc];omega,by omega,by omega⟩
theorem kW{m D:Int}(hm:0≤m)(hD:0<D):(0≤m/D∧m/D≤m)∧(0≤m % D∧m % D≤m∧m % D<D):=by
 have e:=z6 m D;have q0:0≤m/D:=yz hm (by omega);have q1:m/D≤m:=Int.ediv_le_self _ hm;have r0:=z7 m (show D≠0 by omega);have r1:=zY m hD;have:=zR (show 0≤D by omega) q0;exact⟨⟨q0,q1⟩,r0,by omega,r1⟩
theorem WK(n:Bool){v:Int}(h:0≤v):Ag (jc n v)=v:=by
 rw[Dd,Ai];split<;>omega
theorem Du{n:Int}(h:Ag n<(Ak:Int)^9000):A5 (CD n)=true:=by
 have:=MC h (by omega);unfold A5;exact Ac this.1 (decide_eq_true this.2)
theorem ZB{a b:AQ}(h:0<zo a+zo b):D9 a b=CD (zo a+zo b):=by
 unfold D9;split
 ·next c=>
  have:=Ce c.2.2;rw[Bj c.1,Bj c.2.1]at h ⊢;exact(BU (by omega)).symm
 ·rfl
theorem MU:((1:Int),B1 (1:Int))=CD 1:=by rw[DT];rfl
namespace T176
theorem PU{a b:AQ}(q:Int)(h: -9223372036854775808<q∧q<9223372036854775808)(hq:Ft a b=CD q∨(-9223372036854775808<q∧Ft a b=Mq (CD (q+1)) (1,[])∧q+1<9223372036854775808)):Ft a b=(q,[]):=by
 rcases hq with hq|⟨h1,hq,h2⟩
 ·rw[hq,BU h]
 ·rw[hq,BU (by omega)];unfold Mq CV;rw[if_pos ⟨rfl,by decide⟩];unfold D9;rw[if_pos ⟨rfl,rfl,C3 (by show _≤q+1+ -1;omega) (by show q+1+ -1<_;omega)⟩];show(q+1+ -1,[])=(q,[]);rw[show q+1+ -1=q by omega]
set_option maxHeartbeats 1000000 in
theorem ok:Ae AT 176 Gy:=by
 refine Av (X:=rG) rfl iA (d:=9) (by kernel_rfl) (by kernel_rfl) (by kernel_rfl) (fun(i:(Int×List Int)×(Int×List Int)) hi=>?_) (Ad (by kernel_rfl));obtain⟨a,b⟩:=i;have hi:(A5 a&&A5 b&&decide (0<zo b))=true:=hi;rw[zl,zl,decide_eq_true_eq]at hi;obtain⟨⟨ha,hb⟩,hD⟩:=hi;obtain⟨oa,_,na,_,va,ba⟩:=words ha;obtain⟨ob,_,nb,_,vb,bb⟩:=words hb;have eD:Ag (zo b)=zo b:=by rw[Ai];omega
 have hM:=AE (zo a);have eM:Ag (zo a)=if zo a<0 then -zo a else zo a:=rfl
 obtain⟨⟨q0,q1⟩,r0,r1,r2⟩:=kW (D:=zo b) hM hD;obtain⟨z1,z2⟩:=Vn (m:=Ag (zo a)) hD;have hdiv:Re (Bo (Ag (zo a))) (Bo (Ag (zo b)))=true:=by
  unfold Re;exact Ac (Ac (Ac (Ac na nb) (decide_eq_true (Jz hM ba))) (decide_eq_true (Jz (AE _) bb))) (decide_eq_true (by rw[vb,eD];exact hD))
 have fin:∀(q r:AQ) v ob,Wc Gy.outs v ob=some (true,(q,r))→q=Ft a b→r=CD (zo a % zo b)→Af Gy (a,b) v ob:=fun q r v ob h e1 e2=>yk h rfl (by rw[e1,e2];rfl)
 have slow:Ends rG (L1 (decide (zo a<0)) (Bo (An (Bo (Ag (zo a)))/An (Bo (Ag (zo b))))) (Bo (An (Bo (Ag (zo a))) % An (Bo (Ag (zo b))))) 0 0 b.1 b.2) (Af Gy (a,b)):=by
  rw[va,vb,eD];obtain⟨nq,_,vq⟩:=CL (n:=Ag (zo a)/zo b) (k:=9000) q0 (by omega) (by omega);obtain⟨nr,_,vr⟩:=CL (n:=Ag (zo a) % zo b) (k:=9000) r0 (by omega) (by omega);have jr:A5 (CD (jc (decide (zo a<0)) (Ag (zo a) % zo b)))=true:=Du (by rw[WK _ r0];omega);have jq:A5 (CD (jc (decide (zo a<0)) (Ag (zo a)/zo b)))=true:=Du (by rw[WK _ q0];omega);have j1:A5 ((1:Int),B1 (1:Int))=true:=by rw[MU];decide
  have es:Hf (Cq (jc (decide (zo a<0)) (Ag (zo a) % zo b)),Cp (jc (decide (zo a<0)) (Ag (zo a) % zo b)))=Pd (jc (decide (zo a<0)) (Ag (zo a) % zo b)):=by
   show Pd (zo (CD _))=_;rw[Cj]
  refine zu (As ..) (ze nq (ze nr ?_));rw[vq,vr];refine zu (A3 ..) (ze (BQ jr).1 ?_);rw[es];refine zt (fun c=>?_) (fun c=>?_)
  ·have c:=of_decide_eq_true c;have c2:jc (decide (zo a<0)) (Ag (zo a) % zo b)<0:=by
    rw[Ko]at c;split at c
    ·assumption
    ·split at c<;>omega
   have hn:zo a<0:=by
    rcases zS (zo a) 0 with g|g
    ·exact g
    ·rw[Dd,if_neg (by simp;omega)]at c2;omega
   have hr:Ag (zo a) % zo b≠0:=by
    rw[Dd,if_pos (decide_eq_true hn)]at c2;omega
   obtain⟨z3,z4⟩:=z2 hr;refine ze rfl (ze (Ac jq j1) (ze (Ac jr hb) (zp (fin (Mq (CD (jc (decide (zo a<0)) (Ag (zo a)/zo b))) (1,B1 1)) (D9 (CD (jc (decide (zo a<0)) (Ag (zo a) % zo b))) b) _ _ rfl ?_ ?_))))
   ·unfold Ft;rw[if_pos ⟨hn,hr⟩,DT,Dd,if_pos (decide_eq_true hn)]
   ·have ev:zo a= -Ag (zo a):=by rw[eM,if_pos hn];omega
    have ep:zo (CD (jc (decide (zo a<0)) (Ag (zo a) % zo b)))= -(Ag (zo a) % zo b):=by rw[Cj,Dd,if_pos (decide_eq_true hn)]
    have e5:zo a % zo b=zo b-Ag (zo a) % zo b:=by rw[←z4, ←ev]
    rw[ZB (by rw[ep];omega),ep,e5];congr 1;omega
  ·have c:=of_decide_eq_false c;have c2:¬(zo a<0∧Ag (zo a) % zo b≠0):=by
    rintro⟨hn,hr⟩;rw[Dd,if_pos (decide_eq_true hn),Ko,if_pos (by omega)]at c;omega
   refine zp (fin (CD (jc (decide (zo a<0)) (Ag (zo a)/zo b))) (CD (jc (decide (zo a<0)) (Ag (zo a) % zo b))) _ _ rfl ?_ ?_)
   ·unfold Ft;rw[if_neg c2]
   ·congr 1;rcases zS (zo a) 0 with g|g
    ·have hr:Ag (zo a) % zo b=0:=by
      rcases zS 0 (Ag (zo a) % zo b)with g2|g2
      ·exact absurd ⟨g,by omega⟩ c2
      ·omega
     have ev:zo a= -Ag (zo a):=by rw[eM,if_pos g];omega
     have:=(z1 hr).2;rw[←ev]at this;rw[this,hr,Dd];split<;>rfl
    ·rw[Dd,if_neg (by simp;omega),eM,if_neg (by omega)]
 refine ye (Am a b) (zt (fun c1=>zt (fun c2=>zt (fun c3=>?_) (fun c3=>?_)) (fun c2=>?_)) (fun c1=>?_))
 ·have a2:=OG c1;have b2:=OG c2;have c3:a.1≠ -9223372036854775808:=by simpa using c3
  have ra:=Ce (n:=a.1) (by
   have:=oa;unfold C8 at this;rw[zl]at this;exact this.1)
  have rb:=Ce (n:=b.1) (by
   have:=ob;unfold C8 at this;rw[zl]at this;exact this.1)
  have ea:=Bj a2;have eb:=Bj b2;rw[ea]at eM;rw[eb]at hD r2;rw[ea,eb]at q0 q1 r0 r1 z1 z2;rw[ea]at r2;have hq:yb a.1 b.1=if a.1<0 then -(Ag a.1/b.1)else Ag a.1/b.1:=by
   rw[eM];split
   ·have:=Int.neg_tdiv (-a.1) b.1;rw[Int.neg_neg]at this;rw[this,zx (by omega)]
   ·exact zx (by omega)
  have hr:qg a.1 b.1=if a.1<0 then -(Ag a.1 % b.1)else Ag a.1 % b.1:=by
   rw[eM];split
   ·have:=Int.neg_tmod (-a.1) b.1;rw[Int.neg_neg]at this;rw[this,zK (by omega)]
   ·exact zK (by omega)
  refine ze (decide_eq_true (by omega)) (ze (decide_eq_true (by omega)) (zt (fun c=>?_) (fun c=>?_)))
  ·have c:=of_decide_eq_true c;rw[hr]at c;have hn:a.1<0:=by split at c<;>omega
   rw[if_pos hn]at c hq hr;rw[if_pos hn]at eM;obtain⟨z3,z4⟩:=z2 (by omega);have ev:a.1= -Ag a.1:=by omega
   have hqm:Ag a.1/b.1<9223372036854775807:=by
    rcases zS (Ag a.1/b.1) 9223372036854775807 with g|g
    ·exact g
    ·have:=z6 (Ag a.1) b.1;have:=zn (show 1≤b.1 by omega) q0;omega
   refine zp (fin (zh .i64 (zh .i64 (yb a.1 b.1)-1),[]) (zh .i64 (qg a.1 b.1+b.1),[]) _ _ rfl ?_ ?_)
   ·rw[hq,wr (-(Ag a.1/b.1)) (by omega) (by omega),wr _ (by omega) (by omega)];refine(PU _ (by omega) (.inr ⟨by omega,?_,by omega⟩)).symm;unfold Ft;rw[ea,eb,if_pos ⟨hn,by omega⟩,show -(Ag a.1/b.1)-1+1= -(Ag a.1/b.1)by omega]
   ·rw[hr,wr _ (by omega) (by omega)];have:a.1 % b.1=b.1-Ag a.1 % b.1:=by rw[←z4, ←ev]
    rw[ea,eb,this,BU (by omega)];congr 1;omega
  ·have c:=of_decide_eq_false c;rw[hr]at c;refine zp (fin (zh .i64 (yb a.1 b.1),[]) (qg a.1 b.1,[]) _ _ rfl ?_ ?_)
   ·have hqq:Ft a b=CD (yb a.1 b.1):=by
     unfold Ft;rw[ea,eb,hq,if_neg (by rintro⟨h1,h2⟩;rw[if_pos h1]at c;omega),Dd];by_cases h:a.1<0
     ·rw[if_pos (decide_eq_true h),if_pos h]
     ·rw[if_neg (by simp;omega),if_neg h]
    have hb': -9223372036854775808<yb a.1 b.1∧yb a.1 b.1<9223372036854775808:=by
     rw[hq,eM]at*;split<;>split at q1<;>split at q0<;>omega
    rw[wr _ (by omega) (by omega)];exact(PU _ hb' (.inl hqq)).symm
   ·rw[hr];by_cases h:a.1<0
    ·rw[if_pos h]at c ⊢;have hz:Ag a.1 % b.1=0:=by omega
     rw[if_pos h]at eM;have ev:a.1= -Ag a.1:=by omega
     have:=(z1 hz).2;rw[←ev]at this;rw[ea,eb,this,hz];rfl
    ·rw[if_neg h]at c ⊢;rw[if_neg h]at eM;rw[ea,eb,eM,BU (by rw[eM]at r0 r1;omega)]
 ·exact ze oa (ze ob (ze hdiv slow))
 ·exact ze oa (ze ob (ze hdiv slow))
 ·exact ze oa (ze ob (ze hdiv slow))
end T176
theorem lK:∀g sp,tH.sp g=some sp→Ae AT g sp:=
 Aa T176.ok (Aa T212.ok (Aa T173.ok (fun g sp h=>by cases h)))
theorem kD{a:AQ}(h:C8 a=true):SS a=CD (Ag (zo a)):=by
 have hn:=lC h;obtain⟨hr,hw⟩:=Dz h;unfold SS;by_cases h0:a.1<0
 ·rw[if_pos h0,Ai];unfold CV;have hneg:=hn.1 h0;split
  ·next c=>rw[Bj c.1]at hneg ⊢;rw[BU (by omega)];congr 1;omega
  ·congr 1;omega
 ·rw[if_neg h0];obtain⟨s,w⟩:=a;have h0:¬s<0:=h0;rcases hw with hw|⟨h1,h2,h3⟩
  ·have hw:w=[]:=hw;subst hw;have hr: -9223372036854775808≤s∧s<9223372036854775808:=hr;rw[Ec,Ai,BU (by omega)];congr 1;omega
  ·obtain⟨_,d,z⟩:=Ey h1;have h2:s=1∨s= -1:=h2;have h3:9223372036854775808≤An w:=h3;have hne:w≠[]:=by rintro rfl;exact absurd h3 (by decide)
   have hs:s=1:=by omega
   subst hs;rw[Us hne,if_neg (by decide),Ai];have:=Q4 (w:=w) false d z h3;rw[if_neg (by decide),if_neg (by decide)]at this;rw[show((An w).natAbs:Int)=An w by omega,this]
theorem cR(n:Int):Hf (Cq n,Cp n)=Pd n:=by
 show Pd (zo (CD _))=_;rw[Cj]
theorem Kz(n:Int):zo (Cq n,Cp n)=n:=Cj n
theorem W5(m n:Int):SW (Cq m,Cp m) (Cq n,Cp n)=Cq (m % n)∧Tu (Cq m,Cp m) (Cq n,Cp n)=Cp (m % n):=by
 constructor
 ·show Cq (zo (CD _) % zo (CD _))=_;rw[Cj,Cj]
 ·show Cp (zo (CD _) % zo (CD _))=_;rw[Cj,Cj]
theorem Fa{n:Int}(h:A5 (CD n)=true):A5 (Cq n,Cp n)=true:=h
theorem MJ{a:AQ}(h:C8 a=true):M6 a=Cq (Ag (zo a))∧Og a=Cp (Ag (zo a)):=by
 unfold M6 Og;rw[kD h];exact⟨rfl,rfl⟩
theorem SP(x y:Nat):((x:Int) % (y:Int))=((x % y:Nat):Int):=rfl
theorem lY(a b:AQ)(n:Int)(h:n=Sp.gI (zo a) (zo b)):(Cq n,Cp n)=(LM a b,Mh a b):=by subst h;rfl
namespace T152
variable {Q:PV→Ob→Prop}
theorem nE(n:Nat)(h:(n:Int)<(Ak:Int)^9000):A5 (CD (n:Int))=true:=Du (by rw[Ai,Int.natAbs_natCast];exact h)
theorem Aj(g:Nat)(o2 L:Int)(hL:∀n:Nat,(n:Int)<L→A5 (CD (n:Int))=true)(hq:∀ob,Q (.agg [.dat i64 (Cq (g:Int)),.dat (.nlist u64) (Cp (g:Int))]) ob):∀(f x y:Nat),y<f→jh x y=g→(x:Int)<L→(y:Int)<L→
  Ends tH (L1 o2 (Cq (y:Int)) (Cp (y:Int)) (Cq (x:Int)) (Cp (x:Int))) Q
 |0,x,y,h,_,_,_=>by omega
 |f+1,x,y,hy,hg,bx,by'=>by
  have jx:A5 (CD (x:Int))=true:=hL x bx;have jy:A5 (CD (y:Int))=true:=hL y by'
  refine zu (As ..) (ze (BQ (Fa jy)).1 ?_);rw[cR,(W5 _ _).1,(W5 _ _).2,Kz,SP];by_cases h0:y=0
  ·subst h0;rw[Nat.gcd_zero_right]at hg;subst hg;exact zP rfl (zp (hq _))
  ·have hlt:x % y<y:=Nat.mod_lt _ (by omega);refine ze ?_ (ze (Ac (Ac (Fa jx) (Fa jy)) (decide_eq_true (by omega))) ?_)
   ·rw[Ko,if_neg (by omega),if_pos (by omega)];rfl
   ·exact Aj g o2 L hL hq f y (x % y) (by omega) (by rw[qu, ←Nat.gcd_rec,qu];exact hg) by' (by omega)
set_option maxRecDepth 10000 in
theorem ok:Ae AT 152 Xu:=by
 refine Av (X:=tH) rfl lK (d:=9) (by kernel_rfl) (by kernel_rfl) (by kernel_rfl) (fun(i:(Int×List Int)×(Int×List Int)) hi=>?_) (Ad (by kernel_rfl));obtain⟨a,b⟩:=i;have hi:(A5 a&&A5 b)=true:=hi;rw[zl]at hi;obtain⟨ha,hb⟩:=hi;have oa:=(BQ ha).1;have ob:=(BQ hb).1;have ba:=bounds ha;have bb:=bounds hb;rw[Ai]at ba bb;refine ye (Am a b) (ze oa (ze ob ?_));show Ends tH (L1 0 (M6 b) (Og b) (M6 a) (Og a)) _;rw[(MJ oa).1,(MJ oa).2,(MJ ob).1,(MJ ob).2,Ai,Ai];refine Aj (jh (zo a).natAbs (zo b).natAbs) 0 _ nE (fun ob=>yk rfl rfl (lY a b _ ?_)) ((zo b).natAbs+1) _ _ (Nat.lt_succ_self _) rfl ba bb;rw[E3];rfl
end T152
end Go.Pe
end
section
namespace Go.Pe
open Sp
open Go.Det
theorem uS(n:Nat)(h:n<9223372036854775808):G4 .i64 (n:Int) 1=((n % 2:Nat):Int):=by
 have e:(zW 64 (n:Int)&&&zW 64 1).toNat=n % 2:=by
  rw[BitVec.toNat_and];have h1:(zW 64 (n:Int)).toNat=n:=by rw[BitVec.ofInt_natCast,BitVec.toNat_ofNat];exact Nat.mod_eq_of_lt (by omega)
  have h2:(zW 64 1).toNat=2^1-1:=by decide
  rw[h1,h2,Nat.and_two_pow_sub_one_eq_mod]
 show zh .i64 (((zW 64 (n:Int)&&&zW 64 1).toNat:Nat):Int)=_;rw[e];exact wr _ (by omega) (by omega)
namespace T216
variable {Q:PV→Ob→Prop}
theorem SG{c:Int}(h:c≠0):1≤Ag c:=by rw[Ai];omega
theorem V7(c:Int):∀k:Nat,Ag (c^k)=Ag c^k
 |0=>by rw[zV,zV];rfl
 |k+1=>by rw[zy,zy,ID,V7 c k]
theorem one_le_pow{c:Int}(h:1≤c):∀k:Nat,1≤c^k
 |0=>by rw[zV];decide
 |k+1=>by
  rw[zy];have:=zn (one_le_pow h k) (show 0≤c by omega);omega
theorem tT{p c L:Int}{k:Nat}(hL:1<L)(h:Ag (p*c^k)<L)(h1:c=0→Ag p≤1)(h2:c≠0→p≠0):Ag p<L∧(1≤k→Ag c<L)∧(2≤k→Ag (c*c)<L)∧(1≤k→Ag (p*c)<L):=by
 by_cases hc:c=0
 ·subst hc;have:=h1 rfl;have e:Ag 0=0:=rfl;exact⟨by omega,fun _=>by rw[e];omega,fun _=>by rw[ym,e];omega,fun _=>by rw[ym,e];omega⟩
 ·have hp:=SG (h2 hc);have hc1:=SG hc;rw[ID,V7]at h;rw[ID,ID];generalize Ag p=P at*;generalize Ag c=C at*;have k0:1≤C^k:=one_le_pow hc1 k;have a1:P≤P*C^k:=by
   have:=zk k0 (show 0≤P by omega);omega
  have aC:C^k≤P*C^k:=by
   have:=zn hp (show 0≤C^k by omega);omega
  refine⟨by omega,fun hk=>?_,fun hk=>?_,fun hk=>?_⟩
  ·obtain⟨j,rfl⟩:∃j,k=j+1:=⟨k-1,by omega⟩;rw[zy]at aC h;have:=zn (one_le_pow hc1 j) (show 0≤C by omega);omega
  ·obtain⟨j,rfl⟩:∃j,k=j+2:=⟨k-2,by omega⟩;have e:C^(j+2)=C^j*(C*C):=by rw[zy,zy,zT]
   rw[e]at aC h;have:=zn (one_le_pow hc1 j) (zR (show 0≤C by omega) (show 0≤C by omega));omega
  ·obtain⟨j,rfl⟩:∃j,k=j+1:=⟨k-1,by omega⟩;have e:P*C^(j+1)=C^j*(P*C):=by rw[zy,zQ]
   rw[e]at h;have:=zn (one_le_pow hc1 j) (zR (show 0≤P by omega) (show 0≤C by omega));omega
theorem X0{p c:Int}{k j:Nat}(h:k=2*j):p*(c*c)^j=p*c^k:=by
 subst h;rw[Int.pow_mul,zy,zy,zV,zX]
theorem eA{p c:Int}{k j:Nat}(h:k=2*j+1):p*c*(c*c)^j=p*c^k:=by
 subst h;rw[zy,Int.pow_mul,show c^2=c*c by rw[zy,zy,zV,zX],zT,zz c]
theorem uI{x:Int}(h:x<(18446744073709551616:Int)^(4000:Nat)):x<(Ak:Int)^9000:=
 yq h (AI (b:=Ak) (by decide) (by omega))
theorem Aj(o1 R:Int)(hR:Ag R<(18446744073709551616:Int)^(4000:Nat))(hq:∀ob,Q (.agg [.dat i64 (Cq R),.dat (.nlist u64) (Cp R)]) ob):
  ∀(f k:Nat) (p:Int) (a:AQ),k<f→k≤100000→(1≤k→A5 a=true)→p*zo a^k=R→(zo a=0→Ag p≤1)→(zo a≠0→p≠0)→
   Ends sU (L1 (k:Int) (Cq p) (Cp p) o1 a.1 a.2) Q
 |0,k,p,a,h,_,_,_,_,_=>by omega
 |f+1,k,p,a,hk,hk2,ha,he,h1,h2=>by
  have hL:(1:Int)<(18446744073709551616:Int)^(4000:Nat):=yq (show(1:Int)<18446744073709551616^(1:Nat)by decide) (AI (b:=18446744073709551616) (by decide) (by omega));rw[←he]at hR;obtain⟨s1,s2,s3,s4⟩:=tT hL hR h1 h2;by_cases h0:k=0
  ·subst h0;rw[zV,yc]at he;subst he;exact zu (As ..) (zP (by simp) (zp (hq _)))
  ·have jp:A5 (Cq p,Cp p)=true:=Du (uI s1);have ja:A5 a=true:=ha (by omega);have ef:Int.fdiv (k:Int) ((2:Int)^(1:Nat))=((k/2:Nat):Int):=by
    rw[yj _ (by decide)];rfl
   have m1:(Ex (Cq p,Cp p) a,Ew (Cq p,Cp p) a)=CD (p*zo a):=by
    show CD (zo (CD p)*zo a)=_;rw[Cj]
   have m1s:Ex (Cq p,Cp p) (a.1,a.2)=Cq (p*zo a):=congrArg Prod.fst m1;have m1w:Ew (Cq p,Cp p) (a.1,a.2)=Cp (p*zo a):=congrArg Prod.snd m1;have m2:zo (EH a a)=zo a*zo a:=Df a a;have sq:∀q:Int,1<k→q*(zo a*zo a)^(k/2)=p*zo a^k→(zo a=0→Ag q≤1)→(zo a≠0→q≠0)→Ends sU (L1 ((k/2:Nat):Int) (Cq q) (Cp q) o1 (Ex (a.1,a.2) (a.1,a.2)) (Ew (a.1,a.2) (a.1,a.2))) Q:=by
    intro q hk1 hq' g1 g2;refine Aj o1 R (by rw[he]at hR;exact hR) hq f (k/2) q (EH a a) (by omega) (by omega) (fun _=>Du (uI (s3 (by omega)))) (by rw[m2,hq',he]) (fun z=>g1 ?_) (fun z=>g2 ?_)
    ·rw[m2]at z;rcases Int.mul_eq_zero.1 z with z|z<;>exact z
    ·rintro z2;rw[m2,z2]at z;exact z rfl
   have st:∀q:Int,k=1→q=R→Ends sU (L1 ((k/2:Nat):Int) (Cq q) (Cp q) o1 a.1 a.2) Q:=by
    intro q hk1 hq';subst hk1 hq';exact zu (As ..) (zP (by simp) (zp (hq _)))
   refine zu (As ..) (ze (decide_eq_true (by omega)) ?_);rw[uS k (by omega),ef,m1s,m1w];refine zt (fun c=>?_) (fun c=>?_)
   ·have c:((k % 2:Nat):Int)=1:=by simpa using c
    refine ze (Ac jp ja) (zt (fun d=>ze (Ac ja ja) (ze rfl ?_)) (fun d=>ze rfl ?_))
    ·have d:=of_decide_eq_true d;refine sq _ (by omega) (eA (by omega)) (fun z=>by rw[z,ym];decide) (fun z=>?_);exact Int.mul_ne_zero (h2 z) z
    ·have d:=of_decide_eq_false d;have hk1:k=1:=by omega
     refine st _ hk1 ?_;rw[←he,hk1,zy,zV,zX]
   ·have c:((k % 2:Nat):Int)≠1:=by simpa using c
    refine zt (fun d=>ze (Ac ja ja) (ze rfl ?_)) (fun d=>?_)
    ·have d:=of_decide_eq_true d;exact sq _ (by omega) (X0 (by omega)) h1 h2
    ·have d:=of_decide_eq_false d;omega
theorem kT:∀g sp,sU.sp g=some sp→Ae AT g sp:=Aa T105n.ok (Aa T159.ok (fun g sp h=>by cases h))
theorem ok:Ae AT 216 dK:=by
 refine Av (X:=sU) rfl kT (d:=9) (by kernel_rfl) (by kernel_rfl) (by kernel_rfl) (fun(i:(Int×List Int)×Int) hi=>?_) (Ad (by kernel_rfl));obtain⟨a,k⟩:=i;have hi:(A5 a&&(decide (0≤k)&&decide (k≤100000)&&decide (Ag (Sp.pI (zo a) k)<(18446744073709551616:Int)^(4000:Nat))))=true:=hi;rw[zl,zl,zl,decide_eq_true_eq,decide_eq_true_eq,decide_eq_true_eq,RC]at hi;obtain⟨ha,⟨k0,k1⟩,hR⟩:=hi;obtain⟨n,rfl⟩:=yr k0;have e1:B1 1=Cp 1:=by rw[DT];rfl
 refine ye (Am a n) (ze rfl ?_);rw[e1];refine Aj (Q:=Af dK (a,(n:Int))) 0 (zo a^n) hR (fun ob=>yk rfl rfl ?_) (n+1) n 1 a (by omega) (by omega) (fun _=>ha) (zX _) (fun _=>by decide) (fun _=>by decide);show CD _=CD (Sp.pI (zo a) (n:Int));rw[RC];rfl
end T216
end Go.Pe
end
section
namespace Go.Sp
theorem Nc{l:List Int}(h:I6 l=true):l.length≤20000∧Au B9 l:=by
 unfold I6 at h;rw[zl,decide_eq_true_eq,List.all_eq_true]at h;exact⟨h.1,fun d hd=>by
  have:=h.2 d hd;rw[zl,decide_eq_true_eq,decide_eq_true_eq]at this;exact this⟩
theorem KO{l:List Int}(h1:l.length≤20000)(h2:Au B9 l):I6 l=true:=by
 unfold I6;rw[zl,decide_eq_true_eq,List.all_eq_true];exact⟨h1,fun d hd=>by
  have:=h2 d hd;rw[zl,decide_eq_true_eq,decide_eq_true_eq];exact this⟩
theorem oW{l:List Int}(h:hR l=true):l.length≤9000∧Au B9 l:=by
 unfold hR at h;rw[zl,decide_eq_true_eq]at h;exact⟨h.2,(Nc h.1).2⟩
theorem PW{l:List Int}(h1:l.length≤9000)(h2:Au B9 l):hR l=true:=by
 unfold hR;rw[KO (by omega) h2,qm];exact decide_eq_true h1
theorem Bh{l:List Int}(h:A4 l=true):l.length≤20000∧Au B9 l∧nz l:=by
 unfold A4 at h;rw[zl]at h;have:=Nc h.1;exact⟨this.1,this.2,by
  have:=h.2;unfold pH at this;have:l.getLast?≠some 0:=of_decide_eq_true this;exact this⟩
theorem ZT{l:List Int}(h1:l.length≤20000)(h2:Au B9 l)(h3:nz l):A4 l=true:=by
 unfold A4 pH;rw[KO h1 h2,qm];exact decide_eq_true h3
theorem F4{l:List Int}(h:Au B9 l)(i:Nat):0≤l.getD i 0∧l.getD i 0<1000000000:=Jd (by decide) h i
theorem EM{l:List Int}{x:Int}(h:Au B9 l)(hx:0≤x∧x<1000000000):Au B9 (l++[x]):=EC h (fun d hd=>by rw[yp]at hd;subst hd;exact hx)
theorem B2(l:List Int)(x:Int):val B9 (l++[x])=val B9 l+(B9:Int)^l.length*x:=by
 rw[CF];simp[val]
theorem I2(i:Nat)(c:Int):(B9:Int)^(i+1)*c=(B9:Int)^i*(1000000000*c):=by
 rw[zy,zT];rfl
theorem E6{l:List Int}(h:Au B9 l):Ar l=BL (Aq l):=Wo (by decide) h
theorem Mz{n:Int}{k:Nat}(h0:0≤n)(h:n<(B9:Int)^k):(BL n).length≤k:=by
 refine MF B9 (by decide) k n.toNat n.toNat ?_;have e:((B9^k:Nat):Int)=(B9:Int)^k:=Int.natCast_pow ..;rw[←e]at h;generalize B9^k=P at*;omega
theorem Gw{n:Int}{k:Nat}(h0:0≤n)(h:n<(B9:Int)^k)(hk:k≤9000):A4 (BL n)=true∧hR (BL n)=true∧Aq (BL n)=n∧(BL n).length≤k:=by
 have h1:=Mz h0 h;have h2:=ET (b:=B9) (by decide) n;exact⟨ZT (by omega) h2 (Wu (by decide) n),PW (by omega) h2,CH (by decide) h0,h1⟩
end Go.Sp
namespace Go.Pe
open Sp
open Go.Det
theorem R8:∀g sp,Za.sp g=some sp→Ae AT g sp:=fun g sp h=>by cases h
namespace T227
theorem Aj{Q:PV→Ob→Prop}:∀(n:Nat) (w:List Int),w.length=n→n≤20000→(∀ob,Q (.dat li (Ar w)) ob)→Ends Za (L1 w) Q
 |0,w,hl,_,hq=>by
  have:w=[]:=zO.1 hl;subst this;exact zu (As ..) (zP (by simp) (zp (hq _)))
 |n+1,w,hl,hn,hq=>by
  obtain⟨p,x,rfl⟩:∃p x,w=p++[x]:=by
   have hne:w≠[]:=by rintro rfl;simp at hl
   exact⟨w.dropLast,w.getLast hne,(y8 hne).symm⟩
  have hp:p.length=n:=by simpa using hl
  have e1:zh .i64 (((p++[x]).length:Int)-1)=(n:Int):=by rw[wr _ (by omega) (by omega)];omega
  have g1:(p++[x]).getD n 0=x:=Di _ _ _ _ hp;have t1:(p++[x]).take n=p:=by rw[←hp];exact qz
  refine zu (As ..) (ze (decide_eq_true (by omega)) ?_);rw[e1,zj,g1,t1];refine ze (by simp;omega) (zt (fun c=>ze (by simp;omega) ?_) (fun c=>?_))
  ·have c:x=0:=by simpa using c
   subst c;rw[HY]at hq;exact Aj n p hp (by omega) hq
  ·have c:x≠0:=by simpa using c
   rw[HT (Xj c)]at hq;exact zp (hq _)
theorem ok:Ae AT 227 Rj:=by
 refine Av (X:=Za) rfl R8 (d:=9) (by kernel_rfl) (by kernel_rfl) (by kernel_rfl) (fun(w:List Int) hw=>?_) (Ad (by kernel_rfl));have hw:w.length≤20000:=of_decide_eq_true hw;exact ye (Am w) (Aj w.length w rfl hw (fun ob=>yk rfl rfl rfl))
end T227
theorem Sb:∀g sp,VE.sp g=some sp→Ae AT g sp:=Aa T227.ok (fun g sp h=>by cases h)
theorem T168.ok:Ae AT 168 HU:=by
 refine Av (X:=VE) rfl Sb (d:=9) (by kernel_rfl) (by kernel_rfl) (by kernel_rfl) (fun(i:Bool×List Int) hi=>?_) (Ad (by kernel_rfl));obtain⟨n,w⟩:=i;refine ye (T168.Am n w) (ze hi (zt (fun c=>zp (yk rfl rfl ?_)) (fun c=>zp (yk rfl rfl ?_))))
 ·show(decide (((Ar w).length:Int)>0),Ar w)=(B4 n w,Ar w);unfold B4;rw[c,qm];congr 1;rw[decide_eq_decide];constructor
  ·intro h h2;rw[h2]at h;simp at h
  ·intro h;have:(Ar w).length≠0:=fun h2=>h (zO.1 h2)
   omega
 ·show(false,Ar w)=(B4 n w,Ar w);unfold B4;rw[c];rfl
namespace T170
theorem Aj{Q:PV→Ob→Prop}(a b:List Int)(ha:Au zg a)(hb:Au zg b)(hl:a.length=b.length)(h2:b.length≤20000)(hq:∀ob,Q (.dat i64 (BW (Aq a) (Aq b))) ob):∀(i:Nat),i≤a.length→a.drop i=b.drop i→Ends Za (L1 a b ((i:Int)-1)) Q
 |0,hi,he=>by
  have he:a=b:=he;have:BW (Aq a) (Aq b)=0:=by rw[he];unfold BW;simp
  rw[this]at hq;exact zu (As ..) (zP (by simp) (zp (hq _)))
 |i+1,hi,he=>by
  have e1:(((i+1:Nat):Int)-1)=(i:Int):=by omega
  have da:a.drop i=a.getD i 0::a.drop (i+1):=B5 (by omega);have db:b.drop i=b.getD i 0::a.drop (i+1):=by rw[he];exact B5 (by omega)
  rw[e1];refine zu (As ..) (ze (by simp) ?_);rw[zj];refine ze (by simp;omega) (ze (by simp;omega) (zt (fun d=>?_) (fun d=>ze (by simp;omega) (ze (by simp;omega) (zt (fun c=>?_) (fun c=>?_))))))
  ·have d:=of_decide_eq_true d;have:=Ie (b:=zg) (by decide) ha hb da db d;have e:BW (Aq a) (Aq b)= -1:=by unfold BW;exact if_pos this
   rw[e]at hq;exact zp (hq _)
  ·have c:=of_decide_eq_true c;have:=Ie (b:=zg) (by decide) hb ha db da c;have e:BW (Aq a) (Aq b)=1:=by unfold BW Aq;rw[if_neg (by omega),if_pos (by omega)]
   rw[e]at hq;exact zp (hq _)
  ·have c:=of_decide_eq_false c;have d:=of_decide_eq_false d;rw[wr ((i:Int)-1) (by omega) (by omega)];exact Aj a b ha hb hl h2 hq i (by omega) (by rw[da,db,show a.getD i 0=b.getD i 0 by omega])
theorem ok:Ae AT 170 WD:=by
 refine Av (X:=Za) rfl R8 (d:=9) (by kernel_rfl) (by kernel_rfl) (by kernel_rfl) (fun(i:List Int×List Int) hi=>?_) (Ad (by kernel_rfl));obtain⟨a,b⟩:=i;have hi:(A4 a&&A4 b)=true:=hi;rw[zl]at hi;obtain⟨a1,a2,a3⟩:=Bh hi.1;obtain⟨b1,b2,b3⟩:=Bh hi.2;have hq:∀ob,Af WD (a,b) (.dat i64 (BW (Aq a) (Aq b))) ob:=fun ob=>yk rfl rfl rfl
 refine ye (Am a b) (zt (fun c=>zt (fun d=>?_) (fun d=>?_)) (fun c=>?_))
 ·have d:=of_decide_eq_true d;have e:BW (Aq a) (Aq b)= -1:=by unfold BW;exact if_pos (Ei (by decide) a2 b2 b3 (by omega))
  rw[e]at hq;exact zp (hq _)
 ·have d:=of_decide_eq_false d;have c:(a.length:Int)≠b.length:=by simpa using c
  have:=Ei (b:=zg) (by decide) b2 a2 a3 (by omega);have e:BW (Aq a) (Aq b)=1:=by
   unfold BW Aq;rw[if_neg (by omega),if_pos (by omega)]
  rw[e]at hq;exact zp (hq _)
 ·have c:(a.length:Int)=b.length:=by simpa using c
  rw[wr _ (by omega) (by omega)];exact Aj a b a2 b2 (by omega) b1 hq a.length (by omega) (by rw[qn,qv (by omega)])
end T170
theorem Zc{x y o c:Int}(hx:0≤x∧x<1000000000)(hy:0≤y∧y<1000000000)(ho:0≤o∧o<1000000000)(hc:0≤c∧c<1000000000):
  zh .i64 (zh .i64 (o+zh .i64 (x*y))+c)=o+x*y+c∧qg (o+x*y+c) 1000000000=(o+x*y+c) % 1000000000∧zh .i64 (yb (o+x*y+c) 1000000000)=(o+x*y+c)/1000000000∧
  (0≤(o+x*y+c)/1000000000∧(o+x*y+c)/1000000000<1000000000)∧(0≤(o+x*y+c) % 1000000000∧(o+x*y+c) % 1000000000<1000000000):=by
 have h0:0≤x*y:=zR hx.1 hy.1;have h1:x*y≤999999999*999999999:=by
  have a:=zk (show y≤999999999 by omega) hx.1;have b:=zn (show x≤999999999 by omega) (show(0:Int)≤999999999 by omega);omega
 generalize x*y=P at*;have e1:zh .i64 P=P:=wr _ (by omega) (by omega);have e2:zh .i64 (o+P)=o+P:=wr _ (by omega) (by omega);have e3:yb (o+P+c) 1000000000=(o+P+c)/1000000000:=zx (by omega);refine⟨?_,zK (by omega),?_,by omega,by omega⟩
 ·rw[e1,e2];exact wr _ (by omega) (by omega)
 ·rw[e3];exact wr _ (by omega) (by omega)
namespace T172
variable {Q:PV→Ob→Prop}
theorem AU(x y:List Int)(n i:Nat)(hi:i<x.length)(hn:n=x.length+y.length)(hx9:x.length≤9000)(hy9:y.length≤9000)(hx:Au zg x)(hy:Au zg y)(p:List Int)(hp:p.length=i+y.length)(hdp:Au zg p)
  (hq:∀q c,q.length=i+y.length→Au zg q→(0≤c∧c<1000000000)→zc zg q+(zg:Int)^(i+y.length)*c=zc zg p+(zg:Int)^i*(x.getD i 0*zc zg y)→Ends VE (L1 x y n ((i+1:Nat):Int) ((q++[c])++zm (n-(i+y.length+1)) 0)) Q):∀(k j:Nat) (q:List Int) (c:Int),j+k=y.length→q.length=i+j→Au zg q→(0≤c∧c<1000000000)→zc zg q+(zg:Int)^(i+j)*c=zc zg (p.take (i+j))+(zg:Int)^i*(x.getD i 0*zc zg (y.take j))→
  Ends VE (L2 x y n i c j (q++(p.drop (i+j)++zm (n-(i+y.length)) 0))) Q
 |0,j,q,c,hj,hl,hd,hc,he=>by
  have hj:j=y.length:=by omega
  subst hj;have e1:zh .i64 ((i:Int)+(y.length:Int))=((i+y.length:Nat):Int):=by rw[wr _ (by omega) (by omega)];omega
  have e2:zh .i64 ((i:Int)+1)=((i+1:Nat):Int):=by rw[wr _ (by omega) (by omega)];omega
  have ed:p.drop (i+y.length)=[]:=qv (by omega);have eg:(q++zm (n-(i+y.length)) (0:Int)).getD (i+y.length) 0=0:=by
   have:n-(i+y.length)=(n-(i+y.length+1))+1:=by omega
   rw[this,List.replicate_succ];exact Di _ _ _ _ hl
  refine zu (A3 ..) (zP (by simp) ?_);rw[e1,e2,zj,ed,y9,eg,Int.zero_add,wr c (by omega) (by omega),Ix q n _ c hl (by omega)];refine ze (by simp;omega) (ze (by simp;omega) (ze (by simp;omega) (ze (by simp;omega) (hq q c hl hd hc ?_))));rw[he,zq (by omega),yn]
 |k+1,j,q,c,hj,hl,hd,hc,he=>by
  have gx:=F4 hx i;have gy:=F4 hy j;have gp:=F4 hdp (i+j);have ep:p.drop (i+j)=p.getD (i+j) 0::p.drop (i+j+1):=B5 (by omega);have e1:zh .i64 ((i:Int)+(j:Int))=((i+j:Nat):Int):=by rw[wr _ (by omega) (by omega)];omega
  have e2:zh .i64 ((j:Int)+1)=((j+1:Nat):Int):=by rw[wr _ (by omega) (by omega)];omega
  have lo:(q++(p.drop (i+j)++zm (n-(i+y.length)) (0:Int))).length=n:=by simp;omega
  have g1:(q++(p.drop (i+j)++zm (n-(i+y.length)) (0:Int))).getD (i+j) 0=p.getD (i+j) 0:=by
   rw[ep,List.cons_append];exact Di _ _ _ _ hl
  have s1:∀z,(q++(p.drop (i+j)++zm (n-(i+y.length)) (0:Int))).set (i+j) z=(q++[z])++(p.drop (i+(j+1))++zm (n-(i+y.length)) 0):=by
   intro z;rw[ep,List.cons_append,C5 _ _ _ _ hl,zN];rfl
  obtain⟨m1,m2,m3,m4,m5⟩:=Zc gx gy gp hc;refine zu (A3 ..) (ze (by simp;omega) ?_);rw[e1,e2,zj,zj,zj,g1,m1,m2,m3,s1];have t1:(decide ((0:Int)≤((i+j:Nat):Int))&&decide (((i+j:Nat):Int)<(n:Int)))=true:=by simp;omega
  refine ze t1 (ze (decide_eq_true (by rw[lo];omega)) (ze (by simp;omega) (ze (by simp;omega) (ze rfl (ze t1 (ze (decide_eq_true (by rw[lo];omega)) (ze rfl ?_)))))));refine AU x y n i hi hn hx9 hy9 hx hy p hp hdp hq k (j+1) _ _ (by omega) (by simp;omega) (EM hd m5) m4 ?_;have ea:i+(j+1)=(i+j)+1:=by omega
  have eb:(zg:Int)^i*(x.getD i 0*((zg:Int)^j*y.getD j 0))=(zg:Int)^(i+j)*(x.getD i 0*y.getD j 0):=by
   rw[qy,zT,zQ (x.getD i 0)]
  have e6:(p.getD (i+j) 0+x.getD i 0*y.getD j 0+c) % 1000000000+1000000000*((p.getD (i+j) 0+x.getD i 0*y.getD j 0+c)/1000000000)=x.getD i 0*y.getD j 0+p.getD (i+j) 0+c:=by
   generalize x.getD i 0*y.getD j 0=P;omega
  rw[ea,B2,hl,I2,qj, ←zw,e6,AD _ p (i+j),AD _ y j,zw,zw,zw (x.getD i 0),zw,eb];omega
theorem Aj(x y:List Int)(n:Nat)(hn:n=x.length+y.length)(hx9:x.length≤9000)(hy9:y.length≤9000)(hx:Au zg x)(hy:Au zg y)(hq:∀ob,Q (.dat li (BL (Aq x*Aq y))) ob):∀(k i:Nat) (p:List Int),i+k=x.length→p.length=i+y.length→Au zg p→zc zg p=zc zg (x.take i)*zc zg y→
  Ends VE (L1 x y n i (p++zm (n-(i+y.length)) 0)) Q
 |0,i,p,hi,hp,hd,he=>by
  have hi:i=x.length:=by omega
  subst hi;have ez:p++zm (n-(x.length+y.length)) (0:Int)=p:=by rw[hn,Nat.sub_self];simp
  have hv:Aq p=Aq x*Aq y:=by
   rw[yn]at he;exact he
  rw[ez];refine zu (As ..) (zP (by simp) ?_);rw[zq (by omega)];refine ze ?_ (zp ?_)
  ·simp;omega
  ·rw[E6 hd,hv];exact hq _
 |k+1,i,p,hi,hp,hd,he=>by
  refine zu (As ..) (ze (by simp;omega) ?_);have:=AU (Q:=Q) x y n i (by omega) hn hx9 hy9 hx hy p hp hd (fun q c hl hdq hc hv=>by
   have:=Aj x y n hn hx9 hy9 hx hy hq k (i+1) (q++[c]) (by omega) (by simp;omega) (EM hdq hc) (by
    rw[B2,hl,hv,he,AD,Int.add_mul,zT])
   rw[show i+1+y.length=i+y.length+1 by omega]at this;exact this) y.length 0 (p.take i) 0 (by omega) (by simp;omega) (AK hd i) (by decide) (by simp[zc])
  rw[Nat.add_zero, ←zN,yf]at this;exact this
theorem ok:Ae AT 172 WM:=by
 refine Av (X:=VE) rfl Sb (d:=9) (by kernel_rfl) (by kernel_rfl) (by kernel_rfl) (fun(i:List Int×List Int) hi=>?_) (Ad (by kernel_rfl));obtain⟨x,y⟩:=i;have hi:(Sp.hR x&&Sp.hR y)=true:=hi;rw[zl]at hi;obtain⟨x1,x2⟩:=oW hi.1;obtain⟨y1,y2⟩:=oW hi.2;have e1:zh .i64 ((x.length:Int)+(y.length:Int))=((x.length+y.length:Nat):Int):=by rw[wr _ (by omega) (by omega)];omega
 refine ye (Am x y) ?_;conv=>zeta
 rw[e1,zj];refine ze (by simp;omega) ?_;have:=Aj (Q:=Af WM (x,y)) x y (x.length+y.length) rfl x1 y1 x2 y2 (fun ob=>yk rfl rfl rfl) x.length 0 (zm y.length 0) (by omega) (by simp) (fun d hd=>by rw[(List.mem_replicate.1 hd).2];decide) (by rw[Lx];simp[zc]);rw[je,List.replicate_append_replicate,show y.length+(x.length+y.length-y.length)=x.length+y.length by omega]at this;exact this
end T172
theorem Yo{r x d:Int}(hd:0<d∧d<1000000000)(hr:0≤r∧r<d)(hx:0≤x∧x<1000000000):
  zh .i64 (zh .i64 (r*1000000000)+x)=r*1000000000+x∧zh .i64 (yb (r*1000000000+x) d)=(r*1000000000+x)/d∧qg (r*1000000000+x) d=(r*1000000000+x) % d∧
  (0≤(r*1000000000+x)/d∧(r*1000000000+x)/d<1000000000)∧(0≤(r*1000000000+x) % d∧(r*1000000000+x) % d<d)∧(r*1000000000+x)/d*d+(r*1000000000+x) % d=r*1000000000+x:=by
 have h:=z6 (r*1000000000+x) d;rw[zz]at h;have q0:0≤(r*1000000000+x)/d:=yz (by omega) (by omega);have q1:(r*1000000000+x)/d<1000000000:=yu hd.1 (by omega);refine⟨?_,?_,zK (by omega),⟨q0,q1⟩,⟨z7 _ (by omega),zY _ hd.1⟩,h⟩
 ·rw[wr (r*1000000000) (by omega) (by omega)];exact wr _ (by omega) (by omega)
 ·rw[zx (by omega)];exact wr _ (by omega) (by omega)
namespace T226
variable {Q:PV→Ob→Prop}
theorem Aj(a:List Int)(d:Int)(ha:Au zg a)(hd:0<d∧d<1000000000)(hm:a.length≤20000)(hq:∀q r ob,Au zg q→(0≤r∧r<d)→Aq a=Aq q*d+r→Q (.tup [.dat li (Ar q),.dat i64 r]) ob):∀(i:Nat) (q:List Int) (r:Int),i+q.length=a.length→Au zg q→(0≤r∧r<d)→zc zg (a.drop i)=zc zg q*d+r→
  Ends VE (L1 a d a.length r ((i:Int)-1) (zm i 0++q)) Q
 |0,q,r,hl,hdq,hr,he=>by
  have ht:((zm 0 0++q).take a.length)=q:=by
   rw[List.replicate_zero,y9];exact zq (by omega)
  refine zu (As ..) (zP (by simp) ?_);rw[ht];refine ze (Ac (by simp;omega) (decide_eq_true (by omega))) (zp (hq q r _ hdq hr he))
 |i+1,q,r,hl,hdq,hr,he=>by
  have e1:(((i+1:Nat):Int)-1)=(i:Int):=by omega
  have gx:=F4 ha i;obtain⟨d1,d2,d3,d4,d5,d6⟩:=Yo hd hr gx;have da:a.drop i=a.getD i 0::a.drop (i+1):=B5 (by omega);have es:∀x,(zm (i+1) (0:Int)++q).set i x=zm i 0++(x::q):=by
   intro x;rw[yx,zN];exact C5 _ _ _ _ (by simp)
  rw[e1];refine zu (As ..) (ze (by simp) ?_);rw[zj,es,wr ((i:Int)-1) (by omega) (by omega),d1,d2,d3];refine ze (by simp;omega) (ze (decide_eq_true (by omega)) (ze (by simp;omega) (ze (by simp;omega) (ze (decide_eq_true (by omega)) ?_))));refine Aj a d ha hd hm hq i _ _ (by simp;omega) (fun x hx=>?_) d5 ?_
  ·rcases yw.1 hx with rfl|hx
   ·exact d4
   ·exact hdq x hx
  ·rw[da];show a.getD i 0+(1000000000:Int)*zc zg (a.drop (i+1))=((r*1000000000+a.getD i 0)/d+(1000000000:Int)*zc zg q)*d+(r*1000000000+a.getD i 0) % d;rw[he,Int.add_mul,zw,zT];omega
theorem ok:Ae AT 226 VR:=by
 refine Av (X:=VE) rfl Sb (d:=9) (by kernel_rfl) (by kernel_rfl) (by kernel_rfl) (fun(i:List Int×Int) hi=>?_) (Ad (by kernel_rfl));obtain⟨a,d⟩:=i;have hi:(I6 a&&decide (0<d)&&decide (d<1000000000))=true:=hi;rw[zl,zl,decide_eq_true_eq,decide_eq_true_eq]at hi;obtain⟨⟨ha,d0⟩,d1⟩:=hi;obtain⟨hl,hda⟩:=Nc ha;refine ye (Am a d) ?_;conv=>zeta
 rw[zj,wr ((a.length:Int)-1) (by omega) (by omega)];refine ze (by simp;omega) ?_;have:=Aj (Q:=Af VR (a,d)) a d hda ⟨d0,d1⟩ hl (fun q r ob hq hr he=>?_) a.length [] 0 (by simp) (fun x hx=>by cases hx) ⟨qi _,d0⟩ (by rw[qn];simp[zc])
 ·rw[y7]at this;exact this
 ·refine yk rfl rfl ?_;show(Ar q,r)=(BL (Aq a/d),Aq a % d);obtain⟨u1,u2⟩:=(z8 (a:=Aq a) (b:=d) (r:=r) (q:=Aq q) d0).2 ⟨by rw[zz d];omega,hr.1,hr.2⟩;rw[E6 hq,u1,u2]
end T226
end Go.Pe
end
section
namespace Go.Pe
open Sp
open Go.Det
theorem mY:∀g sp,KU.sp g=some sp→Ae AT g sp:=
 Aa T170.ok (Aa T227.ok (Aa T226.ok (Aa T172.ok (fun g sp h=>by cases h))))
theorem R4{t x y w:Int}(ht:0≤t∧t<1000000000)(hx:0≤x∧x<1000000000)(hy:0≤y∧y<1000000000)(hw:0≤w∧w≤1000000000):
  zh .i64 (zh .i64 (t*x)+w)=t*x+w∧qg (t*x+w) 1000000000=(t*x+w) % 1000000000∧zh .i64 (yb (t*x+w) 1000000000)=(t*x+w)/1000000000∧
  zh .i64 ((t*x+w)/1000000000+1)=(t*x+w)/1000000000+1∧zh .i64 (y-(t*x+w) % 1000000000)=y-(t*x+w) % 1000000000∧(0≤(t*x+w)/1000000000∧(t*x+w)/1000000000<1000000000)∧(0≤(t*x+w) % 1000000000∧(t*x+w) % 1000000000<1000000000):=by
 have h0:0≤t*x:=zR ht.1 hx.1;have h1:t*x≤999999999*999999999:=by
  have a:=zk (show x≤999999999 by omega) ht.1;have b:=zn (show t≤999999999 by omega) (show(0:Int)≤999999999 by omega);omega
 generalize t*x=P at*;have e1:zh .i64 P=P:=wr _ (by omega) (by omega);have e3:yb (P+w) 1000000000=(P+w)/1000000000:=zx (by omega);refine⟨?_,zK (by omega),?_,wr _ (by omega) (by omega),wr _ (by omega) (by omega),by omega,by omega⟩
 ·rw[e1];exact wr _ (by omega) (by omega)
 ·rw[e3];exact wr _ (by omega) (by omega)
theorem Yy(w r:List Int)(i:Nat)(h:i<w.length):(w++r).getD i 0=w.getD i 0:=by
 rw[zZ,zZ,List.getElem?_append_left h]
namespace T164
variable {Q:PV→Ob→Prop}
theorem gW{lo w z:List Int}{h:Int}{j i:Nat}(hlo:lo.length=j)(hi:i<w.length):(lo++(w++h::z)).getD (i+j) 0=w.getD i 0:=by
 rw[GA _ _ _ _ hlo,Yy _ _ _ hi]
theorem sW{lo w z:List Int}{h:Int}{j i:Nat}(x:Int)(hlo:lo.length=j)(hi:i<w.length):(lo++(w++h::z)).set (i+j) x=lo++(w.set i x++h::z):=by
 rw[R3 _ _ _ _ _ hlo,List.set_append_left _ _ hi]
theorem gH{lo w z:List Int}{h:Int}{j n:Nat}(hlo:lo.length=j)(hn:w.length=n):(lo++(w++h::z)).getD (n+j) 0=h:=by
 rw[GA _ _ _ _ hlo];exact Di _ _ _ _ hn
theorem sH{lo w z:List Int}{h:Int}{j n:Nat}(x:Int)(hlo:lo.length=j)(hn:w.length=n):(lo++(w++h::z)).set (n+j) x=lo++(w++x::z):=by
 rw[R3 _ _ _ _ _ hlo];congr 1;exact C5 _ _ _ _ hn
theorem MI(w z:List Int)(h:Int)(hz:zc zg z=0):zc zg (w++h::z)=zc zg w+(zg:Int)^w.length*h:=by
 rw[CF];show _+_*(h+(zg:Int)*zc zg z)=_;rw[hz,ym,qc]
theorem Co(v8n v11n v12n:Nat)(o2 o0 v lo z:List Int)(n j:Nat)(t h' X:Int)(hn:v.length=n)(hn9:n≤9000)(hlo:lo.length=j)(hj:j≤9000)(h11:n+j<v11n)(hjv:j<v12n)(hj1:j<o2.length)(hv:Au zg v)(hz:zc zg z=0)(hdz:Au zg z)(hh: -2000000000≤h'∧h'≤2000000000)
  (hX:0≤X∧X<(zg:Int)^n) (hlen:v11n=j+n+1+z.length)
  (hfin:∀r:List Int,r.length=n+1+z.length→Au zg r→zc zg r=X→Ends KU (L2 v8n v n v11n v12n (zh .i64 ((j:Int)-1)) (o2.set j t) (lo++r) o0) Q):
  ∀(k i:Nat) (w:List Int) (c:Int),i+k=n→w.length=n→Au zg w→(0≤c∧c≤1)→zc zg w+(zg:Int)^n*h'=X-zc zg v+zc zg (v.take i)-(zg:Int)^i*c→
   Ends KU (L5 v8n v n v11n v12n j t c i o2 (lo++(w++h'::z)) o0) Q
 |0,i,w,c,hi,hw,hd,hc,he=>by
  have hi:i=n:=by omega
  subst hi;have e1:zh .i64 ((j:Int)+(i:Int))=((i+j:Nat):Int):=by rw[wr _ (by omega) (by omega)];omega
  have hv1:v.take i=v:=zq (by omega);rw[hv1]at he;have a1:=Ay (b:=zg) (by decide) hd;have a2:=Bn (b:=zg) (by decide) hd;rw[hw]at a2;have hp:=AM (b:=zg) (by decide) i;have e5:zc zg w+(zg:Int)^i*(h'+c)=X:=by rw[zw];omega
  have hzero:h'+c=0:=by
   rcases Int.lt_trichotomy (h'+c) 0 with g|g|g
   ·have:=zk (show h'+c≤ -1 by omega) (zr hp);rw[q9,yc]at this;omega
   ·exact g
   ·have:=zk (show 1≤h'+c by omega) (zr hp);rw[yc]at this;omega
  have hll:i+j<(lo++(w++h'::z)).length:=by simp;omega
  refine zu (Gr ..) (zP (by simp) ?_);rw[e1,zj,zj,gH hlo hw,sH _ hlo hw,wr (h'+c) (by omega) (by omega),hzero];have t1:(decide ((0:Int)≤((i+j:Nat):Int))&&decide (((i+j:Nat):Int)<(v11n:Int)))=true:=by simp;omega
  refine ze t1 (ze (decide_eq_true hll) (ze t1 (ze (decide_eq_true hll) (ze (by simp;omega) (ze (decide_eq_true hj1) (hfin _ (by simp;omega) (EC hd (fun d hd'=>?_)) ?_))))))
  ·rcases yw.1 hd' with rfl|hd'
   ·decide
   ·exact hdz d hd'
  ·rw[MI _ _ _ hz,hw, ←e5,hzero]
 |k+1,i,w,c,hi,hw,hd,hc,he=>by
  have gx:=F4 hv i;have gy:=F4 hd i;have e1:zh .i64 ((i:Int)+(j:Int))=((i+j:Nat):Int):=by rw[wr _ (by omega) (by omega)];omega
  have e2:zh .i64 ((i:Int)+1)=((i+1:Nat):Int):=by rw[wr _ (by omega) (by omega)];omega
  have e3:zh .i64 (zh .i64 (w.getD i 0+v.getD i 0)+c)=w.getD i 0+v.getD i 0+c:=by
   rw[wr (w.getD i 0+v.getD i 0) (by omega) (by omega)];exact wr _ (by omega) (by omega)
  have e4:qg (w.getD i 0+v.getD i 0+c) 1000000000=(w.getD i 0+v.getD i 0+c) % 1000000000:=zK (by omega);have e5:zh .i64 (yb (w.getD i 0+v.getD i 0+c) 1000000000)=(w.getD i 0+v.getD i 0+c)/1000000000:=by
   rw[zx (by omega)];exact wr _ (by omega) (by omega)
  have hll:i+j<(lo++(w++h'::z)).length:=by simp;omega
  refine zu (Gr ..) (ze (by simp;omega) ?_);rw[e1,e2,zj,zj,gW hlo (by omega),sW _ hlo (by omega),e3,e4,e5];have t1:(decide ((0:Int)≤((i+j:Nat):Int))&&decide (((i+j:Nat):Int)<(v11n:Int)))=true:=by simp;omega
  refine ze t1 (ze (decide_eq_true hll) (ze (by simp;omega) (ze rfl (ze t1 (ze (decide_eq_true hll) (ze rfl ?_))))));refine Co v8n v11n v12n o2 o0 v lo z n j t h' X hn hn9 hlo hj h11 hjv hj1 hv hz hdz hh hX hlen hfin k (i+1) _ _ (by omega) (by simp[hw]) (Gs hd i (by show 0≤_∧_<(1000000000:Int);omega)) (by omega) ?_;rw[G7 _ _ _ _ (by omega),I2,AD];have e6:(zg:Int)^i*((w.getD i 0+v.getD i 0+c) % 1000000000-w.getD i 0)=(zg:Int)^i*v.getD i 0+(zg:Int)^i*c-(zg:Int)^i*(1000000000*((w.getD i 0+v.getD i 0+c)/1000000000)):=by
   rw[←zw, ←yh];congr 1;omega
  omega
theorem BP(v8n v11n v12n:Nat)(o2 o0 v lo z:List Int)(n j:Nat)(t h W:Int)(hn:v.length=n)(hn9:n≤9000)(hlo:lo.length=j)(hj:j≤9000)(h11:n+j<v11n)(hjv:j<v12n)(hj1:j<o2.length)(hv:Au zg v)(hh:0≤h∧h<1000000000)(hlen:v11n=j+n+1+z.length)(ht:0≤t∧t<1000000000)
  (h0:∀(w:List Int) (h':Int),w.length=n→Au zg w→0≤h'→zc zg w+(zg:Int)^n*h'=W-t*zc zg v→Ends KU (L2 v8n v n v11n v12n (zh .i64 ((j:Int)-1)) (o2.set j t) (lo++(w++h'::z)) o0) Q)
  (h1:∀(w:List Int) (h':Int),w.length=n→Au zg w→h'<0→ -2000000000≤h'→zc zg w+(zg:Int)^n*h'=W-t*zc zg v→Ends KU (L5 v8n v n v11n v12n j (zh .i64 (t-1)) 0 0 o2 (lo++(w++h'::z)) o0) Q):
  ∀(k i:Nat) (w:List Int) (c:Int),i+k=n→w.length=n→Au zg w→(0≤c∧c≤1000000000)→zc zg w+(zg:Int)^n*h=W-t*zc zg (v.take i)+(zg:Int)^i*c→
   Ends KU (L4 v8n v n v11n v12n j t c i o2 (lo++(w++h::z)) o0) Q
 |0,i,w,c,hi,hw,hd,hc,he=>by
  have hi:i=n:=by omega
  subst hi;have e1:zh .i64 ((j:Int)+(i:Int))=((i+j:Nat):Int):=by rw[wr _ (by omega) (by omega)];omega
  have hv1:v.take i=v:=zq (by omega);rw[hv1]at he;have hll:i+j<(lo++(w++h::z)).length:=by simp;omega
  have hll2:i+j<(lo++(w++(h-c)::z)).length:=by simp;omega
  have e5:zc zg w+(zg:Int)^i*(h-c)=W-t*zc zg v:=by rw[yh];omega
  refine zu (Dp ..) (zP (by simp) ?_);rw[e1,zj,zj,gH hlo hw,wr (h-c) (by omega) (by omega),sH _ hlo hw,gH hlo hw];have t1:(decide ((0:Int)≤((i+j:Nat):Int))&&decide (((i+j:Nat):Int)<(v11n:Int)))=true:=by simp;omega
  refine ze t1 (ze (decide_eq_true hll) (ze t1 (ze (decide_eq_true hll) (ze t1 (ze (decide_eq_true hll2) (zt (fun d=>?_) (fun d=>?_)))))))
  ·have d:=of_decide_eq_true d;exact h1 w (h-c) hw hd d (by omega) e5
  ·have d:=of_decide_eq_false d;exact ze (by simp;omega) (ze (decide_eq_true hj1) (h0 w (h-c) hw hd (by omega) e5))
 |k+1,i,w,c,hi,hw,hd,hc,he=>by
  have gx:=F4 hv i;have gy:=F4 hd i;obtain⟨m1,m2,m3,m4,m5,m6,m7⟩:=R4 ht gx gy hc;have e1:zh .i64 ((i:Int)+(j:Int))=((i+j:Nat):Int):=by rw[wr _ (by omega) (by omega)];omega
  have e2:zh .i64 ((i:Int)+1)=((i+1:Nat):Int):=by rw[wr _ (by omega) (by omega)];omega
  have hll:i+j<(lo++(w++h::z)).length:=by simp;omega
  have t1:(decide ((0:Int)≤((i+j:Nat):Int))&&decide (((i+j:Nat):Int)<(v11n:Int)))=true:=by simp;omega
  have go:∀(x c':Int),(0≤x∧x<1000000000)→(0≤c'∧c'≤1000000000)→c+(x-w.getD i 0)=1000000000*c'-t*v.getD i 0→Ends KU (L4 v8n v n v11n v12n j t c' ((i+1:Nat):Int) o2 (lo++(w.set i x++h::z)) o0) Q:=by
   intro x c' hx hc' hxc;refine BP v8n v11n v12n o2 o0 v lo z n j t h W hn hn9 hlo hj h11 hjv hj1 hv hh hlen ht h0 h1 k (i+1) _ _ (by omega) (by simp[hw]) (Gs hd i hx) hc' ?_;rw[G7 _ _ _ _ (by omega),I2,AD,zw t,zQ t];have e6:(zg:Int)^i*c+(zg:Int)^i*(x-w.getD i 0)=(zg:Int)^i*(1000000000*c')-(zg:Int)^i*(t*v.getD i 0):=by
    rw[←zw, ←yh,hxc]
   omega
  refine zu (Dp ..) (ze (by simp;omega) ?_);rw[e1,e2,zj,zj,gW hlo (by omega),m1,m2,m3,m4,m5,sW _ hlo (by omega),sW _ hlo (by omega)];refine ze (by simp;omega) (ze t1 (ze (decide_eq_true hll) (ze rfl (ze rfl (zt (fun d=>?_) (fun d=>?_))))))
  ·have d:=of_decide_eq_true d;rw[wr (w.getD i 0-(t*v.getD i 0+c) % 1000000000+1000000000) (by omega) (by omega)];refine ze t1 (ze (decide_eq_true hll) (go _ _ (by omega) (by omega) ?_));generalize t*v.getD i 0=P at*;omega
  ·have d:=of_decide_eq_false d;refine ze t1 (ze (decide_eq_true hll) (go _ _ (by omega) (by omega) ?_));generalize t*v.getD i 0=P at*;omega
theorem nA(v8n v11n v12n:Nat)(o2 o0 v lo r0:List Int)(n j:Nat)(hn:v.length=n)(hn9:n≤9000)(hlo:lo.length=j)(hj:j≤9000)(hr:n+1≤r0.length)(hlen:v11n=j+r0.length)(hjv:j<v12n)(hj1:j<o2.length)(hv:Au zg v)(hd:Au zg r0)(hz:zc zg (r0.drop (n+1))=0)
  (hfin:∀(q:Int) (r:List Int),r.length=r0.length→Au zg r→(0≤q∧q<1000000000)→zc zg r<zc zg v→zc zg r=zc zg r0-q*zc zg v→Ends KU (L2 v8n v n v11n v12n (zh .i64 ((j:Int)-1)) (o2.set j q) (lo++r) o0) Q)
  (q:Int) (hq:0≤q∧q<1000000000) (h1:zc zg r0<(q+1)*zc zg v) (h2:q*zc zg v<zc zg r0+zc zg v):
  Ends KU (L4 v8n v n v11n v12n j q 0 0 o2 (lo++r0) o0) Q:=by
 have hdec:r0=r0.take n++r0.getD n 0::r0.drop (n+1):=by
  rw[←B5 (by omega)];exact(yf n r0).symm
 have gh:=F4 hd n;have hdw:=AK hd n;have hdz:=Ef hd (n+1);have hlw:(r0.take n).length=n:=by rw[zM];omega
 have hlz:(r0.drop (n+1)).length=r0.length-(n+1):=yv ..;have hW:zc zg r0=zc zg (r0.take n)+(zg:Int)^n*r0.getD n 0:=by
  conv=>lhs;rw[hdec]
  rw[MI _ _ _ hz,hlw]
 have hVlt:=Bn (b:=zg) (by decide) hv;rw[hn]at hVlt;have hV0:=Ay (b:=zg) (by decide) hv;have hW0:=Ay (b:=zg) (by decide) hd;have hp:=AM (b:=zg) (by decide) n;rw[Int.add_mul,zX]at h1;rw[hdec];refine BP v8n v11n v12n o2 o0 v lo (r0.drop (n+1)) n j q (r0.getD n 0) (zc zg r0) hn hn9 hlo hj (by omega) hjv hj1 hv gh (by omega) hq (fun w h' a b c d=>?_) (fun w h' a b c c2 d=>?_) n 0 (r0.take n) 0 (by omega) hlw hdw (by decide) (by rw[←hW];simp[zc])
 ·have b0:=Ay (b:=zg) (by decide) b;have hz':h'=0:=by
   rcases zS 0 h' with g|g
   ·have:=zk (show 1≤h' by omega) (zr hp);omega
   ·omega
  refine hfin q _ (by simp;omega) (EC b (fun x hx=>?_)) hq ?_ ?_
  ·rcases yw.1 hx with rfl|hx
   ·rw[hz'];decide
   ·exact hdz x hx
  ·rw[MI _ _ _ hz,a,d];omega
  ·rw[MI _ _ _ hz,a,d]
 ·have b0:=Bn (b:=zg) (by decide) b;rw[a]at b0;have hneg:zc zg r0-q*zc zg v<0:=by
   have:=zk (show h'≤ -1 by omega) (zr hp);rw[q9,yc]at this;omega
  have hq1:1≤q:=by
   rcases zS 0 q with g|g
   ·exact g
   ·have:q=0:=by omega
    subst this;rw[qp]at hneg;omega
  rw[wr (q-1) (by omega) (by omega)];refine Co v8n v11n v12n o2 o0 v lo (r0.drop (n+1)) n j (q-1) h' (zc zg r0-q*zc zg v+zc zg v) hn hn9 hlo hj (by omega) hjv hj1 hv hz hdz (by omega) (by omega) (by omega) (fun r a' b' d'=>?_) n 0 w 0 (by omega) a b (by decide) (by rw[d];simp[zc]<;>omega);refine hfin (q-1) r (by omega) b' (by omega) (by omega) ?_;rw[d',qx,zX];omega
theorem CQ(v8n v11n v12n:Nat)(o2 o0 v lo r0:List Int)(a2 a1 a0:List Int)(k j:Nat)(hn:v.length=k+2)(hn9:k+2≤9000)(hlo:lo.length=j)(hj:j≤9000)(hr:k+3≤r0.length)(hlen:v11n=j+r0.length)(hjv:j<v12n)(hj1:j<o2.length)(hv:Au zg v)(hd:Au zg r0)(hz:zc zg (r0.drop (k+3))=0)(hv1:1≤v.getD (k+1) 0)
  (hle:r0.getD (k+2) 0≤v.getD (k+1) 0) (hBV:zc zg r0<1000000000*zc zg v)
  (hfin:∀(q:Int) (r:List Int),r.length=r0.length→Au zg r→(0≤q∧q<1000000000)→zc zg r<zc zg v→zc zg r=zc zg r0-q*zc zg v→Ends KU (L2 v8n v ((k+2:Nat):Int) v11n v12n (zh .i64 ((j:Int)-1)) (o2.set j q) (lo++r) o0) Q):
  ∀(f:Nat) (q r:Int),0≤q→q<f→q≤2000000000000000000→(0≤r∧r<1000000000)→q*v.getD (k+1) 0+r=r0.getD (k+2) 0*1000000000+r0.getD (k+1) 0→zc zg r0<(q+1)*zc zg v→
   Ends KU (L3 v8n v ((k+2:Nat):Int) v11n v12n j a2 a1 a0 v11n v j ((k+2:Nat):Int) q r o2 (lo++r0) o0) Q
 |0,q,r,h0,hf,_,_,_,_=>by omega
 |f+1,q,r,h0,hf,hmax,hr1,he,hup=>by
  have gv2:=F4 hv k;have gv1:=F4 hv (k+1);have gu2:=F4 hd k;have gu1:=F4 hd (k+1);have hP:=AM (b:=zg) (by decide) k;have hW:=mA zg r0 k (by omega) hz;have hV:=jH zg v k hn;have hu':=Ay (b:=zg) (by decide) (AK hd k);have hu'':=Bn (b:=zg) (by decide) (AK hd k);have hv':=Ay (b:=zg) (by decide) (AK hv k);have hv'':=Bn (b:=zg) (by decide) (AK hv k);have hV0:=Ay (b:=zg) (by decide) hv;rw[zM,zU (by omega)]at hu'' hv'';have exit:∀q R:Int,0≤q→q<1000000000→q*v.getD (k+1) 0+R=r0.getD (k+2) 0*1000000000+r0.getD (k+1) 0→zc zg r0<(q+1)*zc zg v→q*v.getD k 0≤R*1000000000+r0.getD k 0→Ends KU (L4 v8n v ((k+2:Nat):Int) v11n v12n j q 0 0 o2 (lo++r0) o0) Q:=by
   intro q R q0 q1 hqe hqu hx;refine nA v8n v11n v12n o2 o0 v lo r0 (k+2) j hn hn9 hlo hj hr hlen hjv hj1 hv hd hz hfin q ⟨q0,q1⟩ hqu ?_;rw[hW,hV];exact Tz hP ⟨hv',hv''⟩ hu' ⟨q0,q1⟩ hv1 gv2.1 hqe hx
  have e1:zh .i64 (((k+2:Nat):Int)-2)=(k:Int):=by rw[wr _ (by omega) (by omega)];omega
  have e2:zh .i64 (((k+2:Nat):Int)-1)=((k+1:Nat):Int):=by rw[wr _ (by omega) (by omega)];omega
  have e3:zh .i64 (zh .i64 ((j:Int)+((k+2:Nat):Int))-2)=((k+j:Nat):Int):=by
   rw[wr ((j:Int)+((k+2:Nat):Int)) (by omega) (by omega),wr _ (by omega) (by omega)];omega
  have g3:(lo++r0).getD (k+j) 0=r0.getD k 0:=GA _ _ _ _ hlo;have b1:(decide ((0:Int)≤((k+1:Nat):Int))&&decide (((k+1:Nat):Int)<(v.length:Int)))=true:=by simp;omega
  have dec:zc zg r0<q*zc zg v→Ends KU (.ite (decide (zh .i64 (r+v.getD (k+1) 0)≥(1000000000:Int))) (L4 v8n v ((k+2:Nat):Int) v11n v12n j (zh .i64 (q-1)) 0 0 o2 (lo++r0) o0) (L3 v8n v ((k+2:Nat):Int) v11n v12n j a2 a1 a0 v11n v j ((k+2:Nat):Int) (zh .i64 (q-1)) (zh .i64 (r+v.getD (k+1) 0)) o2 (lo++r0) o0)) Q:=by
   intro hx;have hW0:=Ay (b:=zg) (by decide) hd;have hq1:1≤q:=by
    rcases zS 0 q with g|g
    ·exact g
    ·have:q=0:=by omega
     subst this;rw[qp]at hx;omega
   have he':(q-1)*v.getD (k+1) 0+(r+v.getD (k+1) 0)=r0.getD (k+2) 0*1000000000+r0.getD (k+1) 0:=by rw[qx,zX];omega
   have hup':zc zg r0<(q-1+1)*zc zg v:=by rw[show q-1+1=q by omega];exact hx
   rw[wr (q-1) (by omega) (by omega),wr (r+v.getD (k+1) 0) (by omega) (by omega)];refine zt (fun c=>?_) (fun c=>?_)
   ·have c:=of_decide_eq_true c;have hlt:q-1<1000000000:=by
     rcases zS (q-1) 1000000000 with g|g
     ·exact g
     ·have a:=zn g (show 0≤v.getD (k+1) 0 by omega);have b:=zn hle (show(0:Int)≤1000000000 by omega);omega
    refine exit (q-1) _ (by omega) hlt he' hup' ?_;have a:=zk (show v.getD k 0≤999999999 by omega) (show 0≤q-1 by omega);omega
   ·have c:=of_decide_eq_false c;exact CQ v8n v11n v12n o2 o0 v lo r0 a2 a1 a0 k j hn hn9 hlo hj hr hlen hjv hj1 hv hd hz hv1 hle hBV hfin f (q-1) _ (by omega) (by omega) (by omega) (by omega) he' hup'
  refine zu (C9 ..) ?_;conv=>zeta
  rw[e1,e2,e3,zj,zj,zj,g3];refine zt (fun c=>ze b1 (dec ?_)) (fun c=>ze (by simp;omega) (ze (by simp;omega) (ze (by simp;omega) (zt (fun d=>ze b1 (dec ?_)) (fun d=>?_)))))
  ·have c:=of_decide_eq_true c;have:=zn c hV0;omega
  ·have c:=of_decide_eq_false c;have d:=of_decide_eq_true d;have a:=zk (show v.getD k 0≤999999999 by omega) h0;have b:=zR h0 gv2.1;rw[wr (q*v.getD k 0) (by omega) (by omega),wr (r*1000000000) (by omega) (by omega),wr _ (by omega) (by omega)]at d;have:=TX (B:=zg) (u0:=r0.getD (k+2) 0) (u1:=r0.getD (k+1) 0) (u2:=r0.getD k 0) hP hv' hu'' h0 (v1:=v.getD (k+1) 0) (v2:=v.getD k 0) (r:=r) he d;rw[←hW, ←hV]at this;exact this
  ·have c:=of_decide_eq_false c;have d:=of_decide_eq_false d;have a:=zk (show v.getD k 0≤999999999 by omega) h0;have b:=zR h0 gv2.1;rw[wr (q*v.getD k 0) (by omega) (by omega),wr (r*1000000000) (by omega) (by omega),wr _ (by omega) (by omega)]at d;exact exit q r h0 (by omega) he hup (by omega)
end T164
end Go.Pe
end
section
namespace Go.Pe
open Sp
open Go.Det
theorem FA{w:List Int}(hd:Au zg w)(hn:Sp.nz w){k:Nat}(hl:w.length=k+1):0<w.getD k 0∧w.getD k 0<1000000000:=by
 have g:=F4 hd k;refine⟨?_,g.2⟩;have e:w.getLast?=some (w.getD k 0):=by
  rw[qh,hl,yo,zZ,qk (by omega)];rfl
 unfold Sp.nz at hn;rw[e]at hn;have:w.getD k 0≠0:=fun h=>hn (by rw[h])
 omega
theorem DS(d:Int):zc zg [d]=d:=by simp[zc]
namespace T164
variable {Q:PV→Ob→Prop}
theorem AU(v:List Int)(k la:Nat)(f:Int)(hf:0<f∧f<1000000000)(hn:v.length=k+2)(hla:la≤9000)(hkl:k+2≤la)(hv:Au zg v)(hv1:1≤v.getD (k+1) 0)(W0:Int)
  (hq:∀(u qs:List Int) ob,Au zg u→Au zg qs→zc zg u<zc zg v→W0=zc zg u+zc zg v*zc zg qs→Q (.tup [.dat li (Ar qs),.dat li (BL (zc zg u/f))]) ob):
  ∀(t:Nat) (u qs:List Int),t+qs.length=la-(k+2)+1→u.length=la+1→Au zg u→Au zg qs→zc zg (u.drop t)<zc zg v→W0=zc zg u+zc zg v*((zg:Int)^t*zc zg qs)→
   Ends KU (L2 1 v ((k+2:Nat):Int) (la+1) (la-(k+2)+1) ((t:Int)-1) (zm t 0++qs) u [f]) Q
 |0,u,qs,hl,hu,hd,hdq,hlt,he=>by
  have hlt:zc zg u<zc zg v:=hlt;have hVlt:=Bn (b:=zg) (by decide) hv;rw[hn]at hVlt;have hz:zc zg (u.drop (k+2))=0:=Ij (b:=zg) (by decide) hd (by omega) (by omega);have hvu:zc zg (u.take (k+2))=zc zg u:=by
   rw[B6 zg u (k+2) (by omega),hz,ym,qc]
  have ht:(zm 0 0++qs).take (la-(k+2)+1)=qs:=by
   rw[List.replicate_zero,y9];exact zq (by omega)
  have htr:=GM (AK hd (k+2));have hlr:(Ar (u.take (k+2))).length≤9000:=by
   rw[E6 (AK hd (k+2))];refine Nat.le_trans (Mz (k:=k+2) (Ay (by decide) (AK hd (k+2))) ?_) (by omega);show zc zg (u.take (k+2))<_;rw[hvu];omega
  have e1:Aq (Ar (u.take (k+2)))=zc zg u:=by
   show zc zg (Ar _)=_;rw[IG,hvu]
  refine zu (A3 ..) (zP (by simp) ?_);rw[zj,ht,e1];refine ze (by simp;omega) (ze rfl (ze rfl (ze (by simp;omega) (ze (Ac (Ac (KO (by omega) htr) (decide_eq_true hf.1)) (decide_eq_true hf.2)) (ze (by simp;omega) (zp (hq u qs _ hd hdq hlt (by rw[he,zV,zX]))))))))
 |j+1,u,qs,hl,hu,hd,hdq,hlt,he=>by
  obtain⟨lo,r,rfl,hlo⟩:∃lo r:List Int,u=lo++r∧lo.length=j:=⟨u.take j,u.drop j,(yf j u).symm,by rw[zM];omega⟩;have hdlo:Au zg lo:=fun d hd'=>hd d (yy.2 (.inl hd'))
  have hdr:Au zg r:=fun d hd'=>hd d (yy.2 (.inr hd'))
  have hrl:r.length=la+1-j:=by rw[qd]at hu;omega
  have hdrop:∀z:List Int,(lo++z).drop j=z:=fun z=>by rw[←hlo];exact List.drop_left
  have hr0:r=r.getD 0 0::r.drop 1:=by
   have:=B5 (l:=r) (i:=0) (by omega);rw[List.drop_zero]at this;exact this
  have hd1:(lo++r).drop (j+1)=r.drop 1:=by rw[qq j 1,qq 1 j, ←qe,hdrop]
  rw[hd1]at hlt;have g0:=F4 hdr 0;have hvr:zc zg r=r.getD 0 0+1000000000*zc zg (r.drop 1):=by
   conv=>lhs;rw[hr0]
   rfl
  have hVlt:=Bn (b:=zg) (by decide) hv;rw[hn]at hVlt;have hrV:zc zg r<1000000000*zc zg v:=by rw[hvr];omega
  have hz:zc zg (r.drop (k+3))=0:=by
   refine Ij (b:=zg) (by decide) hdr (by omega) ?_;have ep:(zg:Int)^(k+3)=(zg:Int)^(k+2)*1000000000:=zy ..;rw[ep];omega
  have gu0:=F4 hdr (k+2);have gu1:=F4 hdr (k+1);have gu2:=F4 hdr k;have gv1:=F4 hv (k+1);have gv2:=F4 hv k;have hP:=AM (b:=zg) (by decide) k;have hW:=mA zg r k (by omega) hz;have hV:=jH zg v k hn;have hu'':=Bn (b:=zg) (by decide) (AK hdr k);have hv':=Ay (b:=zg) (by decide) (AK hv k);rw[zM,zU (by omega)]at hu'';have hle:r.getD (k+2) 0≤v.getD (k+1) 0:=by
   have a1:=B6 zg (r.drop 1) (k+1) (by rw[yv];omega);have a2:(r.drop 1).drop (k+1)=r.getD (k+2) 0::r.drop (k+3):=by
    rw[qe,show 1+(k+1)=k+2 by omega];exact B5 (by omega)
   have a3:zc zg (r.getD (k+2) 0::r.drop (k+3))=r.getD (k+2) 0:=by
    show r.getD (k+2) 0+(zg:Int)*zc zg (r.drop (k+3))=_;rw[hz];omega
   rw[a2,a3]at a1;have b1:zc zg v=zc zg (v.take (k+1))+(zg:Int)^(k+1)*v.getD (k+1) 0:=by
    rw[←AD,zq (by omega)]
   have b2:=Bn (b:=zg) (by decide) (AK hv (k+1));rw[zM,zU (by omega)]at b2;have c1:=Ay (b:=zg) (by decide) (AK (Ef hdr 1) (k+1));have c2:(zg:Int)^(k+1)*r.getD (k+2) 0<(zg:Int)^(k+1)*(v.getD (k+1) 0+1):=by
    rw[zw,yc];omega
   have:=zL c2 (zr (AM (by decide) (k+1)));omega
  have hfin:∀(q:Int) (r':List Int),r'.length=r.length→Au zg r'→(0≤q∧q<1000000000)→zc zg r'<zc zg v→zc zg r'=zc zg r-q*zc zg v→Ends KU (L2 1 v ((k+2:Nat):Int) (la+1) (la-(k+2)+1) (zh .i64 ((j:Int)-1)) ((zm (j+1) 0++qs).set j q) (lo++r') [f]) Q:=by
   intro q r' h1 h2 h3 h4 h5;have es:(zm (j+1) (0:Int)++qs).set j q=zm j 0++(q::qs):=by
    rw[yx,zN];exact C5 _ _ _ _ (by simp)
   rw[es,wr ((j:Int)-1) (by omega) (by omega)];refine AU v k la f hf hn hla hkl hv hv1 W0 hq j (lo++r') (q::qs) (by simp;omega) (by simp;omega) (EC hdlo h2) (fun d hd'=>?_) (by rw[hdrop];exact h4) ?_
   ·rcases yw.1 hd' with rfl|hd'
    ·exact h3
    ·exact hdq d hd'
   ·rw[he,CF,CF,hlo,h5,I2];show zc zg lo+(zg:Int)^j*zc zg r+zc zg v*((zg:Int)^j*(1000000000*zc zg qs))=zc zg lo+(zg:Int)^j*(zc zg r-q*zc zg v)+zc zg v*((zg:Int)^j*(q+1000000000*zc zg qs));have x1:zc zg v*((zg:Int)^j*q)=(zg:Int)^j*(q*zc zg v):=by
     rw[zQ,zz (zc zg v) q]
    rw[yh,zw ((zg:Int)^j) q,zw (zc zg v),x1];omega
  have e0:(((j+1:Nat):Int)-1)=(j:Int):=by omega
  have e1:zh .i64 ((j:Int)+((k+2:Nat):Int))=((k+2+j:Nat):Int):=by rw[wr _ (by omega) (by omega)];omega
  have e2:zh .i64 (((k+2+j:Nat):Int)-1)=((k+1+j:Nat):Int):=by rw[wr _ (by omega) (by omega)];omega
  have e3:zh .i64 (((k+2:Nat):Int)-1)=((k+1:Nat):Int):=by rw[wr _ (by omega) (by omega)];omega
  have g1:(lo++r).getD (k+2+j) 0=r.getD (k+2) 0:=GA _ _ _ _ hlo;have g2:(lo++r).getD (k+1+j) 0=r.getD (k+1) 0:=GA _ _ _ _ hlo;have hll:(lo++r).length=la+1:=hu;have hmul:zh .i64 (zh .i64 (r.getD (k+2) 0*1000000000)+r.getD (k+1) 0)=r.getD (k+2) 0*1000000000+r.getD (k+1) 0:=by
   rw[wr (r.getD (k+2) 0*1000000000) (by omega) (by omega)];exact wr _ (by omega) (by omega)
  have htop0:0≤r.getD (k+2) 0*1000000000+r.getD (k+1) 0:=by omega
  have hq0:0≤(r.getD (k+2) 0*1000000000+r.getD (k+1) 0)/v.getD (k+1) 0:=yz htop0 (by omega);have hqs:(r.getD (k+2) 0*1000000000+r.getD (k+1) 0)/v.getD (k+1) 0≤r.getD (k+2) 0*1000000000+r.getD (k+1) 0:=Int.ediv_le_self _ htop0;have hdm:=z6 (r.getD (k+2) 0*1000000000+r.getD (k+1) 0) (v.getD (k+1) 0);have hm0:=z7 (r.getD (k+2) 0*1000000000+r.getD (k+1) 0) (show v.getD (k+1) 0≠0 by omega);have hm1:=zY (r.getD (k+2) 0*1000000000+r.getD (k+1) 0) (show 0<v.getD (k+1) 0 by omega);rw[zz]at hdm;have et:zh .i64 (yb (r.getD (k+2) 0*1000000000+r.getD (k+1) 0) (v.getD (k+1) 0))=(r.getD (k+2) 0*1000000000+r.getD (k+1) 0)/v.getD (k+1) 0:=by
   rw[zx htop0];exact wr _ (by omega) (by omega)
  have em:qg (r.getD (k+2) 0*1000000000+r.getD (k+1) 0) (v.getD (k+1) 0)=(r.getD (k+2) 0*1000000000+r.getD (k+1) 0) % v.getD (k+1) 0:=zK htop0;have b2:(decide ((0:Int)≤((k+1:Nat):Int))&&decide (((k+1:Nat):Int)<((k+2:Nat):Int)))=true:=by simp;omega
  have bn:decide (v.getD (k+1) 0≠0)=true:=decide_eq_true (by omega);rw[e0];refine zu (A3 ..) (ze (by simp) ?_);rw[hn,e1,e2,e3,zj,zj,zj,g1,g2,hmul,et,em,hll];refine ze (by simp;omega) (ze (decide_eq_true (by omega)) (ze (by simp;omega) (ze (decide_eq_true (by omega)) (ze b2 (ze bn (ze b2 (ze bn ?_)))))));refine CQ 1 (la+1) (la-(k+2)+1) _ [f] v lo r _ _ _ k j hn (by omega) hlo (by omega) (by omega) (by omega) (by omega) (by simp;omega) hv hdr hz hv1 hle hrV hfin (((r.getD (k+2) 0*1000000000+r.getD (k+1) 0)/v.getD (k+1) 0).toNat+1) _ _ hq0 (by omega) (by omega) ⟨hm0,by omega⟩ hdm ?_;rw[hW,hV];exact Mb hP (by decide) hq0 hv' gv2.1 hu'' gu2.2 hdm hm1
theorem Aj(a v:List Int)(n la:Nat)(f:Int)(hla:a.length=la)(hla9:la≤9000)(hnl:n≤la)(hq:∀u:List Int,u.length=la+1→Au zg u→zc zg u=zc zg a*f→Ends KU (L2 1 v n (la+1) (la-n+1) (((la-n+1:Nat):Int)-1) (zm (la-n+1) 0) u [f]) Q):
  ∀(m:Nat) (u:List Int),u.length+m=la+1→Au zg u→zc zg u=zc zg a*f→Ends KU (L1 a 1 v n u.length u [f]) Q
 |0,u,hl,hd,he=>by
  have e1:zh .i64 ((a.length:Int)+1)=((la+1:Nat):Int):=by rw[wr _ (by omega) (by omega)];omega
  have e2:zh .i64 ((u.length:Int)-(n:Int))=((la-n+1:Nat):Int):=by rw[wr _ (by omega) (by omega)];omega
  have e3:zh .i64 (((la-n+1:Nat):Int)-1)=((la-n+1:Nat):Int)-1:=wr _ (by omega) (by omega);refine zu (As ..) ?_;conv=>zeta
  rw[e1,e2,e3,zj];refine zP (by simp;omega) (ze (by simp;omega) ?_);have hul:u.length=la+1:=by omega
  rw[hul];exact hq u hul hd he
 |m+1,u,hl,hd,he=>by
  have e1:zh .i64 ((a.length:Int)+1)=((la+1:Nat):Int):=by rw[wr _ (by omega) (by omega)];omega
  refine zu (As ..) ?_;conv=>zeta
  rw[e1];refine ze (by simp;omega) (ze (by simp;omega) ?_);have:=Aj a v n la f hla hla9 hnl hq m (u++[0]) (by simp;omega) (EM hd (by decide)) (by rw[B2,ym,qc];exact he);rw[qd]at this;exact this
set_option maxHeartbeats 1000000 in
theorem ok:Ae AT 164 PZ:=by
 refine Av (X:=KU) rfl mY (d:=9) (by kernel_rfl) (by kernel_rfl) (by kernel_rfl) (fun(i:List Int×List Int) hi=>?_) (Ad (by kernel_rfl));obtain⟨a,b⟩:=i;have hi:(A4 a&&A4 b&&decide (a.length≤9000)&&decide (b.length≤9000)&&decide (0<Aq b))=true:=hi;rw[zl,zl,zl,zl,decide_eq_true_eq,decide_eq_true_eq,decide_eq_true_eq]at hi;obtain⟨⟨⟨⟨na,nb⟩,la9⟩,lb9⟩,hb0⟩:=hi;obtain⟨_,da,za⟩:=Bh na;obtain⟨_,db,zb⟩:=Bh nb;have hb0:0<zc zg b:=hb0;have ha0:=Ay (b:=zg) (by decide) da;have hg:∀q r ob,q=BL (Aq a/Aq b)→r=BL (Aq a % Aq b)→Af PZ (a,b) (PV.tup [PV.dat li q,PV.dat li r]) ob:=fun q r ob e1 e2=>yk rfl rfl (Prod.ext e1 e2)
 have hbne:b≠[]:=by rintro rfl;simp[zc]at hb0
 have hblen:b.length≠0:=fun h=>hbne (zO.1 h)
 refine ye (Am a b) (ze (by rw[na,nb];rfl) (zt (fun c=>?_) (fun c=>?_)))
 ·have c:=of_decide_eq_true c;have hlt:zc zg a<zc zg b:=by
   unfold BW at c;have c:(if zc zg a<zc zg b then(-1:Int)else if zc zg a>zc zg b then 1 else 0)<0:=c;split at c
   ·assumption
   ·split at c<;>omega
  refine zp (yk rfl rfl ?_);show([],a)=(BL (zc zg a/zc zg b),BL (zc zg a % zc zg b));rw[yt ha0 hlt,Int.emod_eq_of_lt ha0 hlt];exact Prod.ext rfl (HN (by decide) da za)
 ·have c:=of_decide_eq_false c;have hge:zc zg b≤zc zg a:=by
   rcases zS (zc zg a) (zc zg b)with g|g
   ·have:BW (Aq a) (Aq b)= -1:=if_pos g;omega
   ·exact g
  have hll:b.length≤a.length:=by
   rcases Nat.lt_or_ge a.length b.length with g|g
   ·have:=Ei (b:=zg) (by decide) da db zb g;omega
   ·exact g
  refine zt (fun c1=>?_) (fun c1=>?_)
  ·have c1:b.length=1:=by
    have:(b.length:Int)=1:=by simpa using c1
    omega
   obtain⟨d,rfl⟩:=qt.1 c1;have hd:0<d∧d<1000000000:=FA (k:=0) db zb rfl;have m0:=z7 (zc zg a) (show d≠0 by omega);have m1:=zY (zc zg a) hd.1;refine ze rfl (ze (Ac (Ac (KO (by omega) da) (decide_eq_true hd.1)) (decide_eq_true hd.2)) (ze rfl (zp (hg _ _ _ ?_ ?_))))
   ·show BL (zc zg a/d)=BL (zc zg a/zc zg [d]);rw[DS]
   ·show Ar [zc zg a % d]=BL (zc zg a % zc zg [d]);rw[DS,E6 (fun x hx=>by rw[yp]at hx;subst hx;show 0≤_∧_<(1000000000:Int);omega)];show BL (zc zg [_])=_;rw[DS]
  ·have c1:b.length≠1:=by
    have:(b.length:Int)≠1:=by simpa using c1
    omega
   obtain⟨k,hk⟩:∃k,b.length=k+2:=⟨b.length-2,by omega⟩;obtain⟨y0,y1⟩:=FA (k:=k+1) db zb hk;have e1:zh .i64 (((k+2:Nat):Int)-1)=((k+1:Nat):Int):=by rw[wr _ (by omega) (by omega)];omega
   have e2:zh .i64 (b.getD (k+1) 0+1)=b.getD (k+1) 0+1:=wr _ (by omega) (by omega);have f0:0<1000000000/(b.getD (k+1) 0+1):=by
    have:=Int.le_ediv_of_mul_le (a:=1) (b:=1000000000) (c:=b.getD (k+1) 0+1) (by omega) (by omega);omega
   have f1:1000000000/(b.getD (k+1) 0+1)<1000000000:=yu (by omega) (by omega);have f2:1000000000/(b.getD (k+1) 0+1)*(b.getD (k+1) 0+1)≤1000000000:=Int.ediv_mul_le _ (by omega);have e3:zh .i64 (yb 1000000000 (b.getD (k+1) 0+1))=1000000000/(b.getD (k+1) 0+1):=by
    rw[zx (by decide)];exact wr _ (by omega) (by omega)
   rw[hk,e1,zj,e2,e3];generalize 1000000000/(b.getD (k+1) 0+1)=f at*;have hdf:Au zg [f]:=fun x hx=>by rw[yp]at hx;subst hx;show 0≤_∧_<(1000000000:Int);omega
   have hvf:Aq [f]=f:=DS f;rw[hvf];have hv1:(zg:Int)^(k+1)≤zc zg b*f:=by
    have a1:=CW (b:=zg) (by decide) db zb hbne;rw[hk,show k+2-1=k+1 by omega]at a1;have a2:=zk (show 1≤f by omega) (zr hb0);omega
   have hv2:zc zg b*f<(zg:Int)^(k+2):=by
    have b1:zc zg b=zc zg (b.take (k+1))+(zg:Int)^(k+1)*b.getD (k+1) 0:=by
     rw[←AD,zq (by omega)]
    have b2:=Bn (b:=zg) (by decide) (AK db (k+1));rw[zM,zU (by omega)]at b2;have hp:=AM (b:=zg) (by decide) (k+1);have b3:zc zg b<(zg:Int)^(k+1)*(b.getD (k+1) 0+1):=by
     rw[zw,yc];omega
    have b4:=yg b3 f0;have b5:=zk f2 (zr hp);have b6:(zg:Int)^(k+2)=(zg:Int)^(k+1)*1000000000:=zy ..;rw[zT,zz (b.getD (k+1) 0+1) f]at b4;omega
   have hV0:0≤zc zg b*f:=zR (zr hb0) (by omega);have hU0:0≤zc zg a*f:=zR ha0 (by omega);have hU1:zc zg a*f<(zg:Int)^(a.length+1):=by
    have a1:=Bn (b:=zg) (by decide) da;have a2:=yg a1 f0;have a3:=zk (show f≤1000000000 by omega) (zr (AM (b:=zg) (by decide) a.length));have a4:(zg:Int)^(a.length+1)=(zg:Int)^a.length*1000000000:=zy ..;omega
   have vd:=ET (b:=zg) (by decide) (zc zg b*f);have vz:=Wu (b:=zg) (by decide) (zc zg b*f);have vv:zc zg (Sp.dg zg (zc zg b*f))=zc zg b*f:=CH (by decide) hV0;have vl:=ZV (b:=zg) (by decide) vd vz (k:=k+1) (by rw[vv];exact hv1) (by rw[vv];exact hv2);have v1:=(FA vd vz vl).1;have ud:=ET (b:=zg) (by decide) (zc zg a*f);have uv:zc zg (Sp.dg zg (zc zg a*f))=zc zg a*f:=CH (by decide) hU0;have ul:=Mz (k:=a.length+1) hU0 hU1;have hfa:Sp.hR [f]=true:=PW (by simp) hdf;have bd:decide ((2*(0+(BL (Aq a*f)).length)+1000)*8≤281474976710656)=true:=decide_eq_true (by have:(BL (Aq a*f)).length≤a.length+1:=ul;omega);refine ze (by simp;omega) (ze (decide_eq_true (by omega)) (ze (by rw[PW lb9 db,hfa];rfl) (ze (by rw[PW la9 da,hfa];rfl) (ze bd ?_))));have ez:jg 0 (BL (Aq a*f)).length=(BL (Aq a*f)).length:=je _;have evl:(BL (Aq b*f)).length=k+2:=vl;rw[ez,y9,evl];refine Aj a (BL (Aq b*f)) (k+2) a.length f rfl la9 (by omega) (fun u hul hud huv=>?_) (a.length+1-(BL (Aq a*f)).length) (BL (Aq a*f)) (by have:(BL (Aq a*f)).length≤a.length+1:=ul;omega) ud uv;have hpn:=AM (b:=zg) (by decide) (a.length-(k+2)+1);have start:zc zg (u.drop (a.length-(k+2)+1))<zc zg (BL (Aq b*f)):=by
    have a1:=B6 zg u (a.length-(k+2)+1) (by omega);have a2:=Ay (b:=zg) (by decide) (AK hud (a.length-(k+2)+1));have a3:=Bn (b:=zg) (by decide) da;have a4:=yg a3 f0;have a5:(zg:Int)^a.length=(zg:Int)^(a.length-(k+2)+1)*(zg:Int)^(k+1):=by rw[←qy,show a.length-(k+2)+1+(k+1)=a.length by omega]
    have a6:=CW (b:=zg) (by decide) db zb hbne;rw[hk,show k+2-1=k+1 by omega]at a6;have a7:=zn a6 (show 0≤f by omega);have a8:=zk a7 (zr hpn);rw[a5,zT]at a4;show _<zc zg (Sp.dg zg (zc zg b*f));rw[vv];refine zL (a:=(zg:Int)^(a.length-(k+2)+1)) ?_ (zr hpn);omega
   have go:=AU (Q:=Af PZ (a,b)) (BL (Aq b*f)) k a.length f ⟨f0,f1⟩ evl la9 (by omega) vd (by have:0<(BL (Aq b*f)).getD (k+1) 0:=v1;omega) (zc zg a*f) (fun u' qs ob hud' hdq hlt' he=>by
    have vv':zc zg (BL (Aq b*f))=zc zg b*f:=vv;rw[vv']at he hlt';have e:zc zg u'=f*(zc zg a-zc zg qs*zc zg b):=by
     have x1:zc zg b*f*zc zg qs=f*(zc zg qs*zc zg b):=by
      rw[zz (zc zg b) f,zT,zz (zc zg b)]
     rw[x1,zz (zc zg a)]at he;rw[yh];omega
    have h0:=Ay (b:=zg) (by decide) hud';have r0:0≤zc zg a-zc zg qs*zc zg b:=by
     rw[e]at h0;exact Int.nonneg_of_mul_nonneg_right h0 f0
    have r1:zc zg a-zc zg qs*zc zg b<zc zg b:=by
     rw[e,zz (zc zg b) f]at hlt';exact zL hlt' (by omega)
    obtain⟨u1,u2⟩:=(z8 (a:=zc zg a) (b:=zc zg b) (r:=zc zg a-zc zg qs*zc zg b) (q:=zc zg qs) hb0).2 ⟨by rw[zz (zc zg b)];omega,r0,r1⟩;refine hg _ _ ob ?_ ?_
    ·rw[E6 hdq];show BL (zc zg qs)=BL (zc zg a/zc zg b);rw[u1]
    ·show BL (zc zg u'/f)=BL (zc zg a % zc zg b);rw[u2,e,ql _ (by omega)]) (a.length-(k+2)+1) u [] (by simp) hul hud (fun x hx=>by cases hx) start (by rw[huv];simp[zc])
   rw[y7]at go;exact go
end T164
theorem lV:∀g sp,tF.sp g=some sp→Ae AT g sp:=Aa T164.ok (fun g sp h=>by cases h)
namespace T92
variable {Q:PV→Ob→Prop}
theorem Aj(g:Nat)(L:Int)(hL:∀n:Nat,(n:Int)<L→A4 (BL (n:Int))=true∧Aq (BL (n:Int))=n∧(BL (n:Int)).length≤9000)(hq:∀ob,Q (.dat li (BL (g:Int))) ob):∀(f x y:Nat),y<f→jh x y=g→(x:Int)<L→(y:Int)<L→
  Ends tF (L1 (BL (x:Int)) (BL (y:Int))) Q
 |0,x,y,h,_,_,_=>by omega
 |f+1,x,y,hy,hg,bx,by'=>by
  obtain⟨nx,vx,lx⟩:=hL x bx;obtain⟨ny,vy,ly⟩:=hL y by'
  refine zu (As ..) ?_;conv=>zeta
  by_cases h0:y=0
  ·subst h0;rw[Nat.gcd_zero_right]at hg;subst hg;exact zP rfl (zp (hq _))
  ·have hlt:x % y<y:=Nat.mod_lt _ (by omega);have hl:(BL (y:Int)).length≠0:=by
    intro h;have:=zO.1 h;rw[this]at vy;simp[Aq,zc]at vy;omega
   rw[vx,vy,SP];refine ze (by simp;omega) (ze (Ac (Ac (Ac (Ac nx ny) (decide_eq_true lx)) (decide_eq_true ly)) (decide_eq_true (by omega))) ?_);exact Aj g L hL hq f y (x % y) (by omega) (by rw[qu, ←Nat.gcd_rec,qu];exact hg) by' (by omega)
theorem SX{a:List Int}(h:A4 a=true):a=BL (Aq a)∧0≤Aq a:=by
 obtain⟨_,d,z⟩:=Bh h;exact⟨HN (by decide) d z,Ay (by decide) d⟩
theorem Ur(n:Nat)(h:(n:Int)<(zg:Int)^9000):A4 (BL (n:Int))=true∧Aq (BL (n:Int))=n∧(BL (n:Int)).length≤9000:=by
 obtain⟨a,_,b,c⟩:=Gw (n:=(n:Int)) (k:=9000) (Int.natCast_nonneg n) h (by decide);exact⟨a,b,c⟩
theorem ok:Ae AT 92 JD:=by
 refine Av (X:=tF) rfl lV (d:=9) (by kernel_rfl) (by kernel_rfl) (by kernel_rfl) (fun(i:List Int×List Int) hi=>?_) (Ad (by kernel_rfl));obtain⟨a,b⟩:=i;have hi:(A4 a&&A4 b&&decide (a.length≤9000)&&decide (b.length≤9000))=true:=hi;rw[zl,zl,zl,decide_eq_true_eq,decide_eq_true_eq]at hi;obtain⟨⟨⟨na,nb⟩,la9⟩,lb9⟩:=hi;obtain⟨ea,a0⟩:=SX na;obtain⟨eb,b0⟩:=SX nb;have la:Aq a<(zg:Int)^9000:=yq (Bn (b:=zg) (by decide) (Bh na).2.1) (AI (by decide) la9);have lb:Aq b<(zg:Int)^9000:=yq (Bn (b:=zg) (by decide) (Bh nb).2.1) (AI (by decide) lb9);have key:∀(x y:Nat),Aq a=x→Aq b=y→Ends tF (L1 a b) (Af JD (a,b)):=by
  intro x y hx hy;rw[ea,eb,hx,hy];rw[hx]at la;rw[hy]at lb;refine Aj (jh x y) _ Ur (fun ob=>yk rfl rfl ?_) (y+1) x y (Nat.lt_succ_self _) rfl la lb;have e:Sp.gI (Aq (BL (x:Int))) (Aq (BL (y:Int)))=((jh x y:Nat):Int):=by
   rw[(Ur x la).2.1,(Ur y lb).2.1,E3];rfl
  exact congrArg BL e.symm
 obtain⟨x,hx⟩:=yr a0;obtain⟨y,hy⟩:=yr b0;exact ye (Am a b) (key x y hx hy)
end T92
end Go.Pe
end
section
namespace Go.Pe
open Sp
open Go.Det
theorem mC:∀g sp,Wd.sp g=some sp→Ae AT g sp:=
 Aa (Gn (by kernel_rfl) (Ad (by kernel_rfl))) (Aa (Gn (by kernel_rfl) (Ad (by kernel_rfl))) (Aa (Gn (by kernel_rfl) (Ad (by kernel_rfl))) (Aa (Gn (by kernel_rfl) (Ad (by kernel_rfl))) (fun g sp h=>by cases h))))
theorem EP:∀g sp,IT.sp g=some sp→Ae AT g sp:=fun g sp h=>by cases h
namespace T211
variable {Q:PV→Ob→Prop}
theorem vA:∀i:Fin 10,(C4.getD i.1 0).toNat<128:=by decide
theorem Eo(s:List UInt8)(i:Nat)(o:List Bool)(hi:i<10)(ho:o.length=256)(h:Ends Wd (L2 s C4 C4 ((i+1:Nat):Int) (o.set (C4.getD i 0).toNat true)) Q):Ends Wd (L2 s C4 C4 (i:Int) o) Q:=by
 have hl:C4.length=10:=rfl;have hc:=vA ⟨i,hi⟩;have hc:(C4.getD i 0).toNat<128:=hc;have e:zh .i64 ((i:Int)+1)=((i+1:Nat):Int):=by rw[wr _ (by omega) (by omega)];omega
 refine zu (A3 ..) ?_;conv=>zeta
 rw[hl,e,zj,zj];exact ze (decide_eq_true (by omega)) (ze (Ac (decide_eq_true (by omega)) (decide_eq_true (by omega))) (zP (decide_eq_false (by omega)) (ze (Ac (decide_eq_true (show(0:Int)≤((C4.getD i 0).toNat:Int)by omega)) (decide_eq_true (by omega))) (ze (decide_eq_true (by omega)) h))))
def Tb(o:List Bool):Prop:=o.length=256∧∀c:UInt8,o.getD c.toNat false=BJ c
theorem Cd(s t v0:List UInt8)(v4:Int)(o0:List Bool)(v0':List UInt8)(o1 o0':List Bool)(p1 p0:List Bool)(hT:Tb p1):∀(w:List UInt8),(∀ob,Q (.dat .str (w.dropWhile BJ)) ob)→Ends Wd (L7 s t v0 v4 o0 v0' o1 o0' w p1 p0) Q
 |[],hq=>zu (FT ..) (zP (by simp) (zp (hq _)))
 |c::r,hq=>by
  have hc:c.toNat<256:=c.toNat_lt;have g0:(c::r).getD 0 0=c:=rfl;have e:(List.drop 1 (c::r)).take (jf (c::r).length 1)=r:=by show r.take ((r.length+1)-1)=r;rw[yo];exact yn
  refine zu (FT ..) ?_;conv=>zeta
  rw[g0,zj,hT.2,hT.1,e];refine ze (by simp) (ze (by simp) (ze (Ac (decide_eq_true (show(0:Int)≤(c.toNat:Int)by omega)) (decide_eq_true (by omega))) (ze (decide_eq_true hc) (zt (fun d=>?_) (fun d=>ze (by simp) ?_)))))
  ·have d:BJ c=false:=by simpa using d
   rw[ya,if_neg (by rw[d];decide)]at hq;exact zp (hq _)
  ·have d:BJ c=true:=by simpa using d
   rw[ya,if_pos d]at hq;exact Cd s t v0 v4 o0 v0' o1 o0' p1 p0 hT r hq
theorem BP(s t v0:List UInt8)(v4:Int)(o0:List Bool)(o1 o0':List Bool)(hT:Tb o1):∀(n:Nat) (w:List UInt8),w.length=n→n≤1000000→(∀ob,Q (.dat .str (((w.reverse.dropWhile BJ).reverse).dropWhile BJ)) ob)→Ends Wd (L4 s t v0 v4 o0 w o1 o0') Q
 |0,w,hl,_,hq=>by
  have:w=[]:=zO.1 hl;subst this;exact zu (Dp ..) (zP (by simp) (zu (I5 ..) (zP (by simp) (zp (hq _)))))
 |n+1,w,hl,hn,hq=>by
  obtain⟨p,c,rfl⟩:∃p c,w=p++[c]:=by
   have hne:w≠[]:=by rintro rfl;simp at hl
   exact⟨w.dropLast,w.getLast hne,(y8 hne).symm⟩
  have hp:p.length=n:=by simpa using hl
  have hc:c.toNat<256:=c.toNat_lt;have e1:zh .i64 (((p++[c]).length:Int)-1)=(n:Int):=by rw[hl,wr _ (by omega) (by omega)];omega
  have g1:(p++[c]).getD n 0=c:=Di _ _ _ _ hp;have t1:(p++[c]).take n=p:=by rw[←hp];exact qz
  have hr:(p++[c]).reverse=c::p.reverse:=by simp
  rw[hr,ya]at hq;refine zu (Dp ..) (ze (decide_eq_true (by omega)) ?_);rw[e1,zj,g1,t1,zj,hT.2,hT.1,hl];refine ze (by simp;omega) (ze (Ac (decide_eq_true (show(0:Int)≤(c.toNat:Int)by omega)) (decide_eq_true (by omega))) (ze (decide_eq_true hc) (zt (fun d=>?_) (fun d=>ze (by simp) ?_))))
  ·have d:BJ c=false:=by simpa using d
   rw[if_neg (by rw[d];decide),List.reverse_cons,List.reverse_reverse]at hq;exact Cd s t v0 v4 o0 _ o1 o0' o1 o0' hT (p++[c]) hq
  ·have d:BJ c=true:=by simpa using d
   rw[if_pos d]at hq;exact BP s t v0 v4 o0 o1 o0' hT n p hp (by omega) hq
theorem tN{o:List Bool}(h1:o.length=256)(h2:∀c:Fin 256,o.getD c.1 false=(Nat.ble 48 c.1&&Nat.ble c.1 57)):Tb o:=by
 refine⟨h1,fun c=>?_⟩;have:=h2 ⟨c.toNat,c.toNat_lt⟩;rw[show o.getD c.toNat false=_ from this];unfold BJ;rw[Bool.eq_iff_iff];simp[Nat.ble_eq]
set_option maxRecDepth 10000 in
theorem ok:Ae AT 211 UG:=by
 refine Av (X:=Wd) rfl mC (d:=9) (by kernel_rfl) (by kernel_rfl) (by kernel_rfl) (fun(i:List UInt8×List UInt8) hi=>?_) (Ad (by kernel_rfl));obtain⟨s,t⟩:=i;have hi:(decide (t=C4)&&decide (s.length≤1000000))=true:=hi;rw[zl,decide_eq_true_eq,decide_eq_true_eq]at hi;obtain⟨rfl,hl⟩:=hi;have hq:∀ob,Af UG (s,C4) (.dat .str (((s.reverse.dropWhile BJ).reverse).dropWhile BJ)) ob:=fun ob=>yk rfl rfl rfl
 refine ye (Am s C4) (zt (fun c=>?_) (fun c=>zP (by decide) (zP (by decide) ?_)))
 ·have c:s=[]:=by simpa using c
  subst c;exact zp (hq _)
 ·refine Eo s 0 _ (by decide) rfl (Eo s 1 _ (by decide) rfl (Eo s 2 _ (by decide) rfl (Eo s 3 _ (by decide) rfl (Eo s 4 _ (by decide) rfl (Eo s 5 _ (by decide) rfl (Eo s 6 _ (by decide) rfl (Eo s 7 _ (by decide) rfl (Eo s 8 _ (by decide) rfl (Eo s 9 _ (by decide) rfl ?_)))))))));refine zu (A3 ..) (zP (by decide) (ze (by decide+kernel) (ze (by decide+kernel) (ze (by decide+kernel) (ze rfl (BP s _ _ _ _ _ _ (tN rfl ?_) s.length s rfl hl hq))))));decide+kernel
end T211
theorem mR:∀g sp,yC.sp g=some sp→Ae AT g sp:=Aa T211.ok (fun g sp h=>by cases h)
theorem dropWhile_nil{p:UInt8→Bool}:∀ {l:List UInt8},l.dropWhile p=[]↔l.all p=true
 |[]=>by simp
 |a::l=>by
  rw[ya,List.all_cons];cases h:p a with
  |true=>simp only[if_true,qm];exact dropWhile_nil
  |false=>simp
theorem HV{p:UInt8→Bool}:∀ {l:List UInt8} {a:UInt8} {r:List UInt8},l.dropWhile p=a::r→p a=false
 |[],a,r,h=>by simp at h
 |b::l,a,r,h=>by
  rw[ya]at h;cases hb:p b with
  |true=>rw[hb,if_pos rfl]at h;exact HV h
  |false=>
   rw[hb]at h;simp at h;rw[←h.1];exact hb
theorem Lh(s:List UInt8):OB s=[]↔Al s=true:=by
 unfold OB Al;rw[dropWhile_nil,qo];constructor
 ·intro h;cases hd:s.reverse.dropWhile BJ with
  |nil=>have:=dropWhile_nil.1 hd;rwa [qo]at this
  |cons a r=>
   rw[hd,List.all_cons,HV hd]at h;cases h
 ·intro h;have:s.reverse.dropWhile BJ=[]:=dropWhile_nil.2 (by rwa [qo]);rw[this];rfl
theorem T151.ok:Ae AT 151 K1:=by
 refine Av (X:=yC) rfl mR (d:=9) (by kernel_rfl) (by kernel_rfl) (by kernel_rfl) (fun(s:List UInt8) hl=>?_) (Ad (by kernel_rfl));have hl:s.length≤1000000:=of_decide_eq_true hl;have hq:∀v b ob,v=.bl b∨v=.dat .bool b→b=AR s→Af K1 s v ob:=by
  rintro v b ob (rfl|rfl) hb
  ·exact yk rfl rfl hb
  ·exact yk rfl rfl hb
 refine ye (T151.Am s) (zt (fun c=>ze ?_ (zt (fun d=>ze ?_ (zt (fun e=>zp (hq _ _ _ (.inl rfl) ?_)) (fun e=>zp (hq _ _ _ (.inr rfl) ?_)))) (fun d=>zp (hq _ _ _ (.inl rfl) ?_)))) (fun c=>zp (hq _ _ _ (.inl rfl) ?_)))
 ·exact Ac (decide_eq_true rfl) (decide_eq_true hl)
 ·have c:s≠[]:=by simpa using c
  have:s.length≠0:=fun h=>c (zO.1 h)
  exact decide_eq_true (by omega)
 ·have c:s≠[]:=by simpa using c
  have d:OB s=[]:=by simpa using d
  have d:=(Lh s).1 d;have e:s.getD 0 0≠48:=by
   intro h;rw[h]at e;exact absurd e (by decide)
  unfold AR;rw[d,decide_eq_true c,decide_eq_true e];rfl
 ·have c:s≠[]:=by simpa using c
  have d:OB s=[]:=by simpa using d
  have d:=(Lh s).1 d;have e:s.getD 0 0=48:=by
   have:((s.getD 0 0).toNat:Int)=48:=by simpa using e
   exact UInt8.toNat_inj.1 (by show _=48;omega)
  unfold AR;rw[d,decide_eq_true c,decide_eq_false (by rw[e];exact fun h=>h rfl)];show(s==[48])=decide (s=[48]);rw[Bool.eq_iff_iff];simp
 ·have d:¬OB s=[]:=by simpa using d
  have d:Al s=false:=by
   cases h:Al s with
   |true=>exact absurd ((Lh s).2 h) d
   |false=>rfl
  unfold AR;rw[d];simp
 ·have c:s=[]:=by simpa using c
  subst c;rfl
theorem T149.ok:Ae AT 149 nT:=by
 refine Av (X:=IT) rfl EP (d:=9) (by kernel_rfl) (by kernel_rfl) (by kernel_rfl) (fun(i:List UInt8×List UInt8) hi=>?_) (Ad (by kernel_rfl));obtain⟨s,t⟩:=i;have hi:(decide (t=[45])&&decide (s.length≤1000000))=true:=hi;rw[zl,decide_eq_true_eq,decide_eq_true_eq]at hi;obtain⟨rfl,hl⟩:=hi;have hno:s.getD 0 0≠45→(s,false)=(AY s,Sp.preB s):=fun h=>by
  unfold AY Sp.preB;rw[if_neg h,decide_eq_false h]
 refine ye (T149.Am s [45]) ?_;conv=>zeta
 cases s with
 |nil=>exact zP (by decide) (zp (yk rfl rfl (hno (by decide))))
 |cons c r=>
  have ht:(c::r).take 1=[c]:=rfl;refine ze (by simp;omega) (ze (by simp) ?_);show Ends IT (.ite (!List.take 1 (c::r)==[45]) _ _) _;rw[ht];refine zt (fun d=>zp (yk rfl rfl (hno ?_))) (fun d=>ze (by simp) (zp (yk rfl rfl ?_)))
  ·show c≠45;rintro rfl;exact absurd d (by decide)
  ·have d:c=45:=by simpa using d
   subst d;show(((List.drop 1 ((45:UInt8)::r)).take (jf ((45:UInt8)::r).length 1)),true)=(AY (45::r),Sp.preB (45::r));have e:(List.drop 1 ((45:UInt8)::r)).take (jf ((45:UInt8)::r).length 1)=r:=by show r.take ((r.length+1)-1)=r;rw[yo];exact yn
   rw[e];rfl
end Go.Pe
end
section
namespace Go.Pe
open Sp
open Go.Det
theorem sS{F:Fz}{s:List UInt8}{c:Int}{args:List V}(h:K0 F (Ah [Sh.str,Sh.int .u8] (s,c)) args):args=[.str s,.int .u8 c]:=by
 have:=h (fun _=>none) 0;simp only[Ah,B3,Ba]at this;obtain⟨a,as1,rfl,h1,b,as2,rfl,h2,rfl⟩:=this;simp only[PR,DC,List.cons.injEq,and_true]at h1 h2;rw[h1,h2]
theorem T316.ok:Ae AT 316 nY:=by
 refine .inr ⟨PK.indexByte.run,by kernel_rfl,fun F h args i ha hp=>?_⟩;obtain⟨s,c⟩:=i;have:=sS ha;subst this;refine⟨Tw (s.findIdx? fun x=>x==c.toNat.toUInt8),rfl,fun ρ N=>?_⟩;show PR F ρ N (.dat i64 (OI s c)) _;unfold OI;cases s.findIdx? fun x=>x==c.toNat.toUInt8 with
 |none=>simp[PR,DC,Tw]
 |some i=>simp[PR,DC,Tw,Det.i64]
theorem gU:∀g sp,wX.sp g=some sp→Ae AT g sp:=Aa T316.ok (fun g sp h=>by cases h)
theorem V2{p:UInt8→Bool}{s:List UInt8}{i:Nat}(h:s.findIdx? p=some i):i<s.length:=(List.findIdx?_eq_some_iff_getElem.1 h).1
theorem T150.ok:Ae AT 150 cO:=by
 refine Av (X:=wX) rfl gU (d:=9) (by kernel_rfl) (by kernel_rfl) (by kernel_rfl) (fun(i:List UInt8×List UInt8) hi=>?_) (Ad (by kernel_rfl));obtain⟨s,t⟩:=i;have hi:(decide (t=[47])&&decide (s.length≤1000000))=true:=hi;rw[zl,decide_eq_true_eq,decide_eq_true_eq]at hi;obtain⟨rfl,hl⟩:=hi;have hany:s.any (fun x=>x==47)=(s.findIdx? fun x=>x==47).isSome:=by
  rw[List.findIdx?_isSome]
 refine ye (T150.Am s [47]) (zP (by decide) (zt (fun c=>?_) (fun c=>ze (by decide) (ze (by decide) (ze (by decide) ?_)))))
 ·have c:s=[47]:=by
   have:[47]=s:=by simpa using c
   exact this.symm
  subst c;exact ze rfl (ze rfl (ze rfl (zp (yk rfl rfl rfl))))
 ·have ei:OI s (((([47]:List UInt8).getD 0 0).toNat:Nat):Int)=match s.findIdx? (fun x=>x==47)with
   |some i=>(i:Int)
   |none=> -1:=rfl
  cases hf:s.findIdx? (fun x=>x==47)with
  |none=>
   rw[hf]at ei;have ei:OI s (((([47]:List UInt8).getD 0 0).toNat:Nat):Int)= -1:=ei;rw[ei];refine zP (by decide) (zp (yk rfl rfl ?_));show(s,[],false)=(Ax s,Sp.AL s,Bk s);unfold Ax Sp.AL Bk;rw[hany,hf];rfl
  |some k=>
   rw[hf]at ei;have ei:OI s (((([47]:List UInt8).getD 0 0).toNat:Nat):Int)=(k:Int):=ei;have hk:=V2 hf;have e1:zh .i64 ((k:Int)+(([47]:List UInt8).length:Int))=((k+1:Nat):Int):=by
    show zh .i64 ((k:Int)+1)=_;rw[wr _ (by omega) (by omega)];omega
   rw[ei,e1,zj,zj];refine ze (by simp) (ze (by simp;omega) (ze (by simp;omega) (zp (yk rfl rfl ?_))));show(s.take k,(s.drop (k+1)).take (jf s.length (k+1)),true)=(Ax s,Sp.AL s,Bk s);unfold Ax Sp.AL Bk;have e2:(s.drop (k+1)).take (jf s.length (k+1))=s.drop (k+1):=zq (by rw[yv];exact Nat.le_refl _);rw[hany,hf,e2];rfl
end Go.Pe
end
