import Derived.Test.YtknhdhchejmpgaaGreatDoorX11
import Derived.Test.YtknhdhchejmpgaaGreatDoorX10
/- A part of a proof (no law is stated here). Made by program out of texts by AI agents. -/
open Go.Pe.Ends renaming tt -> zc, ite -> z7, An -> z8, leaf -> yc, ff -> yt, eq -> qo
open Go.Sp renaming val -> zd, B9 -> zi, vI -> zj, AX -> qc, u64 -> qi, sg -> jd
open Go.IntKind renaming wrap -> ze
open Int renaming toNat_natCast -> zf, mul_le_mul_of_nonneg_right -> zg, mul_le_mul_of_nonneg_left -> zh, mul_comm -> zo, mul_add -> zq, mul_assoc -> zr, pow_succ -> zu, le_of_lt -> zw, mul_nonneg -> ya, one_mul -> yb, tdiv_eq_ediv_of_nonneg -> yd, tmod_eq_emod_of_nonneg -> ye, lt_or_le -> yg, mul_left_comm -> yh, add_mul -> yi, mul_ediv_add_emod -> yj, pow_zero -> ym, lt_of_mul_lt_mul_left -> yo, mul_sub -> yp, mul_zero -> yq, emod_lt_of_pos -> yr, emod_nonneg -> yv, mul_one -> yw, pow_pos -> yx, fdiv_eq_ediv_of_nonneg -> yy, ediv_emod_unique -> yz, tdiv -> y7, add_assoc -> y8, add_zero -> qe, ediv_lt_of_lt_mul -> qg, le_refl -> qk, sub_mul -> ql, ediv_nonneg -> qm, zero_mul -> qn, mul_lt_mul_of_pos_left -> qq, tmod -> qw, ediv_eq_zero_of_lt -> qx, mul_neg -> jc
open List renaming replicate -> zk, take_of_length_le -> zt, getD_eq_getElem?_getD -> z6, append_assoc -> yf, length_take -> yk, getElem?_eq_getElem -> y9, length_eq_zero_iff -> qd, drop_eq_nil_of_le -> qf, take_append_drop -> qh, mem_cons -> qt, take_length -> qu, drop_length -> qv, mem_append -> qy, append_nil -> qz
open Bool renaming and_eq_true -> zl, true_and -> je
open BitVec renaming ofInt -> yn
open Nat renaming min_eq_left -> yu, add -> qj, add_sub_cancel -> qp
open Go.Pe.Ad renaming of -> q9
namespace Go.Sp
theorem Hg(b:Int):∀(l:List Int) (i:Nat) (x:Int),i<l.length->val b (l.set i x)=val b l+b^i*(x-l.getD i 0)
 |[],i,x,h=>by simp at h
 |d::l,0,x,_=>by
  show x+b*val b l=d+b*val b l+b^0*(x-d);rw[ym,yb];omega
 |d::l,i+1,x,h=>by
  have:=Hg b l i x (by simpa using h);show d+b*val b (l.set i x)=d+b*val b l+b^(i+1)*(x-l.getD i 0);rw[this,zq,zu,zo (b^i) b,zr,y8]
theorem GZ{b:Int}{l:List Int}(h:Au b l)(i:Nat){x:Int}(hx:0<=x/\x<b):Au b (l.set i x):=by
 intro d hd;rcases List.mem_or_eq_of_mem_set hd with hd|rfl
 ·exact h d hd
 ·exact hx
theorem EF{b:Int}{l r:List Int}(h1:Au b l)(h2:Au b r):Au b (l++r):=by
 intro d hd;rcases qy.1 hd with hd|hd
 ·exact h1 d hd
 ·exact h2 d hd
theorem JW{b:Int}(hb:0<b){l:List Int}(h:Au b l)(i:Nat):0<=l.getD i 0/\l.getD i 0<b:=by
 rcases Nat.lt_or_ge i l.length with hi|hi
 ·have:l.getD i 0∈l:=by rw[z6,y9 hi];exact List.getElem_mem hi
  exact h _ this
 ·rw[z6,List.getElem?_eq_none hi];exact⟨qk _,hb⟩
theorem Cb{l:List Int}{i:Nat}(h:i<l.length):l.drop i=l.getD i 0::l.drop (i+1):=by
 rw[z6,y9 h];exact List.drop_eq_getElem_cons h
theorem GM(p r:List Int)(i j:Nat)(h:p.length=j):(p++r).getD (i+j) 0=r.getD i 0:=by
 subst h;rw[z6,z6,List.getElem?_append_right (by omega),qp]
theorem Rx(p r:List Int)(i j:Nat)(x:Int)(h:p.length=j):(p++r).set (i+j) x=p++r.set i x:=by
 subst h;rw[List.set_append_right _ _ (by omega),qp]
theorem lO(b:Int)(r:List Int)(k:Nat)(hl:k+3<=r.length)(hz:val b (r.drop (k+3))=0):
  val b r=((r.getD (k+2) 0*b+r.getD (k+1) 0)*b+r.getD k 0)*b^k+val b (r.take k):=by
 have p1:b^(k+1)=b^k*b:=zu ..;have p2:b^(k+2)=b^k*b*b:=by rw[<-p1];exact zu ..
 rw[Ca b r (k+3) hl,hz,AB,AB,AB,p1,p2,yq,qe];generalize b^k=P;generalize r.getD (k+2) 0=x;generalize r.getD (k+1) 0=y;generalize r.getD k 0=z;have e1:P*b*b*x=x*b*b*P:=by rw[zo (P*b*b) x,zo P b,zr b P b,zo P b, <-zr, <-zr]
 have e2:P*b*y=y*b*P:=by rw[zo (P*b) y,zo P b,zr]
 have e3:P*z=z*P:=zo _ _;have e4:((x*b+y)*b+z)*P=x*b*b*P+y*b*P+z*P:=by rw[yi,yi,yi]
 rw[e4];omega
theorem qW(b:Int)(v:List Int)(k:Nat)(hl:v.length=k+2):
  val b v=(v.getD (k+1) 0*b+v.getD k 0)*b^k+val b (v.take k):=by
 have h0:val b (v.drop (k+2))=0:=by rw[qf (by omega)];rfl
 have p1:b^(k+1)=b^k*b:=zu ..;rw[Ca b v (k+2) (by omega),h0,AB,AB,p1,yq,qe];generalize b^k=P;generalize v.getD (k+1) 0=y;generalize v.getD k 0=z;have e2:P*b*y=y*b*P:=by rw[zo (P*b) y,zo P b,zr]
 have e3:P*z=z*P:=zo _ _;rw[e2,e3,yi];omega
theorem bX{b:Int}(hb:2<=b){v:List Int}(hd:Au b v)(hn:nz v){k:Nat}(h1:b^k<=val b v)(h2:val b v<b^(k+1)):v.length=k+1:=by
 have hp:=AN (show 0<b by omega) k;have hne:v≠[]:=by rintro rfl;simp[val]at h1;omega
 have a1:=Bo (by omega) hd;have a2:=De (by omega) hd hn hne;rcases Nat.lt_trichotomy v.length (k+1)with h|h|h
 ·have:=AH (show 1<=b by omega) (show v.length<=k by omega);omega
 ·exact h
 ·have:=AH (show 1<=b by omega) (show k+1<=v.length-1 by omega);omega
theorem I4{b:Int}(hb:2<=b){r:List Int}(hd:Au b r){n:Nat}(hl:n<=r.length)(h:val b r<b^n):val b (r.drop n)=0:=by
 have h0:=Ax (show 0<=b by omega) (Eu hd n);have h1:=Ax (show 0<=b by omega) (AK hd n);rw[Ca b r n hl]at h;have hp:=AN (show 0<b by omega) n;rcases yg 0 (val b (r.drop n))with g|g
 ·have:=zh (show 1<=val b (r.drop n)by omega) (show 0<=b^n by omega);omega
 ·omega
theorem Qf{b:Int}(hb:2<=b){r:List Int}(hd:Au b r){n:Nat}(hl:n<=r.length)(h:val b (r.drop n)=0):val b r<b^n:=by
 have:=Bo (show 0<b by omega) (AK hd n);rw[yk,yu hl]at this;rw[Ca b r n hl,h];omega
theorem aZ{b c d x y X:Int}(hc:0<c)(hb:b=c*d):(x+b*(y+b*X))/c=(x/c+(y % c)*d)+b*((y+b*X)/c):=by
 subst hb;have h1:(x+c*d*(y+c*d*X))/c=x/c+d*(y+c*d*X):=by
  rw[zr c d,Int.add_mul_ediv_left _ _ (by omega)]
 have h2:(y+c*d*X)/c=y/c+d*X:=by
  rw[zr c d,Int.add_mul_ediv_left _ _ (by omega)]
 have h3:=yj y c;rw[h1,h2];have e1:d*(y+c*d*X)=d*(c*(y/c)+y % c+c*d*X):=by rw[h3]
 rw[e1,zq,zq,zq (c*d)];have e2:d*(c*(y/c))=c*d*(y/c):=by rw[<-zr,zo d c]
 have e3:d*(y % c)=(y % c)*d:=zo _ _;have e4:d*(c*d*X)=c*d*(d*X):=by rw[<-zr,zo d (c*d),zr]
 rw[e2,e3,e4];omega
theorem Ud{b c d x k:Int}(hc:0<c)(hd:0<d)(hb:b=c*d)(hk:0<=k/\k<c)(hx:0<=x/\x<b):
  (x*c) % b=(x % d)*c/\(x % d)*c+k<b/\0<=(x % d)*c/\0<=x/d/\x/d<c/\(x % d)*c+b*(x/d)=x*c:=by
 subst hb;have h3:=yj x d;have m0:=yv x (show d≠0 by omega);have m1:=yr x hd;have q0:0<=x/d:=qm hx.1 (by omega);have q1:x/d<c:=qg hd (by have:=hx.2;omega);have p0:0<=(x % d)*c:=ya m0 (by omega);have p1:(x % d)*c<=(d-1)*c:=zg (by omega) (by omega);have p2:(d-1)*c=c*d-c:=by rw[ql,yb,zo]
 have e:(x % d)*c+c*d*(x/d)=x*c:=by
  conv=>rhs;rw[<-h3]
  rw[yi,zr c d,zo c (d*(x/d))];omega
 refine⟨?_,by omega,p0,q0,q1,e⟩;rw[<-e,Int.add_mul_emod_self_left];exact Int.emod_eq_of_lt p0 (by omega)
theorem MG{B P u0 u1 u2 u' v1 v2 v' q r:Int}(hP:0<P)(hB:0<B)(hq:0<=q)(hv:0<=v')(hv2:0<=v2)(hu:u'<P)(hu2:u2<B)(he:q*v1+r=u0*B+u1)(h:r<v1):
  ((u0*B+u1)*B+u2)*P+u'<(q+1)*((v1*B+v2)*P+v'):=by
 have h1:u0*B+u1+1<=(q+1)*v1:=by rw[yi,yb];omega
 have h2:=zg h1 (zw hB);have h3:(u0*B+u1)*B+u2+1<=(q+1)*v1*B:=by
  rw[yi,yb]at h2;omega
 have h4:=zg h3 (zw hP);rw[yi,yb]at h4;have h5:0<=(q+1)*(v2*P):=ya (by omega) (ya hv2 (zw hP));have h6:0<=(q+1)*v':=ya (by omega) hv;have e:(q+1)*((v1*B+v2)*P+v')=(q+1)*v1*B*P+(q+1)*(v2*P)+(q+1)*v':=by
  rw[yi (v1*B),zq,zq];congr 2;rw[zr,zr,zr]
 rw[e];omega
end Go.Sp
namespace Go.Pe
open Sp
open Go.Det
theorem TT{q x y c b:Int}(hq:qi q=true)(hx:qi x=true)(hy:qi y=true)(hc:qi c=true)(hb:0<=b/\b<=1):
  qi (Iu q x)=true/\qi (HQ (Iu q x) c 0)=true/\ze .u64 (QT q x+NS (Iu q x) c 0)=(q*x+c)/18446744073709551616/\qi ((q*x+c)/18446744073709551616)=true/\
  qi (Ta y (HQ (Iu q x) c 0) b)=true/\(0<=P4 y (HQ (Iu q x) c 0) b/\P4 y (HQ (Iu q x) c 0) b<=1)/\
  c+b+(Ta y (HQ (Iu q x) c 0) b-y)=18446744073709551616*((q*x+c)/18446744073709551616+P4 y (HQ (Iu q x) c 0) b)-q*x:=by
 have hq:=qc hq;have hx:=qc hx;have hc:=qc hc;have h0:0<=q*x:=ya hq.1 hx.1;have h1:q*x<=18446744073709551615*18446744073709551615:=by
  have a:=zh (show x<=18446744073709551615 by omega) hq.1;have b:=zg (show q<=18446744073709551615 by omega) (show(0:Int)<=18446744073709551615 by omega);omega
 have hl:qi (HQ (Iu q x) c 0)=true:=by unfold HQ;exact CE (by omega) (by omega)
 obtain⟨s1,s2,s3⟩:=Sp.GO hy hl hb;refine⟨?_,hl,?_,?_,s1,s2,?_⟩
 ·unfold Iu;exact CE (by omega) (by omega)
 ·unfold Iu QT NS;rw[K9];generalize q*x=P at*;omega
 ·generalize q*x=P at*;exact CE (by omega) (by omega)
 ·generalize P4 y (HQ (Iu q x) c 0) b=h at*;generalize Ta y (HQ (Iu q x) c 0) b=l at*;unfold HQ Iu at s3;generalize q*x=P at*;omega
namespace T230
variable {Q:PV->Ob->Prop}
theorem gw{lo r:List Int}{j:Nat}(h:lo.length=j)(i:Nat):(lo++r).getD (qj i j) 0=r.getD i 0:=GM lo r i j h
theorem sw{lo r:List Int}{j:Nat}(h:lo.length=j)(i:Nat)(x:Int):(lo++r).set (qj i j) x=lo++r.set i x:=Rx lo r i j x h
theorem lw{lo r:List Int}{j i:Nat}(h:lo.length=j)(hi:i<r.length):decide (qj i j<(lo++r).length)=true:=by
 refine w4 ?_;show i+j<_;rw[List.length_append];omega
theorem Jh(r:List Int)(i n:Nat)(x:Int)(h:i<n):(r.set i x).drop n=r.drop n:=by
 rw[List.drop_set,wd h]
theorem Ck(v9:Int)(v10:List Int)(v11n:Nat)(v12:Int)(v13n:Nat)(o1 o0:List Int)(v0c:Nat)(v:List Int)(n j:Nat)(lo:List Int)(m:Nat)(q W:Int)(o1':List Int)
  (hn:v.length=n) (hn9:n<=9000) (hm:n+1<=m) (hlo:lo.length=j) (hjv:j<v13n) (hj1:j<o1'.length) (hv:Au Ai v) (hq:qi q=true)
  (h0:∀r:List Int,r.length=m->Au Ai r->zd Ai (r.drop (n+1))=0->zd Ai r=W-q*zd Ai v->Ends Jr (L4 v9 v10 v11n v12 v13n (ze .i64 ((j:Int)-1)) (o1'.set j q) (lo++r)) Q)
  (h1:∀r:List Int,r.length=m->Au Ai r->zd Ai (r.drop (n+1))=0->zd Ai r=W-q*zd Ai v+(Ai:Int)^(n+1)->Ends Jr (L8 v9 v10 v11n v12 v13n j o1 o0 j (n+1) v0c v n q 0 n 0 o1' (lo++r)) Q):
  ∀(k i:Nat) (r:List Int) (b c:Int),i+k=n->r.length=m->Au Ai r->zd Ai (r.drop (n+1))=0->qi c=true->(0<=b/\b<=1)->zd Ai r=W-q*zd Ai (v.take i)+(Ai:Int)^i*(c+b)->
   Ends Jr (L7 v9 v10 v11n v12 v13n j o1 o0 j (n+1) v0c v n q b c n i o1' (lo++r)) Q
 |0,i,r,b,c,hi,hr,hd,hz,hc,hb,he=>by
  have hi:i=n:=by omega
  subst hi;have gy:=AU hd i;obtain⟨s1,s2,s3⟩:=Sp.GO gy hc hb;have hlw:decide (qj i j<(lo++r).length)=true:=lw hlo (by omega);have t1:(decide ((0:Int)<=(i:Int))&&decide ((i:Int)<((i+1:Nat):Int)))=true:=by simp;omega
  have hv1:v.take i=v:=zt (by omega);have hset:∀x:Int,0<=x/\x<18446744073709551616->(r.set i x).length=m/\Au Ai (r.set i x)/\zd Ai ((r.set i x).drop (i+1))=0:=fun x hx=>
   ⟨by simp[hr],GZ hd i hx,by rw[Jh _ _ _ _ (by omega)];exact hz⟩
  obtain⟨e1,e2,e3⟩:=hset _ (qc s1);have ev:zd Ai (r.set i (Ta (r.getD i 0) c b))=W-q*zd Ai v+(Ai:Int)^(i+1)*P4 (r.getD i 0) c b:=by
   rw[Hg _ _ _ _ (by omega),he,hv1,Kk,y8, <-zq];congr 2;omega
  refine z8 (ET ..) (yt (by simp) ?_);rw[zf,zf,gw hlo,sw hlo];refine zc t1 (zc hlw (zc (Ac (Ac (Ac gy hc) (w4 hb.1)) (w4 hb.2)) (zc t1 (zc hlw (z7 (fun c1=>?_) (fun c1=>?_))))))
  ·have c1:P4 (r.getD i 0) c b=0:=by simpa using c1
   refine zc (by simp;omega) (zc (w4 hj1) (h0 _ e1 e2 e3 ?_));rw[ev,c1,yq,qe]
  ·have c1:P4 (r.getD i 0) c b≠0:=by simpa using c1
   refine h1 _ e1 e2 e3 ?_;rw[ev,show P4 (r.getD i 0) c b=1 by omega,yw]
 |k+1,i,r,b,c,hi,hr,hd,hz,hc,hb,he=>by
  have gx:=AU hv i;have gy:=AU hd i;obtain⟨m1,m2,m3,m4,m5,m6,m7⟩:=TT hq gx gy hc hb;have hlw:decide (qj i j<(lo++r).length)=true:=lw hlo (by omega);have t1:(decide ((0:Int)<=(i:Int))&&decide ((i:Int)<((n+1:Nat):Int)))=true:=by simp;omega
  have e2:ze .i64 ((i:Int)+1)=((i+1:Nat):Int):=by rw[wr _ (by omega) (by omega)];omega
  refine z8 (ET ..) (zc (by simp;omega) ?_);rw[zf,gw hlo,sw hlo,m3,e2];refine zc (by simp;omega) (zc (Ac hq gx) (zc (Ac (Ac (Ac m1 hc) rfl) rfl) (zc t1 (zc hlw (zc (Ac (Ac (Ac gy m2) (w4 hb.1)) (w4 hb.2)) (zc t1 (zc hlw ?_)))))));refine Ck v9 v10 v11n v12 v13n o1 o0 v0c v n j lo m q W o1' hn hn9 hm hlo hjv hj1 hv hq h0 h1 k (i+1) _ _ _ (by omega) (by simp[hr]) (GZ hd i (qc m5)) (by rw[Jh _ _ _ _ (by omega)];exact hz) m4 m6 ?_;rw[Hg _ _ _ _ (by omega),he,Kk,AB,zq q,yh q];have e:(Ai:Int)^i*(c+b)+(Ai:Int)^i*(Ta (r.getD i 0) (HQ (Iu q (v.getD i 0)) c 0) b-r.getD i 0)=(Ai:Int)^i*(18446744073709551616*((q*v.getD i 0+c)/18446744073709551616+P4 (r.getD i 0) (HQ (Iu q (v.getD i 0)) c 0) b))-(Ai:Int)^i*(q*v.getD i 0):=by
   rw[<-zq, <-yp,m7]
  omega
theorem Ff(v9:Int)(v10:List Int)(v11n:Nat)(v12:Int)(v13n:Nat)(o1 o0:List Int)(v0c:Nat)(v:List Int)(n j:Nat)(lo:List Int)(m:Nat)(q W:Int)(o1':List Int)
  (hn:v.length=n) (hn9:n<=9000) (hm:n+1<=m) (hlo:lo.length=j) (hjv:j<v13n) (hj1:j<o1'.length) (hv:Au Ai v)
  (hW:0<=W+zd Ai v)
  (h0:∀r:List Int,r.length=m->Au Ai r->zd Ai (r.drop (n+1))=0->zd Ai r=W+zd Ai v->Ends Jr (L4 v9 v10 v11n v12 v13n (ze .i64 ((j:Int)-1)) (o1'.set j (ze .u64 (q-1))) (lo++r)) Q):
  ∀(k i:Nat) (r:List Int) (c:Int),i+k=n->r.length=m->Au Ai r->zd Ai (r.drop (n+1))=0->(0<=c/\c<=1)->zd Ai r=W+(Ai:Int)^(n+1)+zd Ai (v.take i)-(Ai:Int)^i*c->
   Ends Jr (L8 v9 v10 v11n v12 v13n j o1 o0 j (n+1) v0c v n q c n i o1' (lo++r)) Q
 |0,i,r,c,hi,hr,hd,hz,hc,he=>by
  have hi:i=n:=by omega
  subst hi;have gy:=qc (AU hd i);have hlw:decide (qj i j<(lo++r).length)=true:=lw hlo (by omega);have t1:(decide ((0:Int)<=(i:Int))&&decide ((i:Int)<((i+1:Nat):Int)))=true:=by simp;omega
  have hv1:v.take i=v:=zt (by omega);have gm:0<=(r.getD i 0+c) % 18446744073709551616/\(r.getD i 0+c) % 18446744073709551616<18446744073709551616:=by omega
  have e1:(r.set i ((r.getD i 0+c) % 18446744073709551616)).length=m:=by simp[hr]
  have e2:Au Ai (r.set i ((r.getD i 0+c) % 18446744073709551616)):=GZ hd i gm;have e3:zd Ai ((r.set i ((r.getD i 0+c) % 18446744073709551616)).drop (i+1))=0:=by rw[Jh _ _ _ _ (by omega)];exact hz
  have eb:=Qf (b:=Ai) (by decide) e2 (n:=i+1) (by omega) e3;refine z8 (HO ..) (yt (by simp) ?_);rw[zf,zf,gw hlo,sw hlo,K9 (r.getD i 0+c)];refine zc t1 (zc hlw (zc t1 (zc hlw (zc (by simp;omega) (zc (w4 hj1) (h0 _ e1 e2 e3 ?_))))));have hp:=AN (b:=Ai) (by decide) i;rw[Hg _ _ _ _ (by omega),he,hv1]at eb ⊢;rcases show(r.getD i 0+c) % 18446744073709551616=r.getD i 0+c\/(r.getD i 0+c) % 18446744073709551616=r.getD i 0+c-18446744073709551616 by omega with g|g
  ·exfalso;rw[g,show r.getD i 0+c-r.getD i 0=c by omega]at eb;omega
  ·have ep:(Ai:Int)^(i+1)=(Ai:Int)^i*18446744073709551616:=zu ..;rw[g,show r.getD i 0+c-18446744073709551616-r.getD i 0=c-18446744073709551616 by omega,yp,ep];omega
 |k+1,i,r,c,hi,hr,hd,hz,hc,he=>by
  have gx:=AU hv i;have gy:=AU hd i;obtain⟨m1,m2,m3⟩:=La gy gx hc;have hlw:decide (qj i j<(lo++r).length)=true:=lw hlo (by omega);have t1:(decide ((0:Int)<=(i:Int))&&decide ((i:Int)<((n+1:Nat):Int)))=true:=by simp;omega
  have e2:ze .i64 ((i:Int)+1)=((i+1:Nat):Int):=by rw[wr _ (by omega) (by omega)];omega
  refine z8 (HO ..) (zc (by simp;omega) ?_);rw[zf,gw hlo,sw hlo,e2];refine zc t1 (zc hlw (zc (by simp;omega) (zc (Ac (Ac (Ac gy gx) (w4 hc.1)) (w4 hc.2)) (zc t1 (zc hlw ?_)))));refine Ff v9 v10 v11n v12 v13n o1 o0 v0c v n j lo m q W o1' hn hn9 hm hlo hjv hj1 hv hW h0 k (i+1) _ _ (by omega) (by simp[hr]) (GZ hd i (qc m1)) (by rw[Jh _ _ _ _ (by omega)];exact hz) m2 ?_;rw[Hg _ _ _ _ (by omega),he,Kk,AB];have e:(Ai:Int)^i*(HQ (r.getD i 0) (v.getD i 0) c-r.getD i 0)-(Ai:Int)^i*c=(Ai:Int)^i*v.getD i 0-(Ai:Int)^i*(18446744073709551616*NS (r.getD i 0) (v.getD i 0) c):=by
   rw[<-yp, <-yp];congr 1;omega
  omega
theorem oN(v9:Int)(v10:List Int)(v11n:Nat)(v12:Int)(v13n:Nat)(o1 o0:List Int)(v0c:Nat)(v:List Int)(n j:Nat)(lo:List Int)(m:Nat)(r0 o1':List Int)
  (hn:v.length=n) (hn9:n<=9000) (hm:n+1<=m) (hlo:lo.length=j) (hjv:j<v13n) (hj1:j<o1'.length) (hv:Au Ai v)
  (hr:r0.length=m) (hd:Au Ai r0) (hz:zd Ai (r0.drop (n+1))=0)
  (hfin:∀(q:Int) (r:List Int),r.length=m->Au Ai r->(0<=q/\q<18446744073709551616)->zd Ai r<zd Ai v->zd Ai r=zd Ai r0-q*zd Ai v->Ends Jr (L4 v9 v10 v11n v12 v13n (ze .i64 ((j:Int)-1)) (o1'.set j q) (lo++r)) Q)
  (q:Int) (hq:qi q=true) (h1:zd Ai r0<(q+1)*zd Ai v) (h2:q*zd Ai v<zd Ai r0+zd Ai v):
  Ends Jr (L7 v9 v10 v11n v12 v13n j o1 o0 j (n+1) v0c v n q 0 0 n 0 o1' (lo++r0)) Q:=by
 have gq:=qc hq;have hW0:=Ax (b:=Ai) (by decide) hd;have hV0:=Ax (b:=Ai) (by decide) hv;rw[yi,yb]at h1;refine Ck v9 v10 v11n v12 v13n o1 o0 v0c v n j lo m q (zd Ai r0) o1' hn hn9 hm hlo hjv hj1 hv hq (fun r a b c d=>hfin q r a b gq (by omega) d) (fun r a b c d=>?_) n 0 r0 0 0 (by omega) hr hd hz (by decide) (by decide) (by simp[zd]);have hb:=Qf (b:=Ai) (by decide) b (n:=n+1) (by omega) c;have hq1:1<=q:=by
  rcases yg 0 q with g|g
  ·exact g
  ·have:q=0:=by omega
   subst this;rw[qn]at d;omega
 have ew:ze .u64 (q-1)=q-1:=wu _ (by omega) (by omega);refine Ff v9 v10 v11n v12 v13n o1 o0 v0c v n j lo m q (zd Ai r0-q*zd Ai v) o1' hn hn9 hm hlo hjv hj1 hv (by omega) (fun r' a' b' c' d'=>?_) n 0 r 0 (by omega) a b c (by decide) (by rw[d];simp[zd]);rw[ew];refine hfin (q-1) r' a' b' (by omega) (by omega) ?_;rw[d',ql,yb];omega
theorem Aaz(q x:Int):QT q x*18446744073709551616+Iu q x=q*x/\0<=Iu q x/\Iu q x<18446744073709551616:=by
 unfold QT Iu;generalize q*x=P;omega
theorem Cv(v9:Int)(v10:List Int)(v11n:Nat)(v12:Int)(v13n:Nat)(o1 o0:List Int)(v0c:Nat)(v:List Int)(k j:Nat)(lo:List Int)(m:Nat)(r0 o1':List Int)
  (hn:v.length=k+2) (hn9:k+2<=9000) (hm:k+3<=m) (hlo:lo.length=j) (hjv:j<v13n) (hj1:j<o1'.length) (hv:Au Ai v)
  (hr:r0.length=m) (hd:Au Ai r0) (hz:zd Ai (r0.drop (k+3))=0) (hv1:1<=v.getD (k+1) 0)
  (hfin:∀(q:Int) (r:List Int),r.length=m->Au Ai r->(0<=q/\q<18446744073709551616)->zd Ai r<zd Ai v->zd Ai r=zd Ai r0-q*zd Ai v->Ends Jr (L4 v9 v10 v11n v12 v13n (ze .i64 ((j:Int)-1)) (o1'.set j q) (lo++r)) Q):
  ∀(f:Nat) (q r o:Int),0<=q->q<f->q<18446744073709551616->qi r=true->(o=0\/o=1)->q*v.getD (k+1) 0+(r+18446744073709551616*o)=r0.getD (k+2) 0*18446744073709551616+r0.getD (k+1) 0->zd Ai r0<(q+1)*zd Ai v->
   Ends Jr (L5 v9 v10 v11n v12 v13n j o1 o0 j (k+3) v0c v ((k+2:Nat):Int) q r o o1' (lo++r0)) Q
 |0,q,r,o,h0,hf,_,_,_,_,_=>by omega
 |f+1,q,r,o,h0,hf,hB,hr64,ho,he,hup=>by
  have uq:qi q=true:=CE h0 hB;have uv2:=AU hv k;have uv1:=AU hv (k+1);have uu2:=AU hd k;have gv2:=qc uv2;have gv1:=qc uv1;have gu2:=qc uu2;have gr:=qc hr64;have hP:=AN (b:=Ai) (by decide) k;have hW:=lO Ai r0 k (by omega) hz;have hV:=qW Ai v k hn;have hu':=Ax (b:=Ai) (by decide) (AK hd k);have hu'':=Bo (b:=Ai) (by decide) (AK hd k);have hv':=Ax (b:=Ai) (by decide) (AK hv k);have hv'':=Bo (b:=Ai) (by decide) (AK hv k);rw[yk,yu (by omega)]at hu'' hv'';have exit:q*v.getD k 0<=(r+18446744073709551616*o)*18446744073709551616+r0.getD k 0->Ends Jr (L7 v9 v10 v11n v12 v13n j o1 o0 j (k+3) v0c v ((k+2:Nat):Int) q 0 0 ((k+2:Nat):Int) 0 o1' (lo++r0)) Q:=by
   intro hx;refine oN v9 v10 v11n v12 v13n o1 o0 v0c v (k+2) j lo m r0 o1' hn hn9 hm hlo hjv hj1 hv hr hd hz hfin q uq hup ?_;rw[hW,hV];exact Tk hP ⟨hv',hv''⟩ hu' ⟨h0,hB⟩ hv1 gv2.1 he hx
  have e1:ze .i64 (((k+2:Nat):Int)-2)=(k:Int):=by rw[wr _ (by omega) (by omega)];omega
  have e2:ze .i64 (((k+2:Nat):Int)-1)=((k+1:Nat):Int):=by rw[wr _ (by omega) (by omega)];omega
  obtain⟨w1,w2,w3⟩:=Aaz q (v.getD k 0);have hlw:decide (qj k j<(lo++r0).length)=true:=lw hlo (by omega);refine z8 (E5 ..) (z7 (fun c=>?_) (fun c=>?_))
  ·have c:o=0:=by simpa using c
   subst c;rw[e1,e2,zf,zf,gw hlo];refine zc (by simp;omega) (zc (Ac uq uv2) ?_);have dec:r*18446744073709551616+r0.getD k 0<q*v.getD k 0->Ends Jr (L5 v9 v10 v11n v12 v13n j o1 o0 j (k+3) v0c v ((k+2:Nat):Int) (ze .u64 (q-1)) (HQ r (v.getD (k+1) 0) 0) (NS r (v.getD (k+1) 0) 0) o1' (lo++r0)) Q:=by
    intro hx;obtain⟨a1,a2,a3⟩:=La hr64 uv1 (c:=0) (by decide);have hq1:1<=q:=by
     rcases yg 0 q with g|g
     ·exact g
     ·have:q=0:=by omega
      subst this;rw[qn]at hx;omega
    rw[wu (q-1) (by omega) (by omega)];refine Cv v9 v10 v11n v12 v13n o1 o0 v0c v k j lo m r0 o1' hn hn9 hm hlo hjv hj1 hv hr hd hz hv1 hfin f (q-1) _ _ (by omega) (by omega) (by omega) a1 (by omega) ?_ ?_
    ·rw[ql,yb,a3];omega
    ·have he':q*v.getD (k+1) 0+r=r0.getD (k+2) 0*18446744073709551616+r0.getD (k+1) 0:=by omega
     have:=T8 (B:=Ai) (u0:=r0.getD (k+2) 0) (u1:=r0.getD (k+1) 0) (u2:=r0.getD k 0) hP hv' hu'' h0 (v1:=v.getD (k+1) 0) (v2:=v.getD k 0) (r:=r) he' hx;rw[<-hW, <-hV]at this;rw[show q-1+1=q by omega];exact this
   refine z7 (fun c1=>exit ?_) (fun c1=>z7 (fun c2=>zc (by simp;omega) (zc hlw (z7 (fun c3=>exit ?_) (fun c3=>zc (by simp;omega) (zc (Ac (Ac (Ac hr64 uv1) rfl) rfl) (dec ?_)))))) (fun c2=>zc (by simp;omega) (zc (Ac (Ac (Ac hr64 uv1) rfl) rfl) (dec ?_))))
   ·have c1:=w6 c1;omega
   ·have c2:QT q (v.getD k 0)=r:=by simpa using c2
    have c3:=w6 c3;omega
   ·have c2:QT q (v.getD k 0)=r:=by simpa using c2
    have c3:=w7 c3;omega
   ·have c1:=w7 c1;have c2:QT q (v.getD k 0)≠r:=by simpa using c2
    omega
  ·have c:o≠0:=by simpa using c
   refine exit ?_;have a:=zh (show v.getD k 0<=18446744073709551615 by omega) h0;omega
theorem BS(s:Int)(v:List Int)(k la:Nat)(hn:v.length=k+2)(hla:la<=9000)(hkl:k+2<=la)(hv:Au Ai v)(hv1:1<=v.getD (k+1) 0)(W0:Int)
  (hq:∀u qs:List Int,u.length=la+1->Au Ai u->Au Ai qs->zd Ai u<zd Ai v->qs.length=la-(k+2)+1->W0=zd Ai u+zd Ai v*zd Ai qs->Ends Jr (L6 s (la+1) ((k+2:Nat):Int) (la-(k+2)+1) ((k+2:Nat):Int) 0 qs u) Q):
  ∀(t:Nat) (u qs:List Int),t+qs.length=la-(k+2)+1->u.length=la+1->Au Ai u->Au Ai qs->zd Ai (u.drop t)<zd Ai v->W0=zd Ai u+zd Ai v*((Ai:Int)^t*zd Ai qs)->
   Ends Jr (L4 s v (la+1) ((k+2:Nat):Int) (la-(k+2)+1) ((t:Int)-1) (zk t 0++qs) u) Q
 |0,u,qs,hl,hu,hd,hdq,hlt,he=>by
  refine z8 (CJ ..) (yt (by simp) ?_);exact hq u qs hu hd hdq hlt (by omega) (by rw[he,ym,yb])
 |j+1,u,qs,hl,hu,hd,hdq,hlt,he=>by
  obtain⟨lo,r,rfl,hlo⟩:∃lo r:List Int,u=lo++r/\lo.length=j:=⟨u.take j,u.drop j,(qh j u).symm,by rw[yk];omega⟩;have hdlo:Au Ai lo:=fun d hd'=>hd d (qy.2 (.inl hd'))
  have hdr:Au Ai r:=fun d hd'=>hd d (qy.2 (.inr hd'))
  have hrl:r.length=la+1-j:=by rw[List.length_append]at hu;omega
  have hdrop:∀z:List Int,(lo++z).drop j=z:=fun z=>by rw[<-hlo];exact List.drop_left
  have hr0:r=r.getD 0 0::r.drop 1:=by
   have:=Cb (l:=r) (i:=0) (by omega);rw[List.drop_zero]at this;exact this
  have hd1:(lo++r).drop (j+1)=r.drop 1:=by rw[Nat.add_comm j 1,Nat.add_comm 1 j, <-List.drop_drop,hdrop]
  rw[hd1]at hlt;have g0:=JW (b:=Ai) (by decide) hdr 0;have hvr:zd Ai r=r.getD 0 0+18446744073709551616*zd Ai (r.drop 1):=by
   conv=>lhs;rw[hr0]
   rfl
  have hVlt:=Bo (b:=Ai) (by decide) hv;rw[hn]at hVlt;have g0:0<=r.getD 0 0/\r.getD 0 0<18446744073709551616:=g0;have hrV:zd Ai r<18446744073709551616*zd Ai v:=by rw[hvr];omega
  have hz:zd Ai (r.drop (k+3))=0:=by
   refine I4 (b:=Ai) (by decide) hdr (by omega) ?_;have ep:(Ai:Int)^(k+3)=(Ai:Int)^(k+2)*18446744073709551616:=zu ..;rw[ep];omega
  have uu0:=AU hdr (k+2);have uu1:=AU hdr (k+1);have uu2:=AU hdr k;have uv1:=AU hv (k+1);have gu0:=qc uu0;have gu1:=qc uu1;have gu2:=qc uu2;have gv1:=qc uv1;have gv2:=qc (AU hv k);have hP:=AN (b:=Ai) (by decide) k;have hW:=lO Ai r k (by omega) hz;have hV:=qW Ai v k hn;have hu':=Ax (b:=Ai) (by decide) (AK hdr k);have hu'':=Bo (b:=Ai) (by decide) (AK hdr k);have hv':=Ax (b:=Ai) (by decide) (AK hv k);rw[yk,yu (by omega)]at hu'';have hle:r.getD (k+2) 0<=v.getD (k+1) 0:=by
   have a1:=Ca Ai (r.drop 1) (k+1) (by rw[List.length_drop];omega);have a2:(r.drop 1).drop (k+1)=r.getD (k+2) 0::r.drop (k+3):=by
    rw[List.drop_drop,show 1+(k+1)=k+2 by omega];exact Cb (by omega)
   have a3:zd Ai (r.getD (k+2) 0::r.drop (k+3))=r.getD (k+2) 0:=by
    show r.getD (k+2) 0+(Ai:Int)*zd Ai (r.drop (k+3))=_;rw[hz];omega
   rw[a2,a3]at a1;have b1:zd Ai v=zd Ai (v.take (k+1))+(Ai:Int)^(k+1)*v.getD (k+1) 0:=by
    rw[<-AB,zt (by omega)]
   have b2:=Bo (b:=Ai) (by decide) (AK hv (k+1));rw[yk,yu (by omega)]at b2;have c1:=Ax (b:=Ai) (by decide) (AK (Eu hdr 1) (k+1));have c2:(Ai:Int)^(k+1)*r.getD (k+2) 0<(Ai:Int)^(k+1)*(v.getD (k+1) 0+1):=by
    rw[zq,yw];omega
   have:=yo c2 (zw (AN (by decide) (k+1)));omega
  have hfin:∀(q:Int) (r':List Int),r'.length=la+1-j->Au Ai r'->(0<=q/\q<18446744073709551616)->zd Ai r'<zd Ai v->zd Ai r'=zd Ai r-q*zd Ai v->Ends Jr (L4 s v (la+1) ((k+2:Nat):Int) (la-(k+2)+1) (ze .i64 ((j:Int)-1)) ((zk (j+1) 0++qs).set j q) (lo++r')) Q:=by
   intro q r' h1 h2 h3 h4 h5;have es:(zk (j+1) (0:Int)++qs).set j q=zk j 0++(q::qs):=by
    rw[List.replicate_succ',yf];exact Dg _ _ _ _ (by simp)
   rw[es,wr ((j:Int)-1) (by omega) (by omega)];refine BS s v k la hn hla hkl hv hv1 W0 hq j (lo++r') (q::qs) (by simp;omega) (by simp;omega) (EF hdlo h2) (fun d hd'=>?_) (by rw[hdrop];exact h4) ?_
   ·rcases qt.1 hd' with rfl|hd'
    ·exact h3
    ·exact hdq d hd'
   ·rw[he,CU,CU,hlo,h5,Kk];show zd Ai lo+(Ai:Int)^j*zd Ai r+zd Ai v*((Ai:Int)^j*(18446744073709551616*zd Ai qs))=zd Ai lo+(Ai:Int)^j*(zd Ai r-q*zd Ai v)+zd Ai v*((Ai:Int)^j*(q+18446744073709551616*zd Ai qs));have x1:zd Ai v*((Ai:Int)^j*q)=(Ai:Int)^j*(q*zd Ai v):=by
     rw[yh,zo (zd Ai v) q]
    rw[yp,zq ((Ai:Int)^j) q,zq (zd Ai v),x1];omega
  have ez:qj 0 j=j:=Nat.zero_add j;have e0:(((j+1:Nat):Int)-1)=(j:Int):=by omega
  have e1:ze .i64 (ze .i64 ((j:Int)+((k+2:Nat):Int))+1)=((j+(k+3):Nat):Int):=by
   rw[wr ((j:Int)+((k+2:Nat):Int)) (by omega) (by omega),wr _ (by omega) (by omega)];omega
  have e2:ze .i64 (((k+2:Nat):Int)-1)=((k+1:Nat):Int):=by rw[wr _ (by omega) (by omega)];omega
  have e3:Nat.sub (j+(k+3)) j=k+3:=by show j+(k+3)-j=_;omega
  have lw1:decide (qj (k+2) j<(lo++r).length)=true:=lw hlo (by omega);have lw2:decide (qj (k+1) j<(lo++r).length)=true:=lw hlo (by omega);rw[e0];refine z8 (CJ ..) (zc (by simp) ?_);rw[hn,e1,e2,zf,zf,zf,zf,ez,e3,gw hlo,gw hlo];have b1:(decide ((0:Int)<=((k+2:Nat):Int))&&decide (((k+2:Nat):Int)<((k+3:Nat):Int)))=true:=by simp;omega
  have b2:(decide ((0:Int)<=((k+1:Nat):Int))&&decide (((k+1:Nat):Int)<((k+2:Nat):Int)))=true:=by simp;omega
  have b3:(decide ((0:Int)<=((k+1:Nat):Int))&&decide (((k+1:Nat):Int)<((k+3:Nat):Int)))=true:=by simp;omega
  have hjl:j<(zk (j+1) (0:Int)++qs).length:=by simp;omega
  refine zc (by simp;omega) (zc b1 (zc lw1 (zc b2 (z7 (fun c=>?_) (fun c=>?_)))))
  ·have c:=w6 c;obtain⟨a1,a2,a3⟩:=La uu1 uv1 (c:=0) (by decide);refine zc b3 (zc lw2 (zc b2 (zc (Ac (Ac (Ac uu1 uv1) rfl) rfl) ?_)));refine Cv s v (la+1) _ _ _ _ _ v k j lo (la+1-j) r _ hn (by omega) (by omega) hlo (by omega) hjl hv hrl hdr hz hv1 hfin 18446744073709551616 _ _ _ (by decide) (by decide) (by decide) a1 (by omega) ?_ ?_
   ·rw[a3];omega
   ·exact hrV
  ·have c:=w7 c;obtain⟨d1,d2,d3,d4,d5⟩:=dqr (r:=r.getD (k+2) 0) (x:=r.getD (k+1) 0) (d:=v.getD (k+1) 0) (by omega) (by omega) gu1;refine zc b1 (zc lw1 (zc b3 (zc lw2 (zc b2 (zc (Ac (Ac (Ac uu0 uu1) uv1) (w4 (by omega))) ?_)))));refine Cv s v (la+1) _ _ _ _ _ v k j lo (la+1-j) r _ hn (by omega) (by omega) hlo (by omega) hjl hv hrl hdr hz hv1 hfin 18446744073709551616 _ _ _ d2 d3 d3 (CE d4 (by omega)) (.inl rfl) ?_ ?_
   ·rw[<-d1];omega
   ·rw[hW,hV];exact MG hP (by decide) d2 hv' gv2.1 hu'' gu2.2 d1 d5
end T230
theorem Tl{a b:Int}{s:Nat}(ha:0<=a)(hb:0<=b)(h:b<2^s)(hm:a*2^s+b<18446744073709551616):aA .u64 b (a*2^s)=a*2^s+b:=by
 have:=Xk ha hb h hm;rw[<-this];show ze .u64 (((yn 64 b|||yn 64 (a*2^s)).toNat:Nat):Int)=ze .u64 (((yn 64 (a*2^s)|||yn 64 b).toNat:Nat):Int);rw[BitVec.or_comm]
theorem W6{s:Nat}(hs:s<=63):(18446744073709551616:Int)=2^s*2^(64-s):=by rw[<-Int.pow_add,show s+(64-s)=64 by omega];rfl
namespace T230
variable {Q:PV->Ob->Prop}
theorem EC(s:Nat)(hs:s<=63)(la n m:Nat)(hn:n<=la)(hla:la<=9000)(u qs:List Int)(hu:u.length=la+1)(hd:Au Ai u)(hz:zd Ai (u.drop n)=0)(hm:qs.length=m)(hm9:m<=9000)(hdq:Au Ai qs)
  (hq:∀(w:List Int) ob,Au Ai w->zd Ai w=zd Ai u/2^s->Q (.tup [.dat C9 (As qs),.dat C9 (As w)]) ob):
  ∀(k i:Nat) (p:List Int),i+k=n->p.length=i->Au Ai p->zd Ai p+(Ai:Int)^i*(zd Ai (u.drop i)/2^s)=zd Ai u/2^s->
   Ends Jr (L6 s (la+1) n m n i qs (p++u.drop i)) Q
 |0,i,p,hi,hp,hdp,he=>by
  have hi:i=n:=by omega
  subst hi;have ht:(p++u.drop i).take i=p:=by rw[<-hp];exact List.take_left
  have ht2:qs.take m=qs:=zt (by omega);rw[hz,Int.zero_ediv,yq,qe]at he;refine z8 (FQ ..) (yt (by simp) ?_);rw[zf,ht,ht2];refine zc (by simp;omega) (zc (Ac (by simp;omega) (El (by omega) hdq)) (zc (Ac (by simp;omega) (El (by omega) hdp)) (yc (hq p _ hdp he))))
 |k+1,i,p,hi,hp,hdp,he=>by
  have d1:=Cb (l:=u) (i:=i) (by omega);have d2:=Cb (l:=u) (i:=i+1) (by omega);have gx:=qc (AU hd i);have gy:=qc (AU hd (i+1));have g1:(p++u.drop i).getD i 0=u.getD i 0:=by rw[d1];exact DH _ _ _ _ hp
  have s1:∀z,(p++u.drop i).set i z=p++z::u.drop (i+1):=fun z=>by rw[d1];exact Dg _ _ _ _ hp
  have s2:∀z x,(p++z::u.drop (i+1)).set i x=(p++[x])++u.drop (i+1):=fun z x=>by rw[Dg _ _ _ _ hp,yf];rfl
  have g2:∀z,(p++z::u.drop (i+1)).getD i 0=z:=fun z=>DH _ _ _ _ hp
  have g3:∀z,(p++z::u.drop (i+1)).getD (i+1) 0=u.getD (i+1) 0:=fun z=>by
   rw[d2,show p++z::u.getD (i+1) 0::u.drop (i+1+1)=(p++[z])++u.getD (i+1) 0::u.drop (i+1+1)by rw[yf];rfl];exact DH _ _ _ _ (by simp[hp])
  have hlen:∀z,(p++z::u.drop (i+1)).length=la+1:=fun z=>by simp;omega
  have hlen0:(p++u.drop i).length=la+1:=by simp;omega
  have e2:ze .i64 ((i:Int)+1)=((i+1:Nat):Int):=by rw[wr _ (by omega) (by omega)];omega
  have e3:ze .i64 ((64:Int)-(s:Int))=((64-s:Nat):Int):=by rw[wr _ (by omega) (by omega)];omega
  have em:Min.min s 64=s:=by omega
  have em2:Min.min (64-s) 64=64-s:=by omega
  have hB:=W6 hs;have hc:(0:Int)<2^s:=yx (by decide);have hd':(0:Int)<2^(64-s):=yx (by decide);have efd:Int.fdiv (u.getD i 0) ((2:Int)^s)=u.getD i 0/2^s:=yy _ (zw hc);have a0:0<=u.getD i 0/2^s:=qm gx.1 (zw hc);have a1:u.getD i 0/2^s<2^(64-s):=qg hc (by rw[zo, <-hB];exact gx.2);have m0:=yv (u.getD (i+1) 0) (show(2:Int)^s≠0 by omega);have m1:=yr (u.getD (i+1) 0) hc;have p0:0<=(u.getD (i+1) 0 % 2^s)*2^(64-s):=ya m0 (zw hd');have p1:(u.getD (i+1) 0 % 2^s)*2^(64-s)<=18446744073709551616-2^(64-s):=by
   have:=zg (show u.getD (i+1) 0 % 2^s<=2^s-1 by omega) (zw hd');rw[ql,yb, <-hB]at this;exact this
  have hnew:0<=u.getD i 0/2^s+(u.getD (i+1) 0 % 2^s)*2^(64-s)/\u.getD i 0/2^s+(u.getD (i+1) 0 % 2^s)*2^(64-s)<18446744073709551616:=by omega
  have ewy:ze .u64 (u.getD (i+1) 0*2^(64-s))=(u.getD (i+1) 0 % 2^s)*2^(64-s):=by
   rw[K9];exact(Ud (b:=18446744073709551616) (c:=2^(64-s)) (d:=2^s) (k:=0) hd' hc (by rw[hB,zo]) ⟨qk _,hd'⟩ gy).1
  have eio:aA .u64 (u.getD i 0/2^s) ((u.getD (i+1) 0 % 2^s)*2^(64-s))=u.getD i 0/2^s+(u.getD (i+1) 0 % 2^s)*2^(64-s):=by
   rw[Tl m0 a0 a1 (by omega),Int.add_comm]
  have next:∀z,z=u.getD i 0/2^s+(u.getD (i+1) 0 % 2^s)*2^(64-s)->Ends Jr (L6 s (la+1) n m n ((i+1:Nat):Int) qs ((p++[z])++u.drop (i+1))) Q:=by
   intro z hz';refine EC s hs la n m hn hla u qs hu hd hz hm hm9 hdq hq k (i+1) (p++[z]) (by omega) (by simp[hp]) (D8 hdp (by rw[hz'];exact CE hnew.1 hnew.2)) ?_;rw[<-he,EO,hp,Kk,y8, <-zq];congr 2;have:=aZ (b:=18446744073709551616) (c:=2^s) (d:=2^(64-s)) (x:=u.getD i 0) (y:=u.getD (i+1) 0) (X:=zd Ai (u.drop (i+1+1))) hc hB;rw[hz',d1,d2];exact this.symm
  have b1:(decide ((0:Int)<=(i:Int))&&decide ((i:Int)<((la+1:Nat):Int)))=true:=by simp;omega
  have b2:(decide ((0:Int)<=((i+1:Nat):Int))&&decide (((i+1:Nat):Int)<((la+1:Nat):Int)))=true:=by simp;omega
  refine z8 (FQ ..) (zc (by simp;omega) ?_);rw[e2,e3,zf,zf,zf,zf,em,em2,g1,efd,s1,g2,g3,s2,ewy,eio,hlen,hlen0];refine zc b1 (zc (w4 (by omega)) (zc (by simp) (zc b1 (zc (w4 (by omega)) (z7 (fun c=>zc (by simp;omega) (zc b1 (zc (w4 (by omega)) (zc b2 (zc (w4 (by omega)) (zc (by simp) (zc b1 (zc (w4 (by omega)) (next _ rfl))))))))) (fun c=>?_))))));have c:=w7 c;have hs0:s=0:=by omega
  subst hs0;rw[show ∀z:Int,p++z::u.drop (i+1)=(p++[z])++u.drop (i+1)from fun z=>by rw[yf];rfl];refine next _ ?_;rw[ym,Int.emod_one,qn,qe]
theorem Rr{X:A0}{F:Int->List Int->Tr}(w:List Int)(s:Nat)(hs:s<=63)(hd:Au Ai w)
  (DF:∀(i:Nat) (o:List Int),i<w.length->o.length=w.length+1->Ends X (F ((i+1:Nat):Int) (if 0<s then(o.set i (aA .u64 (o.getD i 0) (ze .u64 (w.getD i 0*2^s)))).set (i+1) (Int.fdiv (w.getD i 0) (2^(64-s)))else o.set i (aA .u64 (o.getD i 0) (ze .u64 (w.getD i 0*2^s))))) Q->Ends X (F i o) Q)
  (hend:∀o:List Int,o.length=w.length+1->Au Ai o->zd Ai o=2^s*zd Ai w->Ends X (F w.length o) Q):
  ∀(k i:Nat) (p:List Int) (c:Int),i+k=w.length->p.length=i->Au Ai p->(0<=c/\c<2^s)->zd Ai p+(Ai:Int)^i*c=2^s*zd Ai (w.take i)->Ends X (F i (p++c::zk k 0)) Q
 |0,i,p,c,hi,hp,hdp,hc,he=>by
  have hi:i=w.length:=by omega
  subst hi;have hP:(2:Int)^s<=18446744073709551616:=by
   have:=W6 hs;have h1:(1:Int)<=2^(64-s):=yx (by decide);have h2:=zh h1 (show(0:Int)<=2^s from zw (yx (by decide)));omega
  rw[qu]at he;refine hend _ (by simp[hp]) (D8 hdp (CE hc.1 (by omega))) ?_;rw[<-he];show zd Ai (p++[c])=_;rw[EO,hp]
 |k+1,i,p,c,hi,hp,hdp,hc,he=>by
  have gx:=qc (AU hd i);have hB:=W6 hs;have h2s:(0:Int)<2^s:=yx (by decide);have h2d:(0:Int)<2^(64-s):=yx (by decide);obtain⟨s1,s2,s3,s4,s5,s6⟩:=Ud (b:=18446744073709551616) (c:=2^s) (d:=2^(64-s)) (x:=w.getD i 0) (k:=c) h2s h2d hB hc gx;have efd:Int.fdiv (w.getD i 0) ((2:Int)^(64-s))=w.getD i 0/2^(64-s):=yy _ (zw h2d);have g1:(p++c::zk (k+1) 0).getD i 0=c:=DH _ _ _ _ hp;have st:∀z:Int,(p++c::zk (k+1) 0).set i z=p++z::zk (k+1) 0:=fun z=>Dg _ _ _ _ hp
  have st2:∀z y:Int,(p++z::zk (k+1) 0).set (i+1) y=(p++[z])++y::zk k 0:=fun z y=>by
   rw[show p++z::zk (k+1) (0:Int)=(p++[z])++0::zk k 0 by rw[yf];rfl];exact Dg _ _ _ _ (by simp[hp])
  have eio:aA .u64 c ((w.getD i 0 % 2^(64-s))*2^s)=(w.getD i 0 % 2^(64-s))*2^s+c:=Tl (yv _ (by omega)) hc.1 hc.2 s2;have go:=Rr w s hs hd DF hend k (i+1) (p++[(w.getD i 0 % 2^(64-s))*2^s+c]) (w.getD i 0/2^(64-s)) (by omega) (by simp[hp]) (D8 hdp (CE (by omega) s2)) ⟨s4,s5⟩ (by
   rw[EO,hp,Kk,AB,zq (2^s), <-he,y8,y8, <-zq,yh (2^s), <-zq];congr 2;rw[zo (2^s)];omega)
  refine DF i _ (by omega) (by simp;omega) ?_;rw[K9,s1,efd,g1,eio,st,st2];by_cases h0:0<s
  ·rw[wd h0];exact go
  ·have hs0:s=0:=by omega
   subst hs0;have hz:w.getD i 0/2^(64-0)=0:=qx gx.1 gx.2;rw[hz]at go;rw[wc h0,show ∀z:Int,p++z::zk (k+1) (0:Int)=(p++[z])++0::zk k 0 from fun z=>by rw[yf];rfl];exact go
end T230
theorem pP:D3 Jr:=
 Aa T221.ok (Aa T269.ok (Aa T223.ok (Aa T268.ok (Aa T270.ok (Aa cV (Aa T272.ok AO))))))
theorem JT{w:List Int}(hd:Au Ai w)(hn:Sp.nz w){k:Nat}(hl:w.length=k+1):0<w.getD k 0/\w.getD k 0<18446744073709551616:=by
 have g:=qc (AU hd k);refine⟨?_,g.2⟩;have e:w.getLast?=some (w.getD k 0):=by
  rw[List.getLast?_eq_getElem?,hl,qp,z6,y9 (by omega)];rfl
 unfold Sp.nz at hn;rw[e]at hn;have:w.getD k 0≠0:=fun h=>hn (by rw[h])
 omega
namespace T230
set_option maxHeartbeats 1000000 in
theorem ok:Ag Bh 230 F6:=by
 refine Cn pP (fun(i:List Int×List Int) hi=>?_);obtain⟨a,b⟩:=i;have hi:(B5 a&&B5 b&&decide (a.length<=9000)&&decide (b.length<=9000)&&decide (0<Ak b))=true:=hi;rw[zl,zl,zl,zl,w5,w5,w5]at hi;obtain⟨⟨⟨⟨na,nb⟩,la9⟩,lb9⟩,hb0⟩:=hi;obtain⟨_,da,za⟩:=EV na;obtain⟨_,db,zb⟩:=EV nb;have hb0:0<zd Ai b:=hb0;have ha0:=Ax (b:=Ai) (by decide) da;have hg:∀q r ob,q=Bq (Ak a/Ak b)->r=Bq (Ak a % Ak b)->Ad F6 (a,b) (PV.tup [PV.dat C9 q,PV.dat C9 r]) ob:=fun q r ob e1 e2=>q9 rfl rfl (Prod.ext e1 e2)
 have fin:∀(q r:List Int) ob,Au Ai q->Au Ai r->zd Ai a=zd Ai q*zd Ai b+zd Ai r->zd Ai r<zd Ai b->Ad F6 (a,b) (PV.tup [PV.dat C9 (As q),PV.dat C9 (As r)]) ob:=by
  intro q r ob dq dr he hr;have hr0:=Ax (b:=Ai) (by decide) dr;obtain⟨u1,u2⟩:=(yz (a:=zd Ai a) (b:=zd Ai b) (r:=zd Ai r) (q:=zd Ai q) hb0).2 ⟨by rw[zo (zd Ai b)];omega,hr0,hr⟩;refine hg _ _ ob ?_ ?_
  ·rw[KM dq];show Bq (zd Ai q)=Bq (zd Ai a/zd Ai b);rw[u1]
  ·rw[KM dr];show Bq (zd Ai r)=Bq (zd Ai a % zd Ai b);rw[u2]
 have hbne:b≠[]:=by rintro rfl;simp[zd]at hb0
 have hblen:b.length≠0:=fun h=>hbne (qd.1 h)
 refine qo (Am a b) (zc (by rw[na,nb];rfl) (z7 (fun c=>?_) (fun c=>?_)))
 ·have c:=w6 c;have hlt:zd Ai a<zd Ai b:=by
   unfold BO at c;have c:(if zd Ai a<zd Ai b then(-1:Int)else if zd Ai a>zd Ai b then 1 else 0)<0:=c;split at c
   ·assumption
   ·split at c<;>omega
  refine yc (q9 rfl rfl ?_);show([],a)=(Bq (zd Ai a/zd Ai b),Bq (zd Ai a % zd Ai b));rw[qx ha0 hlt,Int.emod_eq_of_lt ha0 hlt];exact Prod.ext rfl (Ie (by decide) da za)
 ·have c:=w7 c;have hge:zd Ai b<=zd Ai a:=by
   rcases yg (zd Ai a) (zd Ai b)with g|g
   ·have:BO (Ak a) (Ak b)= -1:=wd g;omega
   ·exact g
  have hll:b.length<=a.length:=by
   rcases Nat.lt_or_ge a.length b.length with g|g
   ·have:=Ex (b:=Ai) (by decide) da db zb g;omega
   ·exact g
  refine z7 (fun c1=>?_) (fun c1=>?_)
  ·have c1:b.length=1:=by
    have:(b.length:Int)=1:=by simpa using c1
    omega
   obtain⟨d,rfl⟩:=List.length_eq_one_iff.1 c1;have hd:0<d/\d<18446744073709551616:=JT (k:=0) db zb rfl;have e1:ze .i64 ((a.length:Int)-1)=(a.length:Int)-1:=wr _ (by omega) (by omega);rw[e1,zf];refine zc (by simp;omega) ?_;have:=Al (Q:=Ad F6 (a,[d])) a d da hd (by omega) (fun q r ob dq dr he=>by
    refine fin q [r] ob dq (fun x hx=>by rw[List.mem_singleton]at hx;subst hx;exact⟨dr.1,by show x<18446744073709551616;omega⟩) ?_ ?_
    ·rw[val_one,val_one];exact he
    ·rw[val_one,val_one];exact dr.2) a.length [] 0 (by simp) (fun x hx=>by cases hx) ⟨qk _,hd.1⟩ (by rw[qv];simp[zd])
   rw[qz]at this;exact this
  ·have c1:b.length≠1:=by
    have:(b.length:Int)≠1:=by simpa using c1
    omega
   obtain⟨k,hk⟩:∃k,b.length=k+2:=⟨b.length-2,by omega⟩;obtain⟨y0,y1⟩:=JT (k:=k+1) db zb hk;obtain⟨s,hs,hs63,hlt,_⟩:=Uw y0 y1;have hB:=W6 hs63;have h2s:(0:Int)<2^s:=yx (by decide);have h2d:(0:Int)<2^(64-s):=yx (by decide);have hyd:b.getD (k+1) 0<2^(64-s):=by
    rw[hB,zo (b.getD (k+1) 0)]at hlt;exact yo hlt (zw h2s)
   have hv1:(Ai:Int)^(k+1)<=2^s*zd Ai b:=by
    have a1:=De (b:=Ai) (by decide) db zb hbne;rw[hk,show k+2-1=k+1 by omega]at a1;have a2:=zg (show(1:Int)<=2^s by omega) (zw hb0);omega
   have hv2:2^s*zd Ai b<(Ai:Int)^(k+2):=by
    have b1:zd Ai b=zd Ai (b.take (k+1))+(Ai:Int)^(k+1)*b.getD (k+1) 0:=by
     rw[<-AB,zt (by omega)]
    have b2:=Bo (b:=Ai) (by decide) (AK db (k+1));rw[yk,yu (by omega)]at b2;have hp:=AN (b:=Ai) (by decide) (k+1);have b3:zd Ai b<(Ai:Int)^(k+1)*2^(64-s):=by
     have:=zh (show b.getD (k+1) 0+1<=2^(64-s)by omega) (zw hp);rw[zq,yw]at this;omega
    have b4:=qq b3 h2s;have b5:(2:Int)^s*((Ai:Int)^(k+1)*2^(64-s))=(Ai:Int)^(k+2):=by
     rw[yh, <-hB];exact(zu ..).symm
    rw[b5]at b4;exact b4
   have hls:∀o:List Int,Au Ai o->zd Ai o=2^s*zd Ai b->Au Ai (As o)/\(As o).length=k+2/\zd Ai (As o)=2^s*zd Ai b/\1<=(As o).getD (k+1) 0:=by
    intro o ho hv;have hd':=Hj ho;have hv':zd Ai (As o)=2^s*zd Ai b:=by rw[IW,hv]
    have hl':=bX (b:=Ai) (by decide) hd' (KR o) (k:=k+1) (by rw[hv'];exact hv1) (by rw[hv'];exact hv2);have:=(JT hd' (KR o) hl').1;exact⟨hd',hl',hv',by omega⟩
   have e2:ze .i64 (((k+2:Nat):Int)-1)=((k+1:Nat):Int):=by rw[wr _ (by omega) (by omega)];omega
   have e3:ze .i64 (((k+2:Nat):Int)+1)=((k+3:Nat):Int):=by rw[wr _ (by omega) (by omega)];omega
   have e4:ze .i64 ((a.length:Int)+1)=((a.length+1:Nat):Int):=by rw[wr _ (by omega) (by omega)];omega
   have e5:ze .i64 ((a.length:Int)-((k+2:Nat):Int))=((a.length-(k+2):Nat):Int):=by rw[wr _ (by omega) (by omega)];omega
   have e6:ze .i64 (((a.length-(k+2):Nat):Int)+1)=((a.length-(k+2)+1:Nat):Int):=by rw[wr _ (by omega) (by omega)];omega
   have e7:ze .i64 ((64:Int)-(s:Int))=((64-s:Nat):Int):=by rw[wr _ (by omega) (by omega)];omega
   have em:Min.min s 64=s:=by omega
   have em2:Min.min (64-s) 64=64-s:=by omega
   rw[hk,e2,e3,zf,zf,hs];refine zc (by simp;omega) (zc (CE (by omega) y1) (zc (by simp;omega) ?_));refine Rr (F:=fun i o=>L2 a b s (k+3) b ((k+2:Nat):Int) i o) b s hs63 db (fun i o hi ho h=>?_) (fun o hol hod hov=>?_) (k+2) 0 [] 0 (by omega) rfl (fun x hx=>by cases hx) ⟨qk _,h2s⟩ (by simp[zd])
   ·have ei:ze .i64 ((i:Int)+1)=((i+1:Nat):Int):=by rw[wr _ (by omega) (by omega)];omega
    have b1:(decide ((0:Int)<=(i:Int))&&decide ((i:Int)<((k+3:Nat):Int)))=true:=by simp;omega
    refine z8 (AY ..) (zc (by simp;omega) ?_);rw[ei,e7,zf,zf,zf,zf,em,em2];refine zc (by simp;omega) (zc b1 (zc (w4 (by omega)) (zc (by simp) (zc b1 (zc (w4 (by omega)) (z7 (fun c=>zc (by simp) (zc (by simp;omega) (zc (by simp;omega) ?_))) (fun c=>?_)))))))
    ·have c:=w6 c;rw[wd (by omega)]at h;exact h
    ·have c:=w7 c;rw[wc (by omega)]at h;exact h
   obtain⟨vd,vl,vv,v1⟩:=hls o hod hov;have eo:o.take (k+3)=o:=zt (by omega);rw[hk];refine z8 (AY ..) (yt (by simp) ?_);rw[eo,e4,zf,hk,e2,zf,hs];refine zc (Ac (by simp;omega) (El (by omega) hod)) (zc (by simp;omega) ?_);refine Rr (F:=fun i o'=>L3 a b s (k+3) b ((k+2:Nat):Int) ((k+2:Nat):Int) o s (a.length+1) a a.length i o' o) a s hs63 da (fun i o' hi ho h=>?_) (fun u hul hud huv=>?_) a.length 0 [] 0 (by omega) rfl (fun x hx=>by cases hx) ⟨qk _,h2s⟩ (by simp[zd])
   ·have ei:ze .i64 ((i:Int)+1)=((i+1:Nat):Int):=by rw[wr _ (by omega) (by omega)];omega
    have b1:(decide ((0:Int)<=(i:Int))&&decide ((i:Int)<((a.length+1:Nat):Int)))=true:=by simp;omega
    refine z8 (CH ..) (zc (by simp;omega) ?_);rw[ei,e7,zf,zf,zf,zf,em,em2];refine zc (by simp;omega) (zc b1 (zc (w4 (by omega)) (zc (by simp) (zc b1 (zc (w4 (by omega)) (z7 (fun c=>zc (by simp) (zc (by simp;omega) (zc (by simp;omega) ?_))) (fun c=>?_)))))))
    ·have c:=w6 c;rw[wd (by omega)]at h;exact h
    ·have c:=w7 c;rw[wc (by omega)]at h;exact h
   refine z8 (CH ..) (yt (by simp) ?_);rw[eo,vl,e5,e6,zf,hk,e2,zf,hs];refine zc (by simp;omega) ?_;have hpn:=AN (b:=Ai) (by decide) (a.length-(k+2)+1);have start:zd Ai (u.drop (a.length-(k+2)+1))<zd Ai (As o):=by
    have a1:=Ca Ai u (a.length-(k+2)+1) (by omega);have a2:=Ax (b:=Ai) (by decide) (AK hud (a.length-(k+2)+1));have a3:=Bo (b:=Ai) (by decide) da;have a4:=qq a3 h2s;have a5:(Ai:Int)^a.length=(Ai:Int)^(a.length-(k+2)+1)*(Ai:Int)^(k+1):=by rw[<-Int.pow_add];congr 1;omega
    have a6:=De (b:=Ai) (by decide) db zb hbne;rw[hk,show k+2-1=k+1 by omega]at a6;have a7:=zh a6 (zw h2s);have a8:=zh a7 (zw hpn);rw[a5,yh]at a4;rw[vv];refine yo (a:=(Ai:Int)^(a.length-(k+2)+1)) ?_ (zw hpn);omega
   have go:=BS (Q:=Ad F6 (a,b)) s (As o) k a.length vl la9 (by omega) vd v1 (2^s*zd Ai a) (fun u' qs hul' hud' hdq hlt' hql he=>by
    have hz:zd Ai (u'.drop (k+2))=0:=I4 (b:=Ai) (by decide) hud' (by omega) (by rw[vv]at hlt';omega);refine EC s hs63 a.length (k+2) (a.length-(k+2)+1) (by omega) la9 u' qs hul' hud' hz hql (by omega) hdq (fun w ob hw hwv=>?_) (k+2) 0 [] (by omega) rfl (fun x hx=>by cases hx) (by simp[zd]);have e:zd Ai u'=2^s*(zd Ai a-zd Ai qs*zd Ai b):=by
     rw[vv,zr,zo (zd Ai b)]at he;rw[yp];omega
    have ew:zd Ai w=zd Ai a-zd Ai qs*zd Ai b:=by
     rw[hwv,e];exact Int.mul_ediv_cancel_left _ (by omega)
    refine fin qs w ob hdq hw (by omega) ?_;rw[vv,e]at hlt';have:=yo hlt' (zw h2s);omega) (a.length-(k+2)+1) u [] (by simp) hul hud (fun x hx=>by cases hx) start (by rw[huv];simp[zd])
   rw[qz,show((a.length-(k+2)+1:Nat):Int)-1=((a.length-(k+2):Nat):Int)by omega]at go;exact go
end T230
theorem QD:Ag Bh 230 F6:=T230.ok
theorem pA:D3 XF0:=fun g sp h=>by cases h
theorem T105n.ok:Ag Bh 105 Ww:=by
 refine Cn pA (fun(n:Int) _=>?_);refine qo (T105n.Am n) (yc (q9 rfl rfl ?_));show(n,[])=(n,BA n);rw[Ei]
theorem lE:D3 xC:=
 Aa T105n.ok (Aa QD (Aa (T218.ok Fi) (Aa (T219.ok Fi) (Aa T217.ok (Aa T158.ok (Aa T173.ok AO))))))
theorem Vv{m D:Int}(hD:0<D):(m % D=0->(-m)/D= -(m/D)/\(-m) % D=0)/\(m % D≠0->(-m)/D= -(m/D)-1/\(-m) % D=D-m % D):=by
 have e:=yj m D;have r0:=yv m (show D≠0 by omega);have r1:=yr m hD;refine⟨fun h=>?_,fun h=>?_⟩
 ·exact(yz (a:= -m) (b:=D) (r:=0) (q:= -(m/D)) hD).2 ⟨by rw[jc];omega,by omega,by omega⟩
 ·exact(yz (a:= -m) (b:=D) (r:=D-m % D) (q:= -(m/D)-1) hD).2 ⟨by rw[yp,jc,yw];omega,by omega,by omega⟩
theorem pG{m D:Int}(hm:0<=m)(hD:0<D):(0<=m/D/\m/D<=m)/\(0<=m % D/\m % D<=m/\m % D<D):=by
 have e:=yj m D;have q0:0<=m/D:=qm hm (by omega);have q1:m/D<=m:=Int.ediv_le_self _ hm;have r0:=yv m (show D≠0 by omega);have r1:=yr m hD;have:=ya (show 0<=D by omega) q0;exact⟨⟨q0,q1⟩,r0,by omega,r1⟩
theorem Xa(n:Bool){v:Int}(h:0<=v):Ae (jd n v)=v:=by
 rw[Dv,Ah];split<;>omega
theorem Di{n:Int}(h:Ae n<(Ai:Int)^9000):A4 (CP n)=true:=by
 have:=Nt h (by omega);unfold A4;exact Ac this.1 (w4 this.2)
theorem dJ{a b:AR}(h:0<zj a+zj b):Eo a b=CP (zj a+zj b):=by
 unfold Eo;split
 ·next c=>
  have:=Ed c.2.2;rw[Bi c.1,Bi c.2.1]at h ⊢;exact(B0 (by omega)).symm
 ·rfl
theorem NH:((1:Int),BA (1:Int))=CP 1:=by rw[Ei];rfl
namespace T176
theorem Qr{a b:AR}(q:Int)(h: -9223372036854775808<q/\q<9223372036854775808)(hq:Gs a b=CP q\/(-9223372036854775808<q/\Gs a b=MY (CP (q+1)) (1,[])/\q+1<9223372036854775808)):Gs a b=(q,[]):=by
 rcases hq with hq|⟨h1,hq,h2⟩
 ·rw[hq,B0 h]
 ·rw[hq,B0 (by omega)];unfold MY Ds;rw[wd ⟨rfl,by decide⟩];unfold Eo;rw[wd ⟨rfl,rfl,C4 (by show _<=q+1+ -1;omega) (by show q+1+ -1<_;omega)⟩];show(q+1+ -1,[])=(q,[]);rw[show q+1+ -1=q by omega]
set_option maxHeartbeats 1000000 in
theorem ok:Ag Bh 176 FI:=by
 refine Cn lE (fun(i:(Int×List Int)×(Int×List Int)) hi=>?_);obtain⟨a,b⟩:=i;have hi:(A4 a&&A4 b&&decide (0<zj b))=true:=hi;rw[zl,zl,w5]at hi;obtain⟨⟨ha,hb⟩,hD⟩:=hi;obtain⟨oa,_,na,_,va,ba⟩:=words ha;obtain⟨ob,_,nb,_,vb,bb⟩:=words hb;have eD:Ae (zj b)=zj b:=by rw[Ah];omega
 have hM:=AE (zj a);have eM:Ae (zj a)=if zj a<0 then -zj a else zj a:=rfl
 obtain⟨⟨q0,q1⟩,r0,r1,r2⟩:=pG (D:=zj b) hM hD;obtain⟨z1,z2⟩:=Vv (m:=Ae (zj a)) hD;have hdiv:SB (Bq (Ae (zj a))) (Bq (Ae (zj b)))=true:=by
  unfold SB;exact Ac (Ac (Ac (Ac na nb) (w4 (JO hM ba))) (w4 (JO (AE _) bb))) (w4 (by rw[vb,eD];exact hD))
 have fin:∀(q r:AR) v ob,Qu FI.outs v ob=some (true,(q,r))->q=Gs a b->r=CP (zj a % zj b)->Ad FI (a,b) v ob:=fun q r v ob h e1 e2=>q9 h rfl (by rw[e1,e2];rfl)
 have slow:Ends xC (L1 (decide (zj a<0)) (Bq (Ak (Bq (Ae (zj a)))/Ak (Bq (Ae (zj b))))) (Bq (Ak (Bq (Ae (zj a))) % Ak (Bq (Ae (zj b))))) 0 0 b.1 b.2) (Ad FI (a,b)):=by
  rw[va,vb,eD];obtain⟨nq,_,vq⟩:=CZ (n:=Ae (zj a)/zj b) (k:=9000) q0 (by omega) (by omega);obtain⟨nr,_,vr⟩:=CZ (n:=Ae (zj a) % zj b) (k:=9000) r0 (by omega) (by omega);have jr:A4 (CP (jd (decide (zj a<0)) (Ae (zj a) % zj b)))=true:=Di (by rw[Xa _ r0];omega);have jq:A4 (CP (jd (decide (zj a<0)) (Ae (zj a)/zj b)))=true:=Di (by rw[Xa _ q0];omega);have j1:A4 ((1:Int),BA (1:Int))=true:=by rw[NH];decide
  have es:EN (Cz (jd (decide (zj a<0)) (Ae (zj a) % zj b)),Cx (jd (decide (zj a<0)) (Ae (zj a) % zj b)))=Qc (jd (decide (zj a<0)) (Ae (zj a) % zj b)):=by
   show Qc (zj (CP _))=_;rw[Cr]
  refine z8 (Ap ..) (zc nq (zc nr ?_));rw[vq,vr];refine z8 (AY ..) (zc (Ce jr).1 ?_);rw[es];refine z7 (fun c=>?_) (fun c=>?_)
  ·have c:=w6 c;have c2:jd (decide (zj a<0)) (Ae (zj a) % zj b)<0:=by
    rw[K4]at c;split at c
    ·assumption
    ·split at c<;>omega
   have hn:zj a<0:=by
    rcases yg (zj a) 0 with g|g
    ·exact g
    ·rw[Dv,wc (by simp;omega)]at c2;omega
   have hr:Ae (zj a) % zj b≠0:=by
    rw[Dv,wd (w4 hn)]at c2;omega
   obtain⟨z3,z4⟩:=z2 hr;refine zc rfl (zc (Ac jq j1) (zc (Ac jr hb) (yc (fin (MY (CP (jd (decide (zj a<0)) (Ae (zj a)/zj b))) (1,BA 1)) (Eo (CP (jd (decide (zj a<0)) (Ae (zj a) % zj b))) b) _ _ rfl ?_ ?_))))
   ·unfold Gs;rw[wd ⟨hn,hr⟩,Ei,Dv,wd (w4 hn)]
   ·have ev:zj a= -Ae (zj a):=by rw[eM,wd hn];omega
    have ep:zj (CP (jd (decide (zj a<0)) (Ae (zj a) % zj b)))= -(Ae (zj a) % zj b):=by rw[Cr,Dv,wd (w4 hn)]
    have e5:zj a % zj b=zj b-Ae (zj a) % zj b:=by rw[<-z4, <-ev]
    rw[dJ (by rw[ep];omega),ep,e5];congr 1;omega
  ·have c:=w7 c;have c2:¬(zj a<0/\Ae (zj a) % zj b≠0):=by
    rintro⟨hn,hr⟩;rw[Dv,wd (w4 hn),K4,wd (by omega)]at c;omega
   refine yc (fin (CP (jd (decide (zj a<0)) (Ae (zj a)/zj b))) (CP (jd (decide (zj a<0)) (Ae (zj a) % zj b))) _ _ rfl ?_ ?_)
   ·unfold Gs;rw[wc c2]
   ·congr 1;rcases yg (zj a) 0 with g|g
    ·have hr:Ae (zj a) % zj b=0:=by
      rcases yg 0 (Ae (zj a) % zj b)with g2|g2
      ·exact wh ⟨g,by omega⟩ c2
      ·omega
     have ev:zj a= -Ae (zj a):=by rw[eM,wd g];omega
     have:=(z1 hr).2;rw[<-ev]at this;rw[this,hr,Dv];split<;>rfl
    ·rw[Dv,wc (by simp;omega),eM,wc (by omega)]
 refine qo (Am a b) (z7 (fun c1=>z7 (fun c2=>z7 (fun c3=>?_) (fun c3=>?_)) (fun c2=>?_)) (fun c1=>?_))
 ·have a2:=PA c1;have b2:=PA c2;have c3:a.1≠ -9223372036854775808:=by simpa using c3
  have ra:=Ed (n:=a.1) (by
   have:=oa;unfold Dk at this;rw[zl]at this;exact this.1)
  have rb:=Ed (n:=b.1) (by
   have:=ob;unfold Dk at this;rw[zl]at this;exact this.1)
  have ea:=Bi a2;have eb:=Bi b2;rw[ea]at eM;rw[eb]at hD r2;rw[ea,eb]at q0 q1 r0 r1 z1 z2;rw[ea]at r2;have hq:y7 a.1 b.1=if a.1<0 then -(Ae a.1/b.1)else Ae a.1/b.1:=by
   rw[eM];split
   ·have:=Int.neg_tdiv (-a.1) b.1;rw[Int.neg_neg]at this;rw[this,yd (by omega)]
   ·exact yd (by omega)
  have hr:qw a.1 b.1=if a.1<0 then -(Ae a.1 % b.1)else Ae a.1 % b.1:=by
   rw[eM];split
   ·have:=Int.neg_tmod (-a.1) b.1;rw[Int.neg_neg]at this;rw[this,ye (by omega)]
   ·exact ye (by omega)
  refine zc (w4 (by omega)) (zc (w4 (by omega)) (z7 (fun c=>?_) (fun c=>?_)))
  ·have c:=w6 c;rw[hr]at c;have hn:a.1<0:=by split at c<;>omega
   rw[wd hn]at c hq hr;rw[wd hn]at eM;obtain⟨z3,z4⟩:=z2 (by omega);have ev:a.1= -Ae a.1:=by omega
   have hqm:Ae a.1/b.1<9223372036854775807:=by
    rcases yg (Ae a.1/b.1) 9223372036854775807 with g|g
    ·exact g
    ·have:=yj (Ae a.1) b.1;have:=zg (show 1<=b.1 by omega) q0;omega
   refine yc (fin (ze .i64 (ze .i64 (y7 a.1 b.1)-1),[]) (ze .i64 (qw a.1 b.1+b.1),[]) _ _ rfl ?_ ?_)
   ·rw[hq,wr (-(Ae a.1/b.1)) (by omega) (by omega),wr _ (by omega) (by omega)];refine(Qr _ (by omega) (.inr ⟨by omega,?_,by omega⟩)).symm;unfold Gs;rw[ea,eb,wd ⟨hn,by omega⟩,show -(Ae a.1/b.1)-1+1= -(Ae a.1/b.1)by omega]
   ·rw[hr,wr _ (by omega) (by omega)];have:a.1 % b.1=b.1-Ae a.1 % b.1:=by rw[<-z4, <-ev]
    rw[ea,eb,this,B0 (by omega)];congr 1;omega
  ·have c:=w7 c;rw[hr]at c;refine yc (fin (ze .i64 (y7 a.1 b.1),[]) (qw a.1 b.1,[]) _ _ rfl ?_ ?_)
   ·have hqq:Gs a b=CP (y7 a.1 b.1):=by
     unfold Gs;rw[ea,eb,hq,wc (by rintro⟨h1,h2⟩;rw[wd h1]at c;omega),Dv];by_cases h:a.1<0
     ·rw[wd (w4 h),wd h]
     ·rw[wc (by simp;omega),wc h]
    have hb': -9223372036854775808<y7 a.1 b.1/\y7 a.1 b.1<9223372036854775808:=by
     rw[hq,eM]at*;split<;>split at q1<;>split at q0<;>omega
    rw[wr _ (by omega) (by omega)];exact(Qr _ hb' (.inl hqq)).symm
   ·rw[hr];by_cases h:a.1<0
    ·rw[wd h]at c ⊢;have hz:Ae a.1 % b.1=0:=by omega
     rw[wd h]at eM;have ev:a.1= -Ae a.1:=by omega
     have:=(z1 hz).2;rw[<-ev]at this;rw[ea,eb,this,hz];rfl
    ·rw[wc h]at c ⊢;rw[wc h]at eM;rw[ea,eb,eM,B0 (by rw[eM]at r0 r1;omega)]
 ·exact zc oa (zc ob (zc hdiv slow))
 ·exact zc oa (zc ob (zc hdiv slow))
 ·exact zc oa (zc ob (zc hdiv slow))
end T176
theorem kW:D3 yM:=
 Aa T176.ok (Aa T212.ok (Aa T173.ok AO))
theorem lK{a:AR}(h:Dk a=true):Uz a=CP (Ae (zj a)):=by
 have hn:=qM h;obtain⟨hr,hw⟩:=DT h;unfold Uz;by_cases h0:a.1<0
 ·rw[wd h0,Ah];unfold Ds;have hneg:=hn.1 h0;split
  ·next c=>rw[Bi c.1]at hneg ⊢;rw[B0 (by omega)];congr 1;omega
  ·congr 1;omega
 ·rw[wc h0];obtain⟨s,w⟩:=a;have h0:¬s<0:=h0;rcases hw with hw|⟨h1,h2,h3⟩
  ·have hw:w=[]:=hw;subst hw;have hr: -9223372036854775808<=s/\s<9223372036854775808:=hr;rw[Ep,Ah,B0 (by omega)];congr 1;omega
  ·obtain⟨_,d,z⟩:=EV h1;have h2:s=1\/s= -1:=h2;have h3:9223372036854775808<=Ak w:=h3;have hne:w≠[]:=by rintro rfl;exact wh h3 (by decide)
   have hs:s=1:=by omega
   subst hs;rw[WH hne,wc (by decide),Ah];have:=RU (w:=w) false d z h3;rw[wc (by decide),wc (by decide)]at this;rw[show((Ak w).natAbs:Int)=Ak w by omega,this]
theorem eW(n:Int):EN (Cz n,Cx n)=Qc n:=by
 show Qc (zj (CP _))=_;rw[Cr]
theorem JB(n:Int):zj (Cz n,Cx n)=n:=Cr n
theorem XB(m n:Int):Iv (Cz m,Cx m) (Cz n,Cx n)=Cz (m % n)/\Ik (Cz m,Cx m) (Cz n,Cx n)=Cx (m % n):=by
 constructor
 ·show Cz (zj (CP _) % zj (CP _))=_;rw[Cr,Cr]
 ·show Cx (zj (CP _) % zj (CP _))=_;rw[Cr,Cr]
theorem FG{n:Int}(h:A4 (CP n)=true):A4 (Cz n,Cx n)=true:=h
theorem M7{a:AR}(h:Dk a=true):NM a=Cz (Ae (zj a))/\Pd a=Cx (Ae (zj a)):=by
 unfold NM Pd;rw[lK h];exact⟨rfl,rfl⟩
theorem TP(x y:Nat):((x:Int) % (y:Int))=((x % y:Nat):Int):=rfl
theorem mI(a b:AR)(n:Int)(h:n=Sp.gI (zj a) (zj b)):(Cz n,Cx n)=(Mw a b,Ms a b):=by subst h;rfl
namespace T152
variable {Q:PV->Ob->Prop}
theorem nQ(n:Nat)(h:(n:Int)<(Ai:Int)^9000):A4 (CP (n:Int))=true:=Di (by rw[Ah,Int.natAbs_natCast];exact h)
theorem Al(g:Nat)(o2 L:Int)(hL:∀n:Nat,(n:Int)<L->A4 (CP (n:Int))=true)(hq:∀ob,Q (.agg [.dat i64 (Cz (g:Int)),.dat (.nlist u64) (Cx (g:Int))]) ob):∀(f x y:Nat),y<f->Nat.gcd x y=g->(x:Int)<L->(y:Int)<L->
  Ends yM (L1 o2 (Cz (y:Int)) (Cx (y:Int)) (Cz (x:Int)) (Cx (x:Int))) Q
 |0,x,y,h,_,_,_=>by omega
 |f+1,x,y,hy,hg,bx,by'=>by
  have jx:A4 (CP (x:Int))=true:=hL x bx;have jy:A4 (CP (y:Int))=true:=hL y by'
  refine z8 (Ap ..) (zc (Ce (FG jy)).1 ?_);rw[eW,(XB _ _).1,(XB _ _).2,JB,TP];by_cases h0:y=0
  ·subst h0;rw[Nat.gcd_zero_right]at hg;subst hg;exact yt rfl (yc (hq _))
  ·have hlt:x % y<y:=Nat.mod_lt _ (by omega);refine zc ?_ (zc (Ac (Ac (FG jx) (FG jy)) (w4 (by omega))) ?_)
   ·rw[K4,wc (by omega),wd (by omega)];rfl
   ·exact Al g o2 L hL hq f y (x % y) (by omega) (by rw[Nat.gcd_comm, <-Nat.gcd_rec,Nat.gcd_comm];exact hg) by' (by omega)
set_option maxRecDepth 10000 in
theorem ok:Ag Bh 152 Xz:=by
 refine Cn kW (fun(i:(Int×List Int)×(Int×List Int)) hi=>?_);obtain⟨a,b⟩:=i;have hi:(A4 a&&A4 b)=true:=hi;rw[zl]at hi;obtain⟨ha,hb⟩:=hi;have oa:=(Ce ha).1;have ob:=(Ce hb).1;have ba:=bounds ha;have bb:=bounds hb;rw[Ah]at ba bb;refine qo (Am a b) (zc oa (zc ob ?_));show Ends yM (L1 0 (NM b) (Pd b) (NM a) (Pd a)) _;rw[(M7 oa).1,(M7 oa).2,(M7 ob).1,(M7 ob).2,Ah,Ah];refine Al (Nat.gcd (zj a).natAbs (zj b).natAbs) 0 _ nQ (fun ob=>q9 rfl rfl (mI a b _ ?_)) ((zj b).natAbs+1) _ _ (Nat.lt_succ_self _) rfl ba bb;rw[Fk];rfl
end T152
theorem yW(n:Nat)(h:n<9223372036854775808):HD .i64 (n:Int) 1=((n % 2:Nat):Int):=by
 have e:(yn 64 (n:Int)&&&yn 64 1).toNat=n % 2:=by
  rw[BitVec.toNat_and];have h1:(yn 64 (n:Int)).toNat=n:=by rw[BitVec.ofInt_natCast,BitVec.toNat_ofNat];exact Nat.mod_eq_of_lt (by omega)
  have h2:(yn 64 1).toNat=2^1-1:=by decide
  rw[h1,h2,Nat.and_two_pow_sub_one_eq_mod]
 show ze .i64 (((yn 64 (n:Int)&&&yn 64 1).toNat:Nat):Int)=_;rw[e];exact wr _ (by omega) (by omega)
namespace T216
variable {Q:PV->Ob->Prop}
theorem T2{c:Int}(h:c≠0):1<=Ae c:=by rw[Ah];omega
theorem Yi(c:Int):∀k:Nat,Ae (c^k)=Ae c^k
 |0=>by rw[ym,ym];rfl
 |k+1=>by rw[zu,zu,KI,Yi c k]
theorem one_le_pow{c:Int}(h:1<=c):∀k:Nat,1<=c^k
 |0=>by rw[ym];decide
 |k+1=>by
  rw[zu];have:=zg (one_le_pow h k) (show 0<=c by omega);omega
theorem zU{p c L:Int}{k:Nat}(hL:1<L)(h:Ae (p*c^k)<L)(h1:c=0->Ae p<=1)(h2:c≠0->p≠0):Ae p<L/\(1<=k->Ae c<L)/\(2<=k->Ae (c*c)<L)/\(1<=k->Ae (p*c)<L):=by
 by_cases hc:c=0
 ·subst hc;have:=h1 rfl;have e:Ae 0=0:=rfl;exact⟨by omega,fun _=>by rw[e];omega,fun _=>by rw[yq,e];omega,fun _=>by rw[yq,e];omega⟩
 ·have hp:=T2 (h2 hc);have hc1:=T2 hc;rw[KI,Yi]at h;rw[KI,KI];generalize Ae p=P at*;generalize Ae c=C at*;have k0:1<=C^k:=one_le_pow hc1 k;have a1:P<=P*C^k:=by
   have:=zh k0 (show 0<=P by omega);omega
  have aC:C^k<=P*C^k:=by
   have:=zg hp (show 0<=C^k by omega);omega
  refine⟨by omega,fun hk=>?_,fun hk=>?_,fun hk=>?_⟩
  ·obtain⟨j,rfl⟩:∃j,k=j+1:=⟨k-1,by omega⟩;rw[zu]at aC h;have:=zg (one_le_pow hc1 j) (show 0<=C by omega);omega
  ·obtain⟨j,rfl⟩:∃j,k=j+2:=⟨k-2,by omega⟩;have e:C^(j+2)=C^j*(C*C):=by rw[zu,zu,zr]
   rw[e]at aC h;have:=zg (one_le_pow hc1 j) (ya (show 0<=C by omega) (show 0<=C by omega));omega
  ·obtain⟨j,rfl⟩:∃j,k=j+1:=⟨k-1,by omega⟩;have e:P*C^(j+1)=C^j*(P*C):=by rw[zu,yh]
   rw[e]at h;have:=zg (one_le_pow hc1 j) (ya (show 0<=P by omega) (show 0<=C by omega));omega
theorem Jj{p c:Int}{k j:Nat}(h:k=2*j):p*(c*c)^j=p*c^k:=by
 subst h;rw[Int.pow_mul,zu,zu,ym,yb]
theorem OV{p c:Int}{k j:Nat}(h:k=2*j+1):p*c*(c*c)^j=p*c^k:=by
 subst h;rw[zu,Int.pow_mul,show c^2=c*c by rw[zu,zu,ym,yb],zr,zo c]
theorem zA{x:Int}(h:x<(18446744073709551616:Int)^(4000:Nat)):x<(Ai:Int)^9000:=
 Int.lt_of_lt_of_le h (AH (b:=Ai) (by decide) (by omega))
theorem Al(o1 R:Int)(hR:Ae R<(18446744073709551616:Int)^(4000:Nat))(hq:∀ob,Q (.agg [.dat i64 (Cz R),.dat (.nlist u64) (Cx R)]) ob):
  ∀(f k:Nat) (p:Int) (a:AR),k<f->k<=100000->(1<=k->A4 a=true)->p*zj a^k=R->(zj a=0->Ae p<=1)->(zj a≠0->p≠0)->
   Ends xD (L1 (k:Int) (Cz p) (Cx p) o1 a.1 a.2) Q
 |0,k,p,a,h,_,_,_,_,_=>by omega
 |f+1,k,p,a,hk,hk2,ha,he,h1,h2=>by
  have hL:(1:Int)<(18446744073709551616:Int)^(4000:Nat):=Int.lt_of_lt_of_le (show(1:Int)<18446744073709551616^(1:Nat)by decide) (AH (b:=18446744073709551616) (by decide) (by omega));rw[<-he]at hR;obtain⟨s1,s2,s3,s4⟩:=zU hL hR h1 h2;by_cases h0:k=0
  ·subst h0;rw[ym,yw]at he;subst he;exact z8 (Ap ..) (yt (by simp) (yc (hq _)))
  ·have jp:A4 (Cz p,Cx p)=true:=Di (zA s1);have ja:A4 a=true:=ha (by omega);have ef:Int.fdiv (k:Int) ((2:Int)^(1:Nat))=((k/2:Nat):Int):=by
    rw[yy _ (by decide)];rfl
   have m1:(EG (Cz p,Cx p) a,EW (Cz p,Cx p) a)=CP (p*zj a):=by
    show CP (zj (CP p)*zj a)=_;rw[Cr]
   have m1s:EG (Cz p,Cx p) (a.1,a.2)=Cz (p*zj a):=wi Prod.fst m1;have m1w:EW (Cz p,Cx p) (a.1,a.2)=Cx (p*zj a):=wi Prod.snd m1;have m2:zj (E1 a a)=zj a*zj a:=Du a a;have sq:∀q:Int,1<k->q*(zj a*zj a)^(k/2)=p*zj a^k->(zj a=0->Ae q<=1)->(zj a≠0->q≠0)->Ends xD (L1 ((k/2:Nat):Int) (Cz q) (Cx q) o1 (EG (a.1,a.2) (a.1,a.2)) (EW (a.1,a.2) (a.1,a.2))) Q:=by
    intro q hk1 hq' g1 g2;refine Al o1 R (by rw[he]at hR;exact hR) hq f (k/2) q (E1 a a) (by omega) (by omega) (fun _=>Di (zA (s3 (by omega)))) (by rw[m2,hq',he]) (fun z=>g1 ?_) (fun z=>g2 ?_)
    ·rw[m2]at z;rcases Int.mul_eq_zero.1 z with z|z<;>exact z
    ·rintro z2;rw[m2,z2]at z;exact z rfl
   have st:∀q:Int,k=1->q=R->Ends xD (L1 ((k/2:Nat):Int) (Cz q) (Cx q) o1 a.1 a.2) Q:=by
    intro q hk1 hq';subst hk1 hq';exact z8 (Ap ..) (yt (by simp) (yc (hq _)))
   refine z8 (Ap ..) (zc (w4 (by omega)) ?_);rw[yW k (by omega),ef,m1s,m1w];refine z7 (fun c=>?_) (fun c=>?_)
   ·have c:((k % 2:Nat):Int)=1:=by simpa using c
    refine zc (Ac jp ja) (z7 (fun d=>zc (Ac ja ja) (zc rfl ?_)) (fun d=>zc rfl ?_))
    ·have d:=w6 d;refine sq _ (by omega) (OV (by omega)) (fun z=>by rw[z,yq];decide) (fun z=>?_);exact Int.mul_ne_zero (h2 z) z
    ·have d:=w7 d;have hk1:k=1:=by omega
     refine st _ hk1 ?_;rw[<-he,hk1,zu,ym,yb]
   ·have c:((k % 2:Nat):Int)≠1:=by simpa using c
    refine z7 (fun d=>zc (Ac ja ja) (zc rfl ?_)) (fun d=>?_)
    ·have d:=w6 d;exact sq _ (by omega) (Jj (by omega)) h1 h2
    ·have d:=w7 d;omega
theorem nE:D3 xD:=Aa T105n.ok (Aa T159.ok AO)
theorem ok:Ag Bh 216 fH:=by
 refine Cn nE (fun(i:(Int×List Int)×Int) hi=>?_);obtain⟨a,k⟩:=i;have hi:(A4 a&&(decide (0<=k)&&decide (k<=100000)&&decide (Ae (Sp.pI (zj a) k)<(18446744073709551616:Int)^(4000:Nat))))=true:=hi;rw[zl,zl,zl,w5,w5,w5,RN]at hi;obtain⟨ha,⟨k0,k1⟩,hR⟩:=hi;obtain⟨n,rfl⟩:=Int.eq_ofNat_of_zero_le k0;have e1:BA 1=Cx 1:=by rw[Ei];rfl
 refine qo (Am a n) (zc rfl ?_);rw[e1];refine Al (Q:=Ad fH (a,(n:Int))) 0 (zj a^n) hR (fun ob=>q9 rfl rfl ?_) (n+1) n 1 a (by omega) (by omega) (fun _=>ha) (yb _) (fun _=>by decide) (fun _=>by decide);show CP _=CP (Sp.pI (zj a) (n:Int));rw[RN];rfl
end T216
end Go.Pe
namespace Go.Sp
theorem Pt{l:List Int}(h:JA l=true):l.length<=20000/\Au B9 l:=by
 unfold JA at h;rw[zl,w5,List.all_eq_true]at h;exact⟨h.1,fun d hd=>by
  have:=h.2 d hd;rw[zl,w5,w5]at this;exact this⟩
theorem KT{l:List Int}(h1:l.length<=20000)(h2:Au B9 l):JA l=true:=by
 unfold JA;rw[zl,w5,List.all_eq_true];exact⟨h1,fun d hd=>by
  have:=h2 d hd;rw[zl,w5,w5];exact this⟩
theorem rI{l:List Int}(h:hR l=true):l.length<=9000/\Au B9 l:=by
 unfold hR at h;rw[zl,w5]at h;exact⟨h.2,(Pt h.1).2⟩
theorem Q7{l:List Int}(h1:l.length<=9000)(h2:Au B9 l):hR l=true:=by
 unfold hR;rw[KT (by omega) h2,je];exact w4 h1
theorem Bk{l:List Int}(h:A5 l=true):l.length<=20000/\Au B9 l/\nz l:=by
 unfold A5 at h;rw[zl]at h;have:=Pt h.1;exact⟨this.1,this.2,by
  have:=h.2;unfold tH at this;have:l.getLast?≠some 0:=w6 this;exact this⟩
theorem cC{l:List Int}(h1:l.length<=20000)(h2:Au B9 l)(h3:nz l):A5 l=true:=by
 unfold A5 tH;rw[KT h1 h2,je];exact w4 h3
theorem Gr{l:List Int}(h:Au B9 l)(i:Nat):0<=l.getD i 0/\l.getD i 0<1000000000:=JW (by decide) h i
theorem E4{l:List Int}{x:Int}(h:Au B9 l)(hx:0<=x/\x<1000000000):Au B9 (l++[x]):=EF h (fun d hd=>by rw[List.mem_singleton]at hd;subst hd;exact hx)
theorem B6(l:List Int)(x:Int):val B9 (l++[x])=val B9 l+(B9:Int)^l.length*x:=by
 rw[CU];simp[val]
theorem JH(i:Nat)(c:Int):(B9:Int)^(i+1)*c=(B9:Int)^i*(1000000000*c):=by
 rw[zu,zr];rfl
theorem Fp{l:List Int}(h:Au B9 l):As l=BN (Ar l):=XI (by decide) h
theorem NA{n:Int}{k:Nat}(h0:0<=n)(h:n<(B9:Int)^k):(BN n).length<=k:=by
 refine No B9 (by decide) k n.toNat n.toNat ?_;have e:((B9^k:Nat):Int)=(B9:Int)^k:=Int.natCast_pow ..;rw[<-e]at h;generalize B9^k=P at*;omega
theorem GN{n:Int}{k:Nat}(h0:0<=n)(h:n<(B9:Int)^k)(hk:k<=9000):A5 (BN n)=true/\hR (BN n)=true/\Ar (BN n)=n/\(BN n).length<=k:=by
 have h1:=NA h0 h;have h2:=Fh (b:=B9) (by decide) n;exact⟨cC (by omega) h2 (Yu (by decide) n),Q7 (by omega) h2,CS (by decide) h0,h1⟩
end Go.Sp
namespace Go.Pe
open Sp
open Go.Det
theorem SX:D3 kQ:=fun g sp h=>by cases h
namespace T227
theorem Al{Q:PV->Ob->Prop}:∀(n:Nat) (w:List Int),w.length=n->n<=20000->(∀ob,Q (.dat li (As w)) ob)->Ends kQ (L1 w) Q
 |0,w,hl,_,hq=>by
  have:w=[]:=qd.1 hl;subst this;exact z8 (Ap ..) (yt (by simp) (yc (hq _)))
 |n+1,w,hl,hn,hq=>by
  obtain⟨p,x,rfl⟩:∃p x,w=p++[x]:=by
   have hne:w≠[]:=by rintro rfl;simp at hl
   exact⟨w.dropLast,w.getLast hne,(List.dropLast_concat_getLast hne).symm⟩
  have hp:p.length=n:=by simpa using hl
  have e1:ze .i64 (((p++[x]).length:Int)-1)=(n:Int):=by rw[wr _ (by omega) (by omega)];omega
  have g1:(p++[x]).getD n 0=x:=DH _ _ _ _ hp;have t1:(p++[x]).take n=p:=by rw[<-hp];exact List.take_left
  refine z8 (Ap ..) (zc (w4 (by omega)) ?_);rw[e1,zf,g1,t1];refine zc (by simp;omega) (z7 (fun c=>zc (by simp;omega) ?_) (fun c=>?_))
  ·have c:x=0:=by simpa using c
   subst c;rw[H9]at hq;exact Al n p hp (by omega) hq
  ·have c:x≠0:=by simpa using c
   rw[H8 (Yj c)]at hq;exact yc (hq _)
theorem ok:Ag Bh 227 RR:=by
 refine Cn SX (fun(w:List Int) hw=>?_);have hw:w.length<=20000:=w6 hw;exact qo (Am w) (Al w.length w rfl hw (fun ob=>q9 rfl rfl rfl))
end T227
theorem Rn:D3 aS:=Aa T227.ok AO
theorem T168.ok:Ag Bh 168 II:=by
 refine Cn Rn (fun(i:Bool×List Int) hi=>?_);obtain⟨n,w⟩:=i;refine qo (T168.Am n w) (zc hi (z7 (fun c=>yc (q9 rfl rfl ?_)) (fun c=>yc (q9 rfl rfl ?_))))
 ·show(decide (((As w).length:Int)>0),As w)=(B7 n w,As w);unfold B7;rw[c,je];congr 1;rw[decide_eq_decide];constructor
  ·intro h h2;rw[h2]at h;simp at h
  ·intro h;have:(As w).length≠0:=fun h2=>h (qd.1 h2)
   omega
 ·show(false,As w)=(B7 n w,As w);unfold B7;rw[c];rfl
namespace T170
theorem Al{Q:PV->Ob->Prop}(a b:List Int)(ha:Au zi a)(hb:Au zi b)(hl:a.length=b.length)(h2:b.length<=20000)(hq:∀ob,Q (.dat i64 (BO (Ar a) (Ar b))) ob):∀(i:Nat),i<=a.length->a.drop i=b.drop i->Ends kQ (L1 a b ((i:Int)-1)) Q
 |0,hi,he=>by
  have he:a=b:=he;have:BO (Ar a) (Ar b)=0:=by rw[he];unfold BO;simp
  rw[this]at hq;exact z8 (Ap ..) (yt (by simp) (yc (hq _)))
 |i+1,hi,he=>by
  have e1:(((i+1:Nat):Int)-1)=(i:Int):=by omega
  have da:a.drop i=a.getD i 0::a.drop (i+1):=Cb (by omega);have db:b.drop i=b.getD i 0::a.drop (i+1):=by rw[he];exact Cb (by omega)
  rw[e1];refine z8 (Ap ..) (zc (by simp) ?_);rw[zf];refine zc (by simp;omega) (zc (by simp;omega) (z7 (fun d=>?_) (fun d=>zc (by simp;omega) (zc (by simp;omega) (z7 (fun c=>?_) (fun c=>?_))))))
  ·have d:=w6 d;have:=IS (b:=zi) (by decide) ha hb da db d;have e:BO (Ar a) (Ar b)= -1:=by unfold BO;exact wd this
   rw[e]at hq;exact yc (hq _)
  ·have c:=w6 c;have:=IS (b:=zi) (by decide) hb ha db da c;have e:BO (Ar a) (Ar b)=1:=by unfold BO Ar;rw[wc (by omega),wd (by omega)]
   rw[e]at hq;exact yc (hq _)
  ·have c:=w7 c;have d:=w7 d;rw[wr ((i:Int)-1) (by omega) (by omega)];exact Al a b ha hb hl h2 hq i (by omega) (by rw[da,db,show a.getD i 0=b.getD i 0 by omega])
theorem ok:Ag Bh 170 Xe:=by
 refine Cn SX (fun(i:List Int×List Int) hi=>?_);obtain⟨a,b⟩:=i;have hi:(A5 a&&A5 b)=true:=hi;rw[zl]at hi;obtain⟨a1,a2,a3⟩:=Bk hi.1;obtain⟨b1,b2,b3⟩:=Bk hi.2;have hq:∀ob,Ad Xe (a,b) (.dat i64 (BO (Ar a) (Ar b))) ob:=fun ob=>q9 rfl rfl rfl
 refine qo (Am a b) (z7 (fun c=>z7 (fun d=>?_) (fun d=>?_)) (fun c=>?_))
 ·have d:=w6 d;have e:BO (Ar a) (Ar b)= -1:=by unfold BO;exact wd (Ex (by decide) a2 b2 b3 (by omega))
  rw[e]at hq;exact yc (hq _)
 ·have d:=w7 d;have c:(a.length:Int)≠b.length:=by simpa using c
  have:=Ex (b:=zi) (by decide) b2 a2 a3 (by omega);have e:BO (Ar a) (Ar b)=1:=by
   unfold BO Ar;rw[wc (by omega),wd (by omega)]
  rw[e]at hq;exact yc (hq _)
 ·have c:(a.length:Int)=b.length:=by simpa using c
  rw[wr _ (by omega) (by omega)];exact Al a b a2 b2 (by omega) b1 hq a.length (by omega) (by rw[qv,qf (by omega)])
end T170
theorem aF{x y o c:Int}(hx:0<=x/\x<1000000000)(hy:0<=y/\y<1000000000)(ho:0<=o/\o<1000000000)(hc:0<=c/\c<1000000000):
  ze .i64 (ze .i64 (o+ze .i64 (x*y))+c)=o+x*y+c/\qw (o+x*y+c) 1000000000=(o+x*y+c) % 1000000000/\ze .i64 (y7 (o+x*y+c) 1000000000)=(o+x*y+c)/1000000000/\
  (0<=(o+x*y+c)/1000000000/\(o+x*y+c)/1000000000<1000000000)/\(0<=(o+x*y+c) % 1000000000/\(o+x*y+c) % 1000000000<1000000000):=by
 have h0:0<=x*y:=ya hx.1 hy.1;have h1:x*y<=999999999*999999999:=by
  have a:=zh (show y<=999999999 by omega) hx.1;have b:=zg (show x<=999999999 by omega) (show(0:Int)<=999999999 by omega);omega
 generalize x*y=P at*;have e1:ze .i64 P=P:=wr _ (by omega) (by omega);have e2:ze .i64 (o+P)=o+P:=wr _ (by omega) (by omega);have e3:y7 (o+P+c) 1000000000=(o+P+c)/1000000000:=yd (by omega);refine⟨?_,ye (by omega),?_,by omega,by omega⟩
 ·rw[e1,e2];exact wr _ (by omega) (by omega)
 ·rw[e3];exact wr _ (by omega) (by omega)
namespace T172
variable {Q:PV->Ob->Prop}
theorem A2(x y:List Int)(n i:Nat)(hi:i<x.length)(hn:n=x.length+y.length)(hx9:x.length<=9000)(hy9:y.length<=9000)(hx:Au zi x)(hy:Au zi y)(p:List Int)(hp:p.length=i+y.length)(hdp:Au zi p)
  (hq:∀q c,q.length=i+y.length->Au zi q->(0<=c/\c<1000000000)->zd zi q+(zi:Int)^(i+y.length)*c=zd zi p+(zi:Int)^i*(x.getD i 0*zd zi y)->Ends aS (L1 x y n ((i+1:Nat):Int) ((q++[c])++zk (n-(i+y.length+1)) 0)) Q):∀(k j:Nat) (q:List Int) (c:Int),j+k=y.length->q.length=i+j->Au zi q->(0<=c/\c<1000000000)->zd zi q+(zi:Int)^(i+j)*c=zd zi (p.take (i+j))+(zi:Int)^i*(x.getD i 0*zd zi (y.take j))->
  Ends aS (L2 x y n i c j (q++(p.drop (i+j)++zk (n-(i+y.length)) 0))) Q
 |0,j,q,c,hj,hl,hd,hc,he=>by
  have hj:j=y.length:=by omega
  subst hj;have e1:ze .i64 ((i:Int)+(y.length:Int))=((i+y.length:Nat):Int):=by rw[wr _ (by omega) (by omega)];omega
  have e2:ze .i64 ((i:Int)+1)=((i+1:Nat):Int):=by rw[wr _ (by omega) (by omega)];omega
  have ed:p.drop (i+y.length)=[]:=qf (by omega);have eg:(q++zk (n-(i+y.length)) (0:Int)).getD (i+y.length) 0=0:=by
   have:n-(i+y.length)=(n-(i+y.length+1))+1:=by omega
   rw[this,List.replicate_succ];exact DH _ _ _ _ hl
  refine z8 (AY ..) (yt (by simp) ?_);rw[e1,e2,zf,ed,List.nil_append,eg,Int.zero_add,wr c (by omega) (by omega),Jm q n _ c hl (by omega)];refine zc (by simp;omega) (zc (by simp;omega) (zc (by simp;omega) (zc (by simp;omega) (hq q c hl hd hc ?_))));rw[he,zt (by omega),qu]
 |k+1,j,q,c,hj,hl,hd,hc,he=>by
  have gx:=Gr hx i;have gy:=Gr hy j;have gp:=Gr hdp (i+j);have ep:p.drop (i+j)=p.getD (i+j) 0::p.drop (i+j+1):=Cb (by omega);have e1:ze .i64 ((i:Int)+(j:Int))=((i+j:Nat):Int):=by rw[wr _ (by omega) (by omega)];omega
  have e2:ze .i64 ((j:Int)+1)=((j+1:Nat):Int):=by rw[wr _ (by omega) (by omega)];omega
  have lo:(q++(p.drop (i+j)++zk (n-(i+y.length)) (0:Int))).length=n:=by simp;omega
  have g1:(q++(p.drop (i+j)++zk (n-(i+y.length)) (0:Int))).getD (i+j) 0=p.getD (i+j) 0:=by
   rw[ep,List.cons_append];exact DH _ _ _ _ hl
  have s1:∀z,(q++(p.drop (i+j)++zk (n-(i+y.length)) (0:Int))).set (i+j) z=(q++[z])++(p.drop (i+(j+1))++zk (n-(i+y.length)) 0):=by
   intro z;rw[ep,List.cons_append,Dg _ _ _ _ hl,yf];rfl
  obtain⟨m1,m2,m3,m4,m5⟩:=aF gx gy gp hc;refine z8 (AY ..) (zc (by simp;omega) ?_);rw[e1,e2,zf,zf,zf,g1,m1,m2,m3,s1];have t1:(decide ((0:Int)<=((i+j:Nat):Int))&&decide (((i+j:Nat):Int)<(n:Int)))=true:=by simp;omega
  refine zc t1 (zc (w4 (by rw[lo];omega)) (zc (by simp;omega) (zc (by simp;omega) (zc rfl (zc t1 (zc (w4 (by rw[lo];omega)) (zc rfl ?_)))))));refine A2 x y n i hi hn hx9 hy9 hx hy p hp hdp hq k (j+1) _ _ (by omega) (by simp;omega) (E4 hd m5) m4 ?_;have ea:i+(j+1)=(i+j)+1:=by omega
  have eb:(zi:Int)^i*(x.getD i 0*((zi:Int)^j*y.getD j 0))=(zi:Int)^(i+j)*(x.getD i 0*y.getD j 0):=by
   rw[Int.pow_add,zr,yh (x.getD i 0)]
  have e6:(p.getD (i+j) 0+x.getD i 0*y.getD j 0+c) % 1000000000+1000000000*((p.getD (i+j) 0+x.getD i 0*y.getD j 0+c)/1000000000)=x.getD i 0*y.getD j 0+p.getD (i+j) 0+c:=by
   generalize x.getD i 0*y.getD j 0=P;omega
  rw[ea,B6,hl,JH,y8, <-zq,e6,AB _ p (i+j),AB _ y j,zq,zq,zq (x.getD i 0),zq,eb];omega
theorem Al(x y:List Int)(n:Nat)(hn:n=x.length+y.length)(hx9:x.length<=9000)(hy9:y.length<=9000)(hx:Au zi x)(hy:Au zi y)(hq:∀ob,Q (.dat li (BN (Ar x*Ar y))) ob):∀(k i:Nat) (p:List Int),i+k=x.length->p.length=i+y.length->Au zi p->zd zi p=zd zi (x.take i)*zd zi y->
  Ends aS (L1 x y n i (p++zk (n-(i+y.length)) 0)) Q
 |0,i,p,hi,hp,hd,he=>by
  have hi:i=x.length:=by omega
  subst hi;have ez:p++zk (n-(x.length+y.length)) (0:Int)=p:=by rw[hn,Nat.sub_self];simp
  have hv:Ar p=Ar x*Ar y:=by
   rw[qu]at he;exact he
  rw[ez];refine z8 (Ap ..) (yt (by simp) ?_);rw[zt (by omega)];refine zc ?_ (yc ?_)
  ·simp;omega
  ·rw[Fp hd,hv];exact hq _
 |k+1,i,p,hi,hp,hd,he=>by
  refine z8 (Ap ..) (zc (by simp;omega) ?_);have:=A2 (Q:=Q) x y n i (by omega) hn hx9 hy9 hx hy p hp hd (fun q c hl hdq hc hv=>by
   have:=Al x y n hn hx9 hy9 hx hy hq k (i+1) (q++[c]) (by omega) (by simp;omega) (E4 hdq hc) (by
    rw[B6,hl,hv,he,AB,yi,zr])
   rw[show i+1+y.length=i+y.length+1 by omega]at this;exact this) y.length 0 (p.take i) 0 (by omega) (by simp;omega) (AK hd i) (by decide) (by simp[zd])
  rw[Nat.add_zero, <-yf,qh]at this;exact this
theorem ok:Ag Bh 172 Ye:=by
 refine Cn Rn (fun(i:List Int×List Int) hi=>?_);obtain⟨x,y⟩:=i;have hi:(Sp.hR x&&Sp.hR y)=true:=hi;rw[zl]at hi;obtain⟨x1,x2⟩:=rI hi.1;obtain⟨y1,y2⟩:=rI hi.2;have e1:ze .i64 ((x.length:Int)+(y.length:Int))=((x.length+y.length:Nat):Int):=by rw[wr _ (by omega) (by omega)];omega
 refine qo (Am x y) ?_;conv=>zeta
 rw[e1,zf];refine zc (by simp;omega) ?_;have:=Al (Q:=Ad Ye (x,y)) x y (x.length+y.length) rfl x1 y1 x2 y2 (fun ob=>q9 rfl rfl rfl) x.length 0 (zk y.length 0) (by omega) (by simp) (fun d hd=>by rw[(List.mem_replicate.1 hd).2];decide) (by rw[LH];simp[zd]);rw[Nat.zero_add,List.replicate_append_replicate,show y.length+(x.length+y.length-y.length)=x.length+y.length by omega]at this;exact this
end T172
theorem Zt{r x d:Int}(hd:0<d/\d<1000000000)(hr:0<=r/\r<d)(hx:0<=x/\x<1000000000):
  ze .i64 (ze .i64 (r*1000000000)+x)=r*1000000000+x/\ze .i64 (y7 (r*1000000000+x) d)=(r*1000000000+x)/d/\qw (r*1000000000+x) d=(r*1000000000+x) % d/\
  (0<=(r*1000000000+x)/d/\(r*1000000000+x)/d<1000000000)/\(0<=(r*1000000000+x) % d/\(r*1000000000+x) % d<d)/\(r*1000000000+x)/d*d+(r*1000000000+x) % d=r*1000000000+x:=by
 have h:=yj (r*1000000000+x) d;rw[zo]at h;have q0:0<=(r*1000000000+x)/d:=qm (by omega) (by omega);have q1:(r*1000000000+x)/d<1000000000:=qg hd.1 (by omega);refine⟨?_,?_,ye (by omega),⟨q0,q1⟩,⟨yv _ (by omega),yr _ hd.1⟩,h⟩
 ·rw[wr (r*1000000000) (by omega) (by omega)];exact wr _ (by omega) (by omega)
 ·rw[yd (by omega)];exact wr _ (by omega) (by omega)
namespace T226
variable {Q:PV->Ob->Prop}
theorem Al(a:List Int)(d:Int)(ha:Au zi a)(hd:0<d/\d<1000000000)(hm:a.length<=20000)(hq:∀q r ob,Au zi q->(0<=r/\r<d)->Ar a=Ar q*d+r->Q (.tup [.dat li (As q),.dat i64 r]) ob):∀(i:Nat) (q:List Int) (r:Int),i+q.length=a.length->Au zi q->(0<=r/\r<d)->zd zi (a.drop i)=zd zi q*d+r->
  Ends aS (L1 a d a.length r ((i:Int)-1) (zk i 0++q)) Q
 |0,q,r,hl,hdq,hr,he=>by
  have ht:((zk 0 0++q).take a.length)=q:=by
   rw[List.replicate_zero,List.nil_append];exact zt (by omega)
  refine z8 (Ap ..) (yt (by simp) ?_);rw[ht];refine zc (Ac (by simp;omega) (w4 (by omega))) (yc (hq q r _ hdq hr he))
 |i+1,q,r,hl,hdq,hr,he=>by
  have e1:(((i+1:Nat):Int)-1)=(i:Int):=by omega
  have gx:=Gr ha i;obtain⟨d1,d2,d3,d4,d5,d6⟩:=Zt hd hr gx;have da:a.drop i=a.getD i 0::a.drop (i+1):=Cb (by omega);have es:∀x,(zk (i+1) (0:Int)++q).set i x=zk i 0++(x::q):=by
   intro x;rw[List.replicate_succ',yf];exact Dg _ _ _ _ (by simp)
  rw[e1];refine z8 (Ap ..) (zc (by simp) ?_);rw[zf,es,wr ((i:Int)-1) (by omega) (by omega),d1,d2,d3];refine zc (by simp;omega) (zc (w4 (by omega)) (zc (by simp;omega) (zc (by simp;omega) (zc (w4 (by omega)) ?_))));refine Al a d ha hd hm hq i _ _ (by simp;omega) (fun x hx=>?_) d5 ?_
  ·rcases qt.1 hx with rfl|hx
   ·exact d4
   ·exact hdq x hx
  ·rw[da];show a.getD i 0+(1000000000:Int)*zd zi (a.drop (i+1))=((r*1000000000+a.getD i 0)/d+(1000000000:Int)*zd zi q)*d+(r*1000000000+a.getD i 0) % d;rw[he,yi,zq,zr];omega
theorem ok:Ag Bh 226 Wx:=by
 refine Cn Rn (fun(i:List Int×Int) hi=>?_);obtain⟨a,d⟩:=i;have hi:(JA a&&decide (0<d)&&decide (d<1000000000))=true:=hi;rw[zl,zl,w5,w5]at hi;obtain⟨⟨ha,d0⟩,d1⟩:=hi;obtain⟨hl,hda⟩:=Pt ha;refine qo (Am a d) ?_;conv=>zeta
 rw[zf,wr ((a.length:Int)-1) (by omega) (by omega)];refine zc (by simp;omega) ?_;have:=Al (Q:=Ad Wx (a,d)) a d hda ⟨d0,d1⟩ hl (fun q r ob hq hr he=>?_) a.length [] 0 (by simp) (fun x hx=>by cases hx) ⟨qk _,d0⟩ (by rw[qv];simp[zd])
 ·rw[qz]at this;exact this
 ·refine q9 rfl rfl ?_;show(As q,r)=(BN (Ar a/d),Ar a % d);obtain⟨u1,u2⟩:=(yz (a:=Ar a) (b:=d) (r:=r) (q:=Ar q) d0).2 ⟨by rw[zo d];omega,hr.1,hr.2⟩;rw[Fp hq,u1,u2]
end T226
theorem kT:D3 LB:=
 Aa T170.ok (Aa T227.ok (Aa T226.ok (Aa T172.ok AO)))
theorem Sw{t x y w:Int}(ht:0<=t/\t<1000000000)(hx:0<=x/\x<1000000000)(hy:0<=y/\y<1000000000)(hw:0<=w/\w<=1000000000):
  ze .i64 (ze .i64 (t*x)+w)=t*x+w/\qw (t*x+w) 1000000000=(t*x+w) % 1000000000/\ze .i64 (y7 (t*x+w) 1000000000)=(t*x+w)/1000000000/\
  ze .i64 ((t*x+w)/1000000000+1)=(t*x+w)/1000000000+1/\ze .i64 (y-(t*x+w) % 1000000000)=y-(t*x+w) % 1000000000/\(0<=(t*x+w)/1000000000/\(t*x+w)/1000000000<1000000000)/\(0<=(t*x+w) % 1000000000/\(t*x+w) % 1000000000<1000000000):=by
 have h0:0<=t*x:=ya ht.1 hx.1;have h1:t*x<=999999999*999999999:=by
  have a:=zh (show x<=999999999 by omega) ht.1;have b:=zg (show t<=999999999 by omega) (show(0:Int)<=999999999 by omega);omega
 generalize t*x=P at*;have e1:ze .i64 P=P:=wr _ (by omega) (by omega);have e3:y7 (P+w) 1000000000=(P+w)/1000000000:=yd (by omega);refine⟨?_,ye (by omega),?_,wr _ (by omega) (by omega),wr _ (by omega) (by omega),by omega,by omega⟩
 ·rw[e1];exact wr _ (by omega) (by omega)
 ·rw[e3];exact wr _ (by omega) (by omega)
theorem Y7(w r:List Int)(i:Nat)(h:i<w.length):(w++r).getD i 0=w.getD i 0:=by
 rw[z6,z6,List.getElem?_append_left h]
namespace T164
variable {Q:PV->Ob->Prop}
theorem gW{lo w z:List Int}{h:Int}{j i:Nat}(hlo:lo.length=j)(hi:i<w.length):(lo++(w++h::z)).getD (i+j) 0=w.getD i 0:=by
 rw[GM _ _ _ _ hlo,Y7 _ _ _ hi]
theorem sW{lo w z:List Int}{h:Int}{j i:Nat}(x:Int)(hlo:lo.length=j)(hi:i<w.length):(lo++(w++h::z)).set (i+j) x=lo++(w.set i x++h::z):=by
 rw[Rx _ _ _ _ _ hlo,List.set_append_left _ _ hi]
theorem gH{lo w z:List Int}{h:Int}{j n:Nat}(hlo:lo.length=j)(hn:w.length=n):(lo++(w++h::z)).getD (n+j) 0=h:=by
 rw[GM _ _ _ _ hlo];exact DH _ _ _ _ hn
theorem sH{lo w z:List Int}{h:Int}{j n:Nat}(x:Int)(hlo:lo.length=j)(hn:w.length=n):(lo++(w++h::z)).set (n+j) x=lo++(w++x::z):=by
 rw[Rx _ _ _ _ _ hlo];congr 1;exact Dg _ _ _ _ hn
theorem Nr(w z:List Int)(h:Int)(hz:zd zi z=0):zd zi (w++h::z)=zd zi w+(zi:Int)^w.length*h:=by
 rw[CU];show _+_*(h+(zi:Int)*zd zi z)=_;rw[hz,yq,qe]
theorem Cv(v8n v11n v12n:Nat)(o2 o0 v lo z:List Int)(n j:Nat)(t h' X:Int)(hn:v.length=n)(hn9:n<=9000)(hlo:lo.length=j)(hj:j<=9000)(h11:n+j<v11n)(hjv:j<v12n)(hj1:j<o2.length)(hv:Au zi v)(hz:zd zi z=0)(hdz:Au zi z)(hh: -2000000000<=h'/\h'<=2000000000)
  (hX:0<=X/\X<(zi:Int)^n) (hlen:v11n=j+n+1+z.length)
  (hfin:∀r:List Int,r.length=n+1+z.length->Au zi r->zd zi r=X->Ends LB (L2 v8n v n v11n v12n (ze .i64 ((j:Int)-1)) (o2.set j t) (lo++r) o0) Q):
  ∀(k i:Nat) (w:List Int) (c:Int),i+k=n->w.length=n->Au zi w->(0<=c/\c<=1)->zd zi w+(zi:Int)^n*h'=X-zd zi v+zd zi (v.take i)-(zi:Int)^i*c->
   Ends LB (L5 v8n v n v11n v12n j t c i o2 (lo++(w++h'::z)) o0) Q
 |0,i,w,c,hi,hw,hd,hc,he=>by
  have hi:i=n:=by omega
  subst hi;have e1:ze .i64 ((j:Int)+(i:Int))=((i+j:Nat):Int):=by rw[wr _ (by omega) (by omega)];omega
  have hv1:v.take i=v:=zt (by omega);rw[hv1]at he;have a1:=Ax (b:=zi) (by decide) hd;have a2:=Bo (b:=zi) (by decide) hd;rw[hw]at a2;have hp:=AN (b:=zi) (by decide) i;have e5:zd zi w+(zi:Int)^i*(h'+c)=X:=by rw[zq];omega
  have hzero:h'+c=0:=by
   rcases Int.lt_trichotomy (h'+c) 0 with g|g|g
   ·have:=zh (show h'+c<= -1 by omega) (zw hp);rw[jc,yw]at this;omega
   ·exact g
   ·have:=zh (show 1<=h'+c by omega) (zw hp);rw[yw]at this;omega
  have hll:i+j<(lo++(w++h'::z)).length:=by simp;omega
  refine z8 (E5 ..) (yt (by simp) ?_);rw[e1,zf,zf,gH hlo hw,sH _ hlo hw,wr (h'+c) (by omega) (by omega),hzero];have t1:(decide ((0:Int)<=((i+j:Nat):Int))&&decide (((i+j:Nat):Int)<(v11n:Int)))=true:=by simp;omega
  refine zc t1 (zc (w4 hll) (zc t1 (zc (w4 hll) (zc (by simp;omega) (zc (w4 hj1) (hfin _ (by simp;omega) (EF hd (fun d hd'=>?_)) ?_))))))
  ·rcases qt.1 hd' with rfl|hd'
   ·decide
   ·exact hdz d hd'
  ·rw[Nr _ _ _ hz,hw, <-e5,hzero]
 |k+1,i,w,c,hi,hw,hd,hc,he=>by
  have gx:=Gr hv i;have gy:=Gr hd i;have e1:ze .i64 ((i:Int)+(j:Int))=((i+j:Nat):Int):=by rw[wr _ (by omega) (by omega)];omega
  have e2:ze .i64 ((i:Int)+1)=((i+1:Nat):Int):=by rw[wr _ (by omega) (by omega)];omega
  have e3:ze .i64 (ze .i64 (w.getD i 0+v.getD i 0)+c)=w.getD i 0+v.getD i 0+c:=by
   rw[wr (w.getD i 0+v.getD i 0) (by omega) (by omega)];exact wr _ (by omega) (by omega)
  have e4:qw (w.getD i 0+v.getD i 0+c) 1000000000=(w.getD i 0+v.getD i 0+c) % 1000000000:=ye (by omega);have e5:ze .i64 (y7 (w.getD i 0+v.getD i 0+c) 1000000000)=(w.getD i 0+v.getD i 0+c)/1000000000:=by
   rw[yd (by omega)];exact wr _ (by omega) (by omega)
  have hll:i+j<(lo++(w++h'::z)).length:=by simp;omega
  refine z8 (E5 ..) (zc (by simp;omega) ?_);rw[e1,e2,zf,zf,gW hlo (by omega),sW _ hlo (by omega),e3,e4,e5];have t1:(decide ((0:Int)<=((i+j:Nat):Int))&&decide (((i+j:Nat):Int)<(v11n:Int)))=true:=by simp;omega
  refine zc t1 (zc (w4 hll) (zc (by simp;omega) (zc rfl (zc t1 (zc (w4 hll) (zc rfl ?_))))));refine Cv v8n v11n v12n o2 o0 v lo z n j t h' X hn hn9 hlo hj h11 hjv hj1 hv hz hdz hh hX hlen hfin k (i+1) _ _ (by omega) (by simp[hw]) (GZ hd i (by show 0<=_/\_<(1000000000:Int);omega)) (by omega) ?_;rw[Hg _ _ _ _ (by omega),JH,AB];have e6:(zi:Int)^i*((w.getD i 0+v.getD i 0+c) % 1000000000-w.getD i 0)=(zi:Int)^i*v.getD i 0+(zi:Int)^i*c-(zi:Int)^i*(1000000000*((w.getD i 0+v.getD i 0+c)/1000000000)):=by
   rw[<-zq, <-yp];congr 1;omega
  omega
theorem BS(v8n v11n v12n:Nat)(o2 o0 v lo z:List Int)(n j:Nat)(t h W:Int)(hn:v.length=n)(hn9:n<=9000)(hlo:lo.length=j)(hj:j<=9000)(h11:n+j<v11n)(hjv:j<v12n)(hj1:j<o2.length)(hv:Au zi v)(hh:0<=h/\h<1000000000)(hlen:v11n=j+n+1+z.length)(ht:0<=t/\t<1000000000)
  (h0:∀(w:List Int) (h':Int),w.length=n->Au zi w->0<=h'->zd zi w+(zi:Int)^n*h'=W-t*zd zi v->Ends LB (L2 v8n v n v11n v12n (ze .i64 ((j:Int)-1)) (o2.set j t) (lo++(w++h'::z)) o0) Q)
  (h1:∀(w:List Int) (h':Int),w.length=n->Au zi w->h'<0-> -2000000000<=h'->zd zi w+(zi:Int)^n*h'=W-t*zd zi v->Ends LB (L5 v8n v n v11n v12n j (ze .i64 (t-1)) 0 0 o2 (lo++(w++h'::z)) o0) Q):
  ∀(k i:Nat) (w:List Int) (c:Int),i+k=n->w.length=n->Au zi w->(0<=c/\c<=1000000000)->zd zi w+(zi:Int)^n*h=W-t*zd zi (v.take i)+(zi:Int)^i*c->
   Ends LB (L4 v8n v n v11n v12n j t c i o2 (lo++(w++h::z)) o0) Q
 |0,i,w,c,hi,hw,hd,hc,he=>by
  have hi:i=n:=by omega
  subst hi;have e1:ze .i64 ((j:Int)+(i:Int))=((i+j:Nat):Int):=by rw[wr _ (by omega) (by omega)];omega
  have hv1:v.take i=v:=zt (by omega);rw[hv1]at he;have hll:i+j<(lo++(w++h::z)).length:=by simp;omega
  have hll2:i+j<(lo++(w++(h-c)::z)).length:=by simp;omega
  have e5:zd zi w+(zi:Int)^i*(h-c)=W-t*zd zi v:=by rw[yp];omega
  refine z8 (CJ ..) (yt (by simp) ?_);rw[e1,zf,zf,gH hlo hw,wr (h-c) (by omega) (by omega),sH _ hlo hw,gH hlo hw];have t1:(decide ((0:Int)<=((i+j:Nat):Int))&&decide (((i+j:Nat):Int)<(v11n:Int)))=true:=by simp;omega
  refine zc t1 (zc (w4 hll) (zc t1 (zc (w4 hll) (zc t1 (zc (w4 hll2) (z7 (fun d=>?_) (fun d=>?_)))))))
  ·have d:=w6 d;exact h1 w (h-c) hw hd d (by omega) e5
  ·have d:=w7 d;exact zc (by simp;omega) (zc (w4 hj1) (h0 w (h-c) hw hd (by omega) e5))
 |k+1,i,w,c,hi,hw,hd,hc,he=>by
  have gx:=Gr hv i;have gy:=Gr hd i;obtain⟨m1,m2,m3,m4,m5,m6,m7⟩:=Sw ht gx gy hc;have e1:ze .i64 ((i:Int)+(j:Int))=((i+j:Nat):Int):=by rw[wr _ (by omega) (by omega)];omega
  have e2:ze .i64 ((i:Int)+1)=((i+1:Nat):Int):=by rw[wr _ (by omega) (by omega)];omega
  have hll:i+j<(lo++(w++h::z)).length:=by simp;omega
  have t1:(decide ((0:Int)<=((i+j:Nat):Int))&&decide (((i+j:Nat):Int)<(v11n:Int)))=true:=by simp;omega
  have go:∀(x c':Int),(0<=x/\x<1000000000)->(0<=c'/\c'<=1000000000)->c+(x-w.getD i 0)=1000000000*c'-t*v.getD i 0->Ends LB (L4 v8n v n v11n v12n j t c' ((i+1:Nat):Int) o2 (lo++(w.set i x++h::z)) o0) Q:=by
   intro x c' hx hc' hxc;refine BS v8n v11n v12n o2 o0 v lo z n j t h W hn hn9 hlo hj h11 hjv hj1 hv hh hlen ht h0 h1 k (i+1) _ _ (by omega) (by simp[hw]) (GZ hd i hx) hc' ?_;rw[Hg _ _ _ _ (by omega),JH,AB,zq t,yh t];have e6:(zi:Int)^i*c+(zi:Int)^i*(x-w.getD i 0)=(zi:Int)^i*(1000000000*c')-(zi:Int)^i*(t*v.getD i 0):=by
    rw[<-zq, <-yp,hxc]
   omega
  refine z8 (CJ ..) (zc (by simp;omega) ?_);rw[e1,e2,zf,zf,gW hlo (by omega),m1,m2,m3,m4,m5,sW _ hlo (by omega),sW _ hlo (by omega)];refine zc (by simp;omega) (zc t1 (zc (w4 hll) (zc rfl (zc rfl (z7 (fun d=>?_) (fun d=>?_))))))
  ·have d:=w6 d;rw[wr (w.getD i 0-(t*v.getD i 0+c) % 1000000000+1000000000) (by omega) (by omega)];refine zc t1 (zc (w4 hll) (go _ _ (by omega) (by omega) ?_));generalize t*v.getD i 0=P at*;omega
  ·have d:=w7 d;refine zc t1 (zc (w4 hll) (go _ _ (by omega) (by omega) ?_));generalize t*v.getD i 0=P at*;omega
theorem qC(v8n v11n v12n:Nat)(o2 o0 v lo r0:List Int)(n j:Nat)(hn:v.length=n)(hn9:n<=9000)(hlo:lo.length=j)(hj:j<=9000)(hr:n+1<=r0.length)(hlen:v11n=j+r0.length)(hjv:j<v12n)(hj1:j<o2.length)(hv:Au zi v)(hd:Au zi r0)(hz:zd zi (r0.drop (n+1))=0)
  (hfin:∀(q:Int) (r:List Int),r.length=r0.length->Au zi r->(0<=q/\q<1000000000)->zd zi r<zd zi v->zd zi r=zd zi r0-q*zd zi v->Ends LB (L2 v8n v n v11n v12n (ze .i64 ((j:Int)-1)) (o2.set j q) (lo++r) o0) Q)
  (q:Int) (hq:0<=q/\q<1000000000) (h1:zd zi r0<(q+1)*zd zi v) (h2:q*zd zi v<zd zi r0+zd zi v):
  Ends LB (L4 v8n v n v11n v12n j q 0 0 o2 (lo++r0) o0) Q:=by
 have hdec:r0=r0.take n++r0.getD n 0::r0.drop (n+1):=by
  rw[<-Cb (by omega)];exact(qh n r0).symm
 have gh:=Gr hd n;have hdw:=AK hd n;have hdz:=Eu hd (n+1);have hlw:(r0.take n).length=n:=by rw[yk];omega
 have hlz:(r0.drop (n+1)).length=r0.length-(n+1):=List.length_drop ..;have hW:zd zi r0=zd zi (r0.take n)+(zi:Int)^n*r0.getD n 0:=by
  conv=>lhs;rw[hdec]
  rw[Nr _ _ _ hz,hlw]
 have hVlt:=Bo (b:=zi) (by decide) hv;rw[hn]at hVlt;have hV0:=Ax (b:=zi) (by decide) hv;have hW0:=Ax (b:=zi) (by decide) hd;have hp:=AN (b:=zi) (by decide) n;rw[yi,yb]at h1;rw[hdec];refine BS v8n v11n v12n o2 o0 v lo (r0.drop (n+1)) n j q (r0.getD n 0) (zd zi r0) hn hn9 hlo hj (by omega) hjv hj1 hv gh (by omega) hq (fun w h' a b c d=>?_) (fun w h' a b c c2 d=>?_) n 0 (r0.take n) 0 (by omega) hlw hdw (by decide) (by rw[<-hW];simp[zd])
 ·have b0:=Ax (b:=zi) (by decide) b;have hz':h'=0:=by
   rcases yg 0 h' with g|g
   ·have:=zh (show 1<=h' by omega) (zw hp);omega
   ·omega
  refine hfin q _ (by simp;omega) (EF b (fun x hx=>?_)) hq ?_ ?_
  ·rcases qt.1 hx with rfl|hx
   ·rw[hz'];decide
   ·exact hdz x hx
  ·rw[Nr _ _ _ hz,a,d];omega
  ·rw[Nr _ _ _ hz,a,d]
 ·have b0:=Bo (b:=zi) (by decide) b;rw[a]at b0;have hneg:zd zi r0-q*zd zi v<0:=by
   have:=zh (show h'<= -1 by omega) (zw hp);rw[jc,yw]at this;omega
  have hq1:1<=q:=by
   rcases yg 0 q with g|g
   ·exact g
   ·have:q=0:=by omega
    subst this;rw[qn]at hneg;omega
  rw[wr (q-1) (by omega) (by omega)];refine Cv v8n v11n v12n o2 o0 v lo (r0.drop (n+1)) n j (q-1) h' (zd zi r0-q*zd zi v+zd zi v) hn hn9 hlo hj (by omega) hjv hj1 hv hz hdz (by omega) (by omega) (by omega) (fun r a' b' d'=>?_) n 0 w 0 (by omega) a b (by decide) (by rw[d];simp[zd]<;>omega);refine hfin (q-1) r (by omega) b' (by omega) (by omega) ?_;rw[d',ql,yb];omega
theorem Ci(v8n v11n v12n:Nat)(o2 o0 v lo r0:List Int)(a2 a1 a0:List Int)(k j:Nat)(hn:v.length=k+2)(hn9:k+2<=9000)(hlo:lo.length=j)(hj:j<=9000)(hr:k+3<=r0.length)(hlen:v11n=j+r0.length)(hjv:j<v12n)(hj1:j<o2.length)(hv:Au zi v)(hd:Au zi r0)(hz:zd zi (r0.drop (k+3))=0)(hv1:1<=v.getD (k+1) 0)
  (hle:r0.getD (k+2) 0<=v.getD (k+1) 0) (hBV:zd zi r0<1000000000*zd zi v)
  (hfin:∀(q:Int) (r:List Int),r.length=r0.length->Au zi r->(0<=q/\q<1000000000)->zd zi r<zd zi v->zd zi r=zd zi r0-q*zd zi v->Ends LB (L2 v8n v ((k+2:Nat):Int) v11n v12n (ze .i64 ((j:Int)-1)) (o2.set j q) (lo++r) o0) Q):
  ∀(f:Nat) (q r:Int),0<=q->q<f->q<=2000000000000000000->(0<=r/\r<1000000000)->q*v.getD (k+1) 0+r=r0.getD (k+2) 0*1000000000+r0.getD (k+1) 0->zd zi r0<(q+1)*zd zi v->
   Ends LB (L3 v8n v ((k+2:Nat):Int) v11n v12n j a2 a1 a0 v11n v j ((k+2:Nat):Int) q r o2 (lo++r0) o0) Q
 |0,q,r,h0,hf,_,_,_,_=>by omega
 |f+1,q,r,h0,hf,hmax,hr1,he,hup=>by
  have gv2:=Gr hv k;have gv1:=Gr hv (k+1);have gu2:=Gr hd k;have gu1:=Gr hd (k+1);have hP:=AN (b:=zi) (by decide) k;have hW:=lO zi r0 k (by omega) hz;have hV:=qW zi v k hn;have hu':=Ax (b:=zi) (by decide) (AK hd k);have hu'':=Bo (b:=zi) (by decide) (AK hd k);have hv':=Ax (b:=zi) (by decide) (AK hv k);have hv'':=Bo (b:=zi) (by decide) (AK hv k);have hV0:=Ax (b:=zi) (by decide) hv;rw[yk,yu (by omega)]at hu'' hv'';have exit:∀q R:Int,0<=q->q<1000000000->q*v.getD (k+1) 0+R=r0.getD (k+2) 0*1000000000+r0.getD (k+1) 0->zd zi r0<(q+1)*zd zi v->q*v.getD k 0<=R*1000000000+r0.getD k 0->Ends LB (L4 v8n v ((k+2:Nat):Int) v11n v12n j q 0 0 o2 (lo++r0) o0) Q:=by
   intro q R q0 q1 hqe hqu hx;refine qC v8n v11n v12n o2 o0 v lo r0 (k+2) j hn hn9 hlo hj hr hlen hjv hj1 hv hd hz hfin q ⟨q0,q1⟩ hqu ?_;rw[hW,hV];exact Tk hP ⟨hv',hv''⟩ hu' ⟨q0,q1⟩ hv1 gv2.1 hqe hx
  have e1:ze .i64 (((k+2:Nat):Int)-2)=(k:Int):=by rw[wr _ (by omega) (by omega)];omega
  have e2:ze .i64 (((k+2:Nat):Int)-1)=((k+1:Nat):Int):=by rw[wr _ (by omega) (by omega)];omega
  have e3:ze .i64 (ze .i64 ((j:Int)+((k+2:Nat):Int))-2)=((k+j:Nat):Int):=by
   rw[wr ((j:Int)+((k+2:Nat):Int)) (by omega) (by omega),wr _ (by omega) (by omega)];omega
  have g3:(lo++r0).getD (k+j) 0=r0.getD k 0:=GM _ _ _ _ hlo;have b1:(decide ((0:Int)<=((k+1:Nat):Int))&&decide (((k+1:Nat):Int)<(v.length:Int)))=true:=by simp;omega
  have dec:zd zi r0<q*zd zi v->Ends LB (.ite (decide (ze .i64 (r+v.getD (k+1) 0)>=(1000000000:Int))) (L4 v8n v ((k+2:Nat):Int) v11n v12n j (ze .i64 (q-1)) 0 0 o2 (lo++r0) o0) (L3 v8n v ((k+2:Nat):Int) v11n v12n j a2 a1 a0 v11n v j ((k+2:Nat):Int) (ze .i64 (q-1)) (ze .i64 (r+v.getD (k+1) 0)) o2 (lo++r0) o0)) Q:=by
   intro hx;have hW0:=Ax (b:=zi) (by decide) hd;have hq1:1<=q:=by
    rcases yg 0 q with g|g
    ·exact g
    ·have:q=0:=by omega
     subst this;rw[qn]at hx;omega
   have he':(q-1)*v.getD (k+1) 0+(r+v.getD (k+1) 0)=r0.getD (k+2) 0*1000000000+r0.getD (k+1) 0:=by rw[ql,yb];omega
   have hup':zd zi r0<(q-1+1)*zd zi v:=by rw[show q-1+1=q by omega];exact hx
   rw[wr (q-1) (by omega) (by omega),wr (r+v.getD (k+1) 0) (by omega) (by omega)];refine z7 (fun c=>?_) (fun c=>?_)
   ·have c:=w6 c;have hlt:q-1<1000000000:=by
     rcases yg (q-1) 1000000000 with g|g
     ·exact g
     ·have a:=zg g (show 0<=v.getD (k+1) 0 by omega);have b:=zg hle (show(0:Int)<=1000000000 by omega);omega
    refine exit (q-1) _ (by omega) hlt he' hup' ?_;have a:=zh (show v.getD k 0<=999999999 by omega) (show 0<=q-1 by omega);omega
   ·have c:=w7 c;exact Ci v8n v11n v12n o2 o0 v lo r0 a2 a1 a0 k j hn hn9 hlo hj hr hlen hjv hj1 hv hd hz hv1 hle hBV hfin f (q-1) _ (by omega) (by omega) (by omega) (by omega) he' hup'
  refine z8 (CH ..) ?_;conv=>zeta
  rw[e1,e2,e3,zf,zf,zf,g3];refine z7 (fun c=>zc b1 (dec ?_)) (fun c=>zc (by simp;omega) (zc (by simp;omega) (zc (by simp;omega) (z7 (fun d=>zc b1 (dec ?_)) (fun d=>?_)))))
  ·have c:=w6 c;have:=zg c hV0;omega
  ·have c:=w7 c;have d:=w6 d;have a:=zh (show v.getD k 0<=999999999 by omega) h0;have b:=ya h0 gv2.1;rw[wr (q*v.getD k 0) (by omega) (by omega),wr (r*1000000000) (by omega) (by omega),wr _ (by omega) (by omega)]at d;have:=T8 (B:=zi) (u0:=r0.getD (k+2) 0) (u1:=r0.getD (k+1) 0) (u2:=r0.getD k 0) hP hv' hu'' h0 (v1:=v.getD (k+1) 0) (v2:=v.getD k 0) (r:=r) he d;rw[<-hW, <-hV]at this;exact this
  ·have c:=w7 c;have d:=w7 d;have a:=zh (show v.getD k 0<=999999999 by omega) h0;have b:=ya h0 gv2.1;rw[wr (q*v.getD k 0) (by omega) (by omega),wr (r*1000000000) (by omega) (by omega),wr _ (by omega) (by omega)]at d;exact exit q r h0 (by omega) he hup (by omega)
end T164
end Go.Pe
