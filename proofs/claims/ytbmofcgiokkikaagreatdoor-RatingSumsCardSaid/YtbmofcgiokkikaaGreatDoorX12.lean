import Derived.Test.YtbmofcgiokkikaaGreatDoorX11
/- A part of a proof; no law is stated here. -/
set_option maxRecDepth 10000
open Go.Pe.Ends renaming tt -> zc, leaf -> zm, Ai -> zo, ff -> zr, ite -> zu, eq -> yj
open Go.Sp renaming B9 -> zd, val -> ze, vI -> zj, sg -> qx
open Go.IntKind renaming wrap -> zf
open Int renaming toNat_natCast -> zg, mul_le_mul_of_nonneg_left -> zi, mul_le_mul_of_nonneg_right -> zl, pow_succ -> zt, tdiv_eq_ediv_of_nonneg -> zw, le_of_lt -> zx, tmod_eq_emod_of_nonneg -> zy, mul_nonneg -> z6, lt_of_lt_of_le -> z7, mul_add -> z8, mul_comm -> ya, mul_assoc -> yd, pow_zero -> yf, mul_ediv_add_emod -> yh, lt_or_le -> yk, one_mul -> ym, tdiv -> yo, emod_lt_of_pos -> yq, lt_of_le_of_lt -> yt, mul_lt_mul_of_pos_right -> yu, ediv_emod_unique -> yv, lt_of_mul_lt_mul_left -> yx, emod_nonneg -> yz, mul_one -> y8, eq_ofNat_of_zero_le -> y9, mul_zero -> qe, mul_left_comm -> qf, mul_sub -> qi, tmod -> qm, zero_mul -> qu, ediv_nonneg -> qv, mul_neg -> qw, add_mul -> qy, le_refl -> qz, add_assoc -> je, add_zero -> jf
open Bool renaming and_eq_true -> zh, true_and -> qh
open List renaming take_of_length_le -> zk, length_drop -> zn, length_take -> zp, replicate -> zq, getD_eq_getElem?_getD -> zz, length_eq_zero_iff -> yb, take_length -> yc, getElem?_eq_getElem -> ye, length_append -> yg, take_append_drop -> yi, dropWhile_cons -> yn, all_eq_true -> yw, all_cons -> yy, append_assoc -> qg, dropLast_concat_getLast -> qj, nil_append -> qk, mem_singleton -> qn, mem_cons -> qo, all_reverse -> qp, drop_eq_nil_of_le -> qt, drop -> jc
open Go.Pe.Ac renaming of -> yp
open Nat renaming add_sub_cancel -> yr, sub -> y7, le_refl -> qc, min_eq_left -> ql, gcd_comm -> qq, zero_le -> q9, gcd -> jg, add -> jh
open BitVec renaming ofInt -> qd
variable {Q:Go.Pe.PV->Go.Pe.Ob->Prop}
namespace Go.Pe
open Sp
open Go.Det
theorem vO:CE XF0:=fun g sp h=>by cases h
theorem T68n.ok:Af A4 68 R0:=by
 refine BD vO<|fun(n:Int) _=>?_;refine yj (T68n.Aj n)<|zm<|yp rfl rfl ?_;show(n,[])=(n,BL n);rw[D7]
theorem vJ:CE XF1:=
 Aa T68n.ok (Aa SI<|Aa (T173.ok Ge)<|Aa (T174.ok Ge)<|Aa T133.ok<|Aa T124.ok<|Aa T134.ok Ay)
theorem XM{m D:Int}(c:0<D):(m % D=0->(-m)/D= -(m/D)/\(-m) % D=0)/\(m % D≠0->(-m)/D= -(m/D)-1/\(-m) % D=D-m % D):=by
 have e:=yh m D;have f:=yz m (show D≠0 by omega);have d:=yq m c;refine⟨fun h=>?_,fun h=>?_⟩
 ·exact(yv (a:= -m) (b:=D) (r:=0) (q:= -(m/D)) c).2 ⟨by rw[qw];omega,by omega,by omega⟩
 ·exact(yv (a:= -m) (b:=D) (r:=D-m % D) (q:= -(m/D)-1) c).2 ⟨by rw[qi,qw,y8];omega,by omega,by omega⟩
theorem vD{m D:Int}(a:0<=m)(d:0<D):(0<=m/D/\m/D<=m)/\(0<=m % D/\m % D<=m/\m % D<D):=by
 have e:=yh m D;have q0:0<=m/D:=qv a ae;have q1:m/D<=m:=Int.ediv_le_self _ a;have c:=yz m (show D≠0 by omega);have b:=yq m d;have:=z6 (show 0<=D by omega) q0;exact⟨⟨q0,q1⟩,c,by omega,b⟩
theorem ZT(n:Bool){v:Int}(h:0<=v):Ah (qx n v)=v:=by
 rw[DU,Al];split<;>omega
theorem Eb{n:Int}(h:Ah n<(Ap:Int)^9000):Bd (Dh n)=true:=by
 have:=OY h ae;unfold Bd;exact Ab this.1<|w4 this.2
theorem iW{a b:AM}(h:0<zj a+zj b):EW a b=Dh (zj a+zj b):=by
 unfold EW;split
 ·next c=>
  have:=EN c.2.2;rw[Bv c.1,Bv c.2.1]at h ⊢;exact(Cm ae).symm
 ·rfl
theorem OG:((1:Int),BL (1:Int))=Dh 1:=by rw[D7];rfl
namespace T184
theorem Sm{a b:AM}(q:Int)(h: -9223372036854775808<q/\q<9223372036854775808)(c:Gv a b=Dh q\/(-9223372036854775808<q/\Gv a b=Ot (Dh<|q+1) (1,[])/\q+1<9223372036854775808)):Gv a b=(q,[]):=by
 rcases c with c|⟨d,c,e⟩
 ·rw[c,Cm h]
 ·rw[c,Cm ae];unfold Ot DA;rw[wd ⟨rfl,by decide⟩];unfold EW;rw[wd ⟨rfl,rfl,D8 (by show _<=q+1+ -1;omega)<|by show q+1+ -1<_;omega⟩];show(q+1+ -1,[])=(q,[]);rw[show q+1+ -1=q by omega]
set_option maxHeartbeats 1000000 in
theorem ok:Af A4 184 HU:=by
 refine BD vJ<|fun(i:(Int×List Int)×(Int×List Int)) t=>?_;obtain⟨a,b⟩:=i;have t:(Bd a&&Bd b&&decide (0<zj b))=true:=t;rw[zh,zh,w5]at t;obtain⟨⟨ha,hb⟩,hD⟩:=t;obtain⟨oa,_,na,_,va,ba⟩:=words ha;obtain⟨ob,_,nb,_,vb,bb⟩:=words hb;have F:Ah (zj b)=zj b:=by rw[Al];omega
 have G:=AO<|zj a;have d:Ah (zj a)=if zj a<0 then -zj a else zj a:=rfl
 obtain⟨⟨q0,q1⟩,u,E,A⟩:=vD (D:=zj b) G hD;obtain⟨z1,z2⟩:=XM (m:=Ah<|zj a) hD;have e:TY (BF<|Ah<|zj a) (BF<|Ah<|zj b)=true:=by
  unfold TY;exact Ab (Ab (Ab (Ab na nb)<|w4<|Lr G ba)<|w4<|Lr (AO _) bb) (w4<|by rw[vb,F];exact hD)
 have fin:∀(q r:AM) v ob,KQ HU.outs v ob=some (true,(q,r))->q=Gv a b->r=Dh (zj a % zj b)->Ac HU (a,b) v ob:=fun q r v ob h K S=>yp h rfl (by rw[K,S];rfl)
 have f:Ends XF1 (L1 (decide (zj a<0)) (BF<|Av (BF<|Ah<|zj a)/Av (BF<|Ah<|zj b)) (BF<|Av (BF<|Ah<|zj a) % Av (BF<|Ah<|zj b)) 0 0 b.1 b.2) (Ac HU (a,b)):=by
  rw[va,vb,F];obtain⟨N,_,R⟩:=Dn (n:=Ah (zj a)/zj b) (k:=9000) q0 ae ae;obtain⟨nr,_,vr⟩:=Dn (n:=Ah (zj a) % zj b) (k:=9000) u ae ae;have z:Bd (Dh<|qx (decide (zj a<0))<|Ah (zj a) % zj b)=true:=Eb (by rw[ZT _ u];omega);have L:Bd (Dh<|qx (decide (zj a<0))<|Ah (zj a)/zj b)=true:=Eb (by rw[ZT _ q0];omega);have O:Bd ((1:Int),BL (1:Int))=true:=by rw[OG];decide
  have es:IK (C9<|qx (decide (zj a<0))<|Ah (zj a) % zj b,C8<|qx (decide (zj a<0))<|Ah (zj a) % zj b)=Sp.Og (qx (decide (zj a<0))<|Ah (zj a) % zj b):=by
   show Sp.Og (zj<|Dh _)=_;rw[CP]
  refine zo (Ak ..)<|zc N<|zc nr ?_;rw[R,vr];refine zo (Az ..)<|zc (Cf z).1 ?_;rw[es];refine zu (fun c=>?_)<|fun c=>?_
  ·have c:=w6 c;have o:qx (decide (zj a<0)) (Ah (zj a) % zj b)<0:=by
    rw[My]at c;split at c
    ·assumption
    ·split at c<;>omega
   have j:zj a<0:=by
    rcases yk (zj a) 0 with g|g
    ·exact g
    ·rw[DU,wc<|by simp;omega]at o;omega
   have hr:Ah (zj a) % zj b≠0:=by
    rw[DU,wd<|w4 j]at o;omega
   obtain⟨z3,z4⟩:=z2 hr;refine zc rfl (zc (Ab L O)<|zc (Ab z hb)<|zm<|fin (Ot (Dh<|qx (decide (zj a<0))<|Ah (zj a)/zj b) (1,BL 1)) (EW (Dh<|qx (decide (zj a<0))<|Ah (zj a) % zj b) b) _ _ rfl ?_ ?_)
   ·unfold Gv;rw[wd ⟨j,hr⟩,D7,DU,wd<|w4 j]
   ·have ev:zj a= -Ah (zj a):=by rw[d,wd j];omega
    have H:zj (Dh<|qx (decide (zj a<0))<|Ah (zj a) % zj b)= -(Ah (zj a) % zj b):=by rw[CP,DU,wd<|w4 j]
    have J:zj a % zj b=zj b-Ah (zj a) % zj b:=by rw[<-z4, <-ev]
    rw[iW (by rw[H];omega),H,J];congr 1;omega
  ·have c:=w7 c;have o:¬(zj a<0/\Ah (zj a) % zj b≠0):=by
    rintro⟨j,hr⟩;rw[DU,wd<|w4 j,My,wd ae]at c;omega
   refine zm<|fin (Dh<|qx (decide (zj a<0))<|Ah (zj a)/zj b) (Dh<|qx (decide (zj a<0))<|Ah (zj a) % zj b) _ _ rfl ?_ ?_
   ·unfold Gv;rw[wc o]
   ·congr 1;rcases yk (zj a) 0 with g|g
    ·have hr:Ah (zj a) % zj b=0:=by
      rcases yk 0 (Ah (zj a) % zj b)with g2|g2
      ·exact wh ⟨g,by omega⟩ o
      ·omega
     have ev:zj a= -Ah (zj a):=by rw[d,wd g];omega
     have:=(z1 hr).2;rw[<-ev]at this;rw[this,hr,DU];split<;>rfl
    ·rw[DU,wc (by simp;omega),d,wc ae]
 refine yj (Aj a b)<|zu (fun C=>zu (fun o=>zu (fun x=>?_)<|fun x=>?_)<|fun o=>?_)<|fun C=>?_
 ·have a2:=PB C;have M:=PB o;have x:a.1≠ -9223372036854775808:=by simpa using x
  have V:=EN (n:=a.1) (by
   have:=oa;unfold Sp.Dy at this;rw[zh]at this;exact this.1)
  have T:=EN (n:=b.1) (by
   have:=ob;unfold Sp.Dy at this;rw[zh]at this;exact this.1)
  have l:=Bv a2;have p:=Bv M;rw[l]at d;rw[p]at hD A;rw[l,p]at q0 q1 u E z1 z2;rw[l]at A;have s:yo a.1 b.1=if a.1<0 then -(Ah a.1/b.1)else Ah a.1/b.1:=by
   rw[d];split
   ·have:=Int.neg_tdiv (-a.1) b.1;rw[Int.neg_neg]at this;rw[this,zw ae]
   ·exact zw ae
  have hr:qm a.1 b.1=if a.1<0 then -(Ah a.1 % b.1)else Ah a.1 % b.1:=by
   rw[d];split
   ·have:=Int.neg_tmod (-a.1) b.1;rw[Int.neg_neg]at this;rw[this,zy ae]
   ·exact zy ae
  refine zc (w4 ae) (zc (w4 ae)<|zu (fun c=>?_)<|fun c=>?_)
  ·have c:=w6 c;rw[hr]at c;have j:a.1<0:=by split at c<;>omega
   rw[wd j]at c s hr;rw[wd j]at d;obtain⟨z3,z4⟩:=z2 ae;have ev:a.1= -Ah a.1:=ae
   have P:Ah a.1/b.1<9223372036854775807:=by
    rcases yk (Ah a.1/b.1) 9223372036854775807 with g|g
    ·exact g
    ·have:=yh (Ah a.1) b.1;have:=zl (show 1<=b.1 by omega) q0;omega
   refine zm<|fin (zf .i64<|zf .i64 (yo a.1 b.1)-1,[]) (zf .i64<|qm a.1 b.1+b.1,[]) _ _ rfl ?_ ?_
   ·rw[s,wr (-(Ah a.1/b.1)) ae ae,wr _ ae ae];refine(Sm _ ae<|.inr ⟨by omega,?_,by omega⟩).symm;unfold Gv;rw[l,p,wd ⟨j,by omega⟩,show -(Ah a.1/b.1)-1+1= -(Ah a.1/b.1)by omega]
   ·rw[hr,wr _ ae ae];have:a.1 % b.1=b.1-Ah a.1 % b.1:=by rw[<-z4, <-ev]
    rw[l,p,this,Cm ae];congr 1;omega
  ·have c:=w7 c;rw[hr]at c;refine zm<|fin (zf .i64<|yo a.1 b.1,[]) (qm a.1 b.1,[]) _ _ rfl ?_ ?_
   ·have y:Gv a b=Dh (yo a.1 b.1):=by
     unfold Gv;rw[l,p,s,wc (by rintro⟨I,U⟩;rw[wd I]at c;omega),DU];by_cases h:a.1<0
     ·rw[wd<|w4 h,wd h]
     ·rw[wc (by simp;omega),wc h]
    have w: -9223372036854775808<yo a.1 b.1/\yo a.1 b.1<9223372036854775808:=by
     rw[s,d]at*;split<;>split at q1<;>split at q0<;>omega
    rw[wr _ ae ae];exact(Sm _ w<|.inl y).symm
   ·rw[hr];by_cases h:a.1<0
    ·rw[wd h]at c ⊢;have B:Ah a.1 % b.1=0:=ae
     rw[wd h]at d;have ev:a.1= -Ah a.1:=ae
     have:=(z1 B).2;rw[<-ev]at this;rw[l,p,this,B];rfl
    ·rw[wc h]at c ⊢;rw[wc h]at d;rw[l,p,d,Cm<|by rw[d]at u E;omega]
 ·exact zc oa<|zc ob<|zc e f
 ·exact zc oa<|zc ob<|zc e f
 ·exact zc oa<|zc ob<|zc e f
end T184
theorem zO:CE XF2:=
 Aa T184.ok (Aa T215.ok<|Aa T134.ok Ay)
theorem wB{a:AM}(h:Sp.Dy a=true):Vj a=Dh (Ah<|zj a):=by
 have l:=uP h;obtain⟨hr,b⟩:=Eg h;unfold Vj;by_cases h0:a.1<0
 ·rw[wd h0,Al];unfold DA;have e:=l.1 h0;split
  ·next c=>rw[Bv c.1]at e ⊢;rw[Cm ae];congr 1;omega
  ·congr 1;omega
 ·rw[wc h0];obtain⟨s,w⟩:=a;have h0:¬s<0:=h0;rcases b with b|⟨j,i,f⟩
  ·have b:w=[]:=b;subst b;have hr: -9223372036854775808<=s/\s<9223372036854775808:=hr;rw[Fc,Al,Cm ae];congr 1;omega
  ·obtain⟨_,d,z⟩:=FN j;have i:s=1\/s= -1:=i;have f:9223372036854775808<=Av w:=f;have g:w≠[]:=by rintro rfl;exact wh f af
   have k:s=1:=ae
   subst k;rw[X3 g,wc af,Al];have:=U0 (w:=w) false d z f;rw[wc af,wc af]at this;rw[show((Av w).natAbs:Int)=Av w by omega,this]
theorem kT(n:Int):IK (C9 n,C8 n)=Sp.Og n:=by
 show Sp.Og (zj<|Dh _)=_;rw[CP]
theorem Mg(n:Int):zj (C9 n,C8 n)=n:=CP n
theorem ZS(m n:Int):tU (C9 m,C8 m) (C9 n,C8 n)=C9 (m % n)/\mC (C9 m,C8 m) (C9 n,C8 n)=C8 (m % n):=by
 constructor
 ·show C9 (zj (Dh _) % zj (Dh _))=_;rw[CP,CP]
 ·show C8 (zj (Dh _) % zj (Dh _))=_;rw[CP,CP]
theorem Gw{n:Int}(h:Bd (Dh n)=true):Bd (C9 n,C8 n)=true:=h
theorem OH{a:AM}(h:Sp.Dy a=true):Ru a=C9 (Ah<|zj a)/\QD a=C8 (Ah<|zj a):=by
 unfold Ru QD;rw[wB h];exact⟨rfl,rfl⟩
theorem WJ(x y:Nat):((x:Int) % (y:Int))=((x % y:Nat):Int):=rfl
theorem xQ(a b:AM)(n:Int)(h:n=Sp.gI (zj a) (zj b)):(C9 n,C8 n)=(N8 a b,Oe a b):=by subst h;rfl
namespace T171
theorem Aat(n:Nat)(h:(n:Int)<(Ap:Int)^9000):Bd (Dh (n:Int))=true:=Eb (by rw[Al,Int.natAbs_natCast];exact h)
theorem Ar(g:Nat)(e L:Int)(c:∀n:Nat,(n:Int)<L->Bd (Dh (n:Int))=true)(d:∀ob,Q (.agg [.dat i64<|C9 (g:Int),.dat (.nlist u64)<|C8 (g:Int)]) ob):∀(f x y:Nat),y<f->jg x y=g->(x:Int)<L->(y:Int)<L->
  Ends XF2 (L1 e (C9 (y:Int)) (C8 (y:Int)) (C9 (x:Int))<|C8 (x:Int)) Q
 |0,x,y,h,_,_,_=>by omega
 |f+1,x,y,m,b,k,a=>by
  have l:Bd (Dh (x:Int))=true:=c x k;have i:Bd (Dh (y:Int))=true:=c y a
  refine zo (Ak ..)<|zc (Cf<|Gw i).1 ?_;rw[kT,(ZS _ _).1,(ZS _ _).2,Mg,WJ];by_cases h0:y=0
  ·subst h0;rw[Nat.gcd_zero_right]at b;subst b;exact zr rfl (zm<|d _)
  ·have j:x % y<y:=Nat.mod_lt _ ae;refine zc ?_ (zc (Ab (Ab (Gw l)<|Gw i)<|w4 ae) ?_)
   ·rw[My,wc ae,wd ae];rfl
   ·exact Ar g e L c d f y (x % y) ae (by rw[qq, <-Nat.gcd_rec,qq];exact b) a ae
theorem ok:Af A4 171 Zr:=by
 refine BD zO<|fun(i:(Int×List Int)×(Int×List Int)) c=>?_;obtain⟨a,b⟩:=i;have c:(Bd a&&Bd b)=true:=c;rw[zh]at c;obtain⟨ha,hb⟩:=c;have d:=(Cf ha).1;have ob:=(Cf hb).1;have e:=bounds ha;have f:=bounds hb;rw[Al]at e f;refine yj (Aj a b)<|zc d<|zc ob ?_;show Ends XF2 (L1 0 (Ru b) (QD b) (Ru a)<|QD a) _;rw[(OH d).1,(OH d).2,(OH ob).1,(OH ob).2,Al,Al];refine Ar (jg (zj a).natAbs (zj b).natAbs) 0 _ Aat (fun ob=>yp rfl rfl (xQ a b _ ?_)) ((zj b).natAbs+1) _ _ (Nat.lt_succ_self _) rfl e f;rw[GC];rfl
end T171
theorem AfD(n:Nat)(h:n<9223372036854775808):Iv .i64 (n:Int) 1=((n % 2:Nat):Int):=by
 have e:(qd 64 (n:Int)&&&qd 64 1).toNat=n % 2:=by
  rw[BitVec.toNat_and];have a:(qd 64 (n:Int)).toNat=n:=by rw[BitVec.ofInt_natCast,BitVec.toNat_ofNat];exact Nat.mod_eq_of_lt ae
  have b:(qd 64 1).toNat=2^1-1:=af
  rw[a,b,Nat.and_two_pow_sub_one_eq_mod]
 show zf .i64 (((qd 64 (n:Int)&&&qd 64 1).toNat:Nat):Int)=_;rw[e];exact wr _ ae ae
namespace T199
theorem W3{c:Int}(h:c≠0):1<=Ah c:=by rw[Al];omega
theorem cB(c:Int):∀k:Nat,Ah (c^k)=Ah c^k
 |0=>by rw[yf,yf];rfl
 |k+1=>by rw[zt,zt,JZ,cB c k]
theorem one_le_pow{c:Int}(h:1<=c):∀k:Nat,1<=c^k
 |0=>by rw[yf];decide
 |k+1=>by
  rw[zt];have:=zl (one_le_pow h k) (show 0<=c by omega);omega
theorem AeE{p c L:Int}{k:Nat}(m:1<L)(h:Ah (p*c^k)<L)(g:c=0->Ah p<=1)(l:c≠0->p≠0):Ah p<L/\(1<=k->Ah c<L)/\(2<=k->Ah (c*c)<L)/\(1<=k->Ah (p*c)<L):=by
 by_cases b:c=0
 ·subst b;have:=g rfl;have e:Ah 0=0:=rfl;exact⟨by omega,fun _=>by rw[e];omega,fun _=>by rw[qe,e];omega,fun _=>by rw[qe,e];omega⟩
 ·have hp:=W3<|l b;have a:=W3 b;rw[JZ,cB]at h;rw[JZ,JZ];generalize Ah p=P at*;generalize Ah c=C at*;have i:1<=C^k:=one_le_pow a k;have a1:P<=P*C^k:=by
   have:=zi i (show 0<=P by omega);omega
  have f:C^k<=P*C^k:=by
   have:=zl hp (show 0<=C^k by omega);omega
  refine⟨by omega,fun d=>?_,fun d=>?_,fun d=>?_⟩
  ·obtain⟨j,rfl⟩:∃j,k=j+1:=⟨k-1,by omega⟩;rw[zt]at f h;have:=zl (one_le_pow a j) (show 0<=C by omega);omega
  ·obtain⟨j,rfl⟩:∃j,k=j+2:=⟨k-2,by omega⟩;have e:C^(j+2)=C^j*(C*C):=by rw[zt,zt,yd]
   rw[e]at f h;have:=zl (one_le_pow a j) (z6 (show 0<=C by omega) (show 0<=C by omega));omega
  ·obtain⟨j,rfl⟩:∃j,k=j+1:=⟨k-1,by omega⟩;have e:P*C^(j+1)=C^j*(P*C):=by rw[zt,qf]
   rw[e]at h;have:=zl (one_le_pow a j) (z6 (show 0<=P by omega) (show 0<=C by omega));omega
theorem fC{p c:Int}{k j:Nat}(h:k=2*j):p*(c*c)^j=p*c^k:=by
 subst h;rw[Int.pow_mul,zt,zt,yf,ym]
theorem lU{p c:Int}{k j:Nat}(h:k=2*j+1):p*c*(c*c)^j=p*c^k:=by
 subst h;rw[zt,Int.pow_mul,show c^2=c*c by rw[zt,zt,yf,ym],yd,ya c]
theorem Afs{x:Int}(h:x<(18446744073709551616:Int)^(4000:Nat)):x<(Ap:Int)^9000:=
 z7 h (AP (b:=Ap) af ae)
theorem Ar(o1 R:Int)(hR:Ah R<(18446744073709551616:Int)^(4000:Nat))(l:∀ob,Q (.agg [.dat i64<|C9 R,.dat (.nlist u64)<|C8 R]) ob):
  ∀(f k:Nat) (p:Int) (a:AM),k<f->k<=100000->(1<=k->Bd a=true)->p*zj a^k=R->(zj a=0->Ah p<=1)->(zj a≠0->p≠0)->
   Ends XF3 (L1 (k:Int) (C9 p) (C8 p) o1 a.1 a.2) Q
 |0,k,p,a,h,_,_,_,_,_=>by omega
 |f+1,k,p,a,D,v,B,i,s,r=>by
  have C:(1:Int)<(18446744073709551616:Int)^(4000:Nat):=z7 (show(1:Int)<18446744073709551616^(1:Nat)by decide) (AP (b:=18446744073709551616) af ae);rw[<-i]at hR;obtain⟨s1,s2,s3,s4⟩:=AeE C hR s r;by_cases h0:k=0
  ·subst h0;rw[yf,y8]at i;subst i;exact zo (Ak ..) (zr (by simp)<|zm<|l _)
  ·have w:Bd (C9 p,C8 p)=true:=Eb<|Afs s1;have j:Bd a=true:=B ae;have x:Int.fdiv (k:Int) ((2:Int)^(1:Nat))=((k/2:Nat):Int):=by
    rw[Int.fdiv_eq_ediv_of_nonneg _ af];rfl
   have t:(Fx (C9 p,C8 p) a,Fy (C9 p,C8 p) a)=Dh (p*zj a):=by
    show Dh (zj (Dh p)*zj a)=_;rw[CP]
   have n:Fx (C9 p,C8 p) (a.1,a.2)=C9 (p*zj a):=wi Prod.fst t;have o:Fy (C9 p,C8 p) (a.1,a.2)=C8 (p*zj a):=wi Prod.snd t;have m:zj (FU a a)=zj a*zj a:=DS a a;have u:∀q:Int,1<k->q*(zj a*zj a)^(k/2)=p*zj a^k->(zj a=0->Ah q<=1)->(zj a≠0->q≠0)->Ends XF3 (L1 ((k/2:Nat):Int) (C9 q) (C8 q) o1 (Fx (a.1,a.2) (a.1,a.2))<|Fy (a.1,a.2) (a.1,a.2)) Q:=by
    intro q e g A y;refine Ar o1 R (by rw[i]at hR;exact hR) l f (k/2) q (FU a a) ae ae (fun _=>Eb<|Afs<|s3 ae) (by rw[m,g,i]) (fun z=>A ?_)<|fun z=>y ?_
    ·rw[m]at z;rcases Int.mul_eq_zero.1 z with z|z<;>exact z
    ·rintro z2;rw[m,z2]at z;exact z rfl
   have st:∀q:Int,k=1->q=R->Ends XF3 (L1 ((k/2:Nat):Int) (C9 q) (C8 q) o1 a.1 a.2) Q:=by
    intro q e g;subst e g;exact zo (Ak ..) (zr (by simp)<|zm<|l _)
   refine zo (Ak ..) (zc (w4 ae) ?_);rw[AfD k ae,x,n,o];refine zu (fun c=>?_)<|fun c=>?_
   ·have c:((k % 2:Nat):Int)=1:=by simpa using c
    refine zc (Ab w j)<|zu (fun d=>zc (Ab j j)<|zc rfl ?_)<|fun d=>zc rfl ?_
    ·have d:=w6 d;refine u _ ae (lU ae) (fun z=>by rw[z,qe];decide)<|fun z=>?_;exact Int.mul_ne_zero (r z) z
    ·have d:=w7 d;have e:k=1:=ae
     refine st _ e ?_;rw[<-i,e,zt,yf,ym]
   ·have c:((k % 2:Nat):Int)≠1:=by simpa using c
    refine zu (fun d=>zc (Ab j j)<|zc rfl ?_)<|fun d=>?_
    ·have d:=w6 d;exact u _ ae (fC ae) s r
    ·have d:=w7 d;omega
theorem AaO:CE XF3:=Aa T68n.ok<|Aa T125.ok Ay
theorem ok:Af A4 199 oW:=by
 refine BD AaO<|fun(i:(Int×List Int)×Int) b=>?_;obtain⟨a,k⟩:=i;have b:(Bd a&&(decide (0<=k)&&decide (k<=100000)&&decide (Ah (Sp.pI (zj a) k)<(18446744073709551616:Int)^(4000:Nat))))=true:=b;rw[zh,zh,zh,w5,w5,w5,Ug]at b;obtain⟨ha,⟨k0,k1⟩,hR⟩:=b;obtain⟨n,rfl⟩:=y9 k0;have c:BL 1=C8 1:=by rw[D7];rfl
 refine yj (Aj a n)<|zc rfl ?_;rw[c];refine Ar (Q:=Ac oW (a,(n:Int))) 0 (zj a^n) hR (fun ob=>yp rfl rfl ?_) (n+1) n 1 a ae ae (fun _=>ha) (ym _) (fun _=>by decide) (fun _=>by decide);show Dh _=Dh (Sp.pI (zj a) (n:Int));rw[Ug];rfl
end T199
end Go.Pe
namespace Go.Sp
theorem Q7{l:List Int}(h:KK l=true):l.length<=20000/\AB B9 l:=by
 unfold KK at h;rw[zh,w5,yw]at h;exact⟨h.1,fun d a=>by
  have:=h.2 d a;rw[zh,w5,w5]at this;exact this⟩
theorem LW{l:List Int}(a:l.length<=20000)(c:AB B9 l):KK l=true:=by
 unfold KK;rw[zh,w5,yw];exact⟨a,fun d b=>by
  have:=c d b;rw[zh,w5,w5];exact this⟩
theorem Abd{l:List Int}(h:hR l=true):l.length<=9000/\AB B9 l:=by
 unfold hR at h;rw[zh,w5]at h;exact⟨h.2,(Q7 h.1).2⟩
theorem Sl{l:List Int}(a:l.length<=9000)(b:AB B9 l):hR l=true:=by
 unfold hR;rw[LW ae b,qh];exact w4 a
theorem By{l:List Int}(h:Ba l=true):l.length<=20000/\AB B9 l/\nz l:=by
 unfold Ba at h;rw[zh]at h;have:=Q7 h.1;exact⟨this.1,this.2,by
  have:=h.2;unfold nzW at this;have:l.getLast?≠some 0:=w6 this;exact this⟩
theorem mF{l:List Int}(a:l.length<=20000)(c:AB B9 l)(b:nz l):Ba l=true:=by
 unfold Ba nzW;rw[LW a c,qh];exact w4 b
theorem Hp{l:List Int}(h:AB B9 l)(i:Nat):0<=l.getD i 0/\l.getD i 0<1000000000:=Li af h i
theorem F5{l:List Int}{x:Int}(h:AB B9 l)(b:0<=x/\x<1000000000):AB B9 (l++[x]):=FI h (fun d a=>by rw[qn]at a;subst a;exact b)
theorem CC(l:List Int)(x:Int):val B9 (l++[x])=val B9 l+(B9:Int)^l.length*x:=by
 rw[Dg];simp[val]
theorem KW(i:Nat)(c:Int):(B9:Int)^(i+1)*c=(B9:Int)^i*(1000000000*c):=by
 rw[zt,yd];rfl
theorem FF{l:List Int}(h:AB B9 l):AA l=BW (Ao l):=Zu af h
theorem OX{n:Int}{k:Nat}(h0:0<=n)(h:n<(B9:Int)^k):(BW n).length<=k:=by
 refine OV B9 af k n.toNat n.toNat ?_;have e:((B9^k:Nat):Int)=(B9:Int)^k:=Int.natCast_pow ..;rw[<-e]at h;generalize B9^k=P at*;omega
theorem Gk{n:Int}{k:Nat}(h0:0<=n)(h:n<(B9:Int)^k)(d:k<=9000):Ba (BW n)=true/\hR (BW n)=true/\Ao (BW n)=n/\(BW n).length<=k:=by
 have c:=OX h0 h;have a:=Gg (b:=B9) af n;exact⟨mF ae a (Zn af n),Sl ae a,Dj af h0,c⟩
end Go.Sp
namespace Go.Pe
open Sp
open Go.Det
theorem Uj:CE tY:=fun g sp h=>by cases h
namespace T190
theorem Ar{Q:PV->Ob->Prop}:∀(n:Nat) (w:List Int),w.length=n->n<=20000->(∀ob,Q (.dat li<|AA w) ob)->Ends tY (L1 w) Q
 |0,w,d,_,a=>by
  have:w=[]:=yb.1 d;subst this;exact zo (Ak ..) (zr (by simp)<|zm<|a _)
 |n+1,w,d,g,a=>by
  obtain⟨p,x,rfl⟩:∃p x,w=p++[x]:=by
   have b:w≠[]:=by rintro rfl;simp at d
   exact⟨w.dropLast,w.getLast b,(qj b).symm⟩
  have hp:p.length=n:=by simpa using d
  have e:zf .i64 (((p++[x]).length:Int)-1)=(n:Int):=by rw[wr _ ae ae];omega
  have f:(p++[x]).getD n 0=x:=D3 _ _ _ _ hp;have t1:(p++[x]).take n=p:=by rw[<-hp];exact List.take_left
  refine zo (Ak ..) (zc (w4 ae) ?_);rw[e,zg,f,t1];refine zc (by simp;omega) (zu (fun c=>zc (by simp;omega) ?_)<|fun c=>?_)
  ·have c:x=0:=by simpa using c
   subst c;rw[Jz]at a;exact Ar n p hp ae a
  ·have c:x≠0:=by simpa using c
   rw[I7<|Z5 c]at a;exact zm<|a _
theorem ok:Af A4 190 Va:=by
 refine BD Uj<|fun(w:List Int) a=>?_;have a:w.length<=20000:=w6 a;exact yj (Aj w)<|Ar w.length w rfl a (fun ob=>yp rfl rfl rfl)
end T190
theorem T1:CE hO:=Aa T190.ok Ay
theorem T149.ok:Af A4 149 I5:=by
 refine BD T1<|fun(i:Bool×List Int) hi=>?_;obtain⟨n,w⟩:=i;refine yj (T149.Aj n w)<|zc hi<|zu (fun c=>zm<|yp rfl rfl ?_)<|fun c=>zm<|yp rfl rfl ?_
 ·show(decide (((AA w).length:Int)>0),AA w)=(CQ n w,AA w);unfold CQ;rw[c,qh];congr 1;rw[decide_eq_decide];constructor
  ·intro h a;rw[a]at h;simp at h
  ·intro h;have:(AA w).length≠0:=fun a=>h<|yb.1 a
   omega
 ·show(false,AA w)=(CQ n w,AA w);unfold CQ;rw[c];rfl
namespace T151
theorem Ar{Q:PV->Ob->Prop}(a b:List Int)(j:AB zd a)(k:AB zd b)(l:a.length=b.length)(o:b.length<=20000)(f:∀ob,Q (.dat i64<|Cp (Ao a)<|Ao b) ob):∀(i:Nat),i<=a.length->a.drop i=b.drop i->Ends tY (L1 a b<|(i:Int)-1) Q
 |0,n,g=>by
  have g:a=b:=g;have:Cp (Ao a) (Ao b)=0:=by rw[g];unfold Cp;simp
  rw[this]at f;exact zo (Ak ..) (zr (by simp)<|zm<|f _)
 |i+1,n,g=>by
  have m:(((i+1:Nat):Int)-1)=(i:Int):=ae
  have h:a.drop i=a.getD i 0::a.drop (i+1):=CB ae;have db:b.drop i=b.getD i 0::a.drop (i+1):=by rw[g];exact CB ae
  rw[m];refine zo (Ak ..) (zc (by simp) ?_);rw[zg];refine zc (by simp;omega) (zc (by simp;omega)<|zu (fun d=>?_) (fun d=>zc (by simp;omega)<|zc (by simp;omega)<|zu (fun c=>?_)<|fun c=>?_))
  ·have d:=w6 d;have:=JX (b:=zd) af j k h db d;have e:Cp (Ao a) (Ao b)= -1:=by unfold Cp;exact wd this
   rw[e]at f;exact zm<|f _
  ·have c:=w6 c;have:=JX (b:=zd) af k j db h c;have e:Cp (Ao a) (Ao b)=1:=by unfold Cp Ao;rw[wc ae,wd ae]
   rw[e]at f;exact zm<|f _
  ·have c:=w7 c;have d:=w7 d;rw[wr ((i:Int)-1) ae ae];exact Ar a b j k l o f i ae (by rw[h,db,show a.getD i 0=b.getD i 0 by omega])
theorem ok:Af A4 151 Z2:=by
 refine BD Uj<|fun(i:List Int×List Int) g=>?_;obtain⟨a,b⟩:=i;have g:(Ba a&&Ba b)=true:=g;rw[zh]at g;obtain⟨a1,a2,a3⟩:=By g.1;obtain⟨b1,b2,b3⟩:=By g.2;have f:∀ob,Ac Z2 (a,b) (.dat i64<|Cp (Ao a)<|Ao b) ob:=fun ob=>yp rfl rfl rfl
 refine yj (Aj a b)<|zu (fun c=>zu (fun d=>?_)<|fun d=>?_)<|fun c=>?_
 ·have d:=w6 d;have e:Cp (Ao a) (Ao b)= -1:=by unfold Cp;exact wd (E8 af a2 b2 b3 ae)
  rw[e]at f;exact zm<|f _
 ·have d:=w7 d;have c:(a.length:Int)≠b.length:=by simpa using c
  have:=E8 (b:=zd) af b2 a2 a3 ae;have e:Cp (Ao a) (Ao b)=1:=by
   unfold Cp Ao;rw[wc ae,wd ae]
  rw[e]at f;exact zm<|f _
 ·have c:(a.length:Int)=b.length:=by simpa using c
  rw[wr _ ae ae];exact Ar a b a2 b2 ae b1 f a.length ae (by rw[List.drop_length,qt ae])
end T151
theorem gN{x y o c:Int}(d:0<=x/\x<1000000000)(g:0<=y/\y<1000000000)(k:0<=o/\o<1000000000)(j:0<=c/\c<1000000000):
  zf .i64 (zf .i64 (o+zf .i64 (x*y))+c)=o+x*y+c/\qm (o+x*y+c) 1000000000=(o+x*y+c) % 1000000000/\zf .i64 (yo (o+x*y+c) 1000000000)=(o+x*y+c)/1000000000/\
  (0<=(o+x*y+c)/1000000000/\(o+x*y+c)/1000000000<1000000000)/\(0<=(o+x*y+c) % 1000000000/\(o+x*y+c) % 1000000000<1000000000):=by
 have h0:0<=x*y:=z6 d.1 g.1;have i:x*y<=999999999*999999999:=by
  have a:=zi (show y<=999999999 by omega) d.1;have b:=zl (show x<=999999999 by omega) (show(0:Int)<=999999999 by omega);omega
 generalize x*y=P at*;have e:zf .i64 P=P:=wr _ ae ae;have h:zf .i64 (o+P)=o+P:=wr _ ae ae;have f:yo (o+P+c) 1000000000=(o+P+c)/1000000000:=zw ae;refine⟨?_,zy ae,?_,by omega,by omega⟩
 ·rw[e,h];exact wr _ ae ae
 ·rw[f];exact wr _ ae ae
namespace T153
theorem A5(x y:List Int)(n i:Nat)(J:i<x.length)(G:n=x.length+y.length)(f:x.length<=9000)(h:y.length<=9000)(o:AB zd x)(u:AB zd y)(p:List Int)(hp:p.length=i+y.length)(b:AB zd p)
  (s:∀q c,q.length=i+y.length->AB zd q->(0<=c/\c<1000000000)->ze zd q+(zd:Int)^(i+y.length)*c=ze zd p+(zd:Int)^i*(x.getD i 0*ze zd y)->Ends hO (L1 x y n ((i+1:Nat):Int)<|(q++[c])++zq (n-(i+y.length+1)) 0) Q):∀(k j:Nat) (q:List Int) (c:Int),j+k=y.length->q.length=i+j->AB zd q->(0<=c/\c<1000000000)->ze zd q+(zd:Int)^(i+j)*c=ze zd (p.take<|i+j)+(zd:Int)^i*(x.getD i 0*ze zd (y.take j))->
  Ends hO (L2 x y n i c j<|q++(p.drop (i+j)++zq (n-(i+y.length)) 0)) Q
 |0,j,q,c,e,a,l,g,r=>by
  have e:j=y.length:=ae
  subst e;have d:zf .i64 ((i:Int)+(y.length:Int))=((i+y.length:Nat):Int):=by rw[wr _ ae ae];omega
  have m:=wn (i:=i) ae;have K:p.drop (i+y.length)=[]:=qt ae;have v:(q++zq (n-(i+y.length)) (0:Int)).getD (i+y.length) 0=0:=by
   have:n-(i+y.length)=(n-(i+y.length+1))+1:=ae
   rw[this,List.replicate_succ];exact D3 _ _ _ _ a
  refine zo (Az ..) (zr (by simp) ?_);rw[d,m,zg,K,qk,v,Int.zero_add,wr c ae ae,J2 q n _ c a ae];refine zc (by simp;omega) (zc (by simp;omega) (zc (by simp;omega)<|zc (by simp;omega)<|s q c a l g ?_));rw[r,zk ae,yc]
 |k+1,j,q,c,e,a,l,g,r=>by
  have w:=Hp o i;have F:=Hp u j;have M:=Hp b<|i+j;have t:p.drop (i+j)=p.getD (i+j) 0::p.drop (i+j+1):=CB ae;have d:zf .i64 ((i:Int)+(j:Int))=((i+j:Nat):Int):=by rw[wr _ ae ae];omega
  have m:=wn (i:=j) ae;have lo:(q++(p.drop (i+j)++zq (n-(i+y.length)) (0:Int))).length=n:=by simp;omega
  have N:(q++(p.drop (i+j)++zq (n-(i+y.length)) (0:Int))).getD (i+j) 0=p.getD (i+j) 0:=by
   rw[t,List.cons_append];exact D3 _ _ _ _ a
  have s1:∀z,(q++(p.drop (i+j)++zq (n-(i+y.length)) (0:Int))).set (i+j) z=(q++[z])++(p.drop (i+(j+1))++zq (n-(i+y.length)) 0):=by
   intro z;rw[t,List.cons_append,DQ _ _ _ _ a,qg];rfl
  obtain⟨E,C,B,I,L⟩:=gN w F M g;refine zo (Az ..) (zc (by simp;omega) ?_);rw[d,m,zg,zg,zg,N,E,C,B,s1];have t1:(decide ((0:Int)<=((i+j:Nat):Int))&&decide (((i+j:Nat):Int)<(n:Int)))=true:=by simp;omega
  refine zc t1 (zc (w4<|by rw[lo];omega)<|zc (by simp;omega) (zc (by simp;omega)<|zc rfl (zc t1<|zc (w4<|by rw[lo];omega)<|zc rfl ?_)));refine A5 x y n i J G f h o u p hp b s k (j+1) _ _ ae (by simp;omega) (F5 l L) I ?_;have D:i+(j+1)=(i+j)+1:=ae
  have A:(zd:Int)^i*(x.getD i 0*((zd:Int)^j*y.getD j 0))=(zd:Int)^(i+j)*(x.getD i 0*y.getD j 0):=by
   rw[Int.pow_add,yd,qf<|x.getD i 0]
  have H:(p.getD (i+j) 0+x.getD i 0*y.getD j 0+c) % 1000000000+1000000000*((p.getD (i+j) 0+x.getD i 0*y.getD j 0+c)/1000000000)=x.getD i 0*y.getD j 0+p.getD (i+j) 0+c:=by
   generalize x.getD i 0*y.getD j 0=P;omega
  rw[D,CC,a,KW,je, <-z8,H,AK _ p<|i+j,AK _ y j,z8,z8,z8<|x.getD i 0,z8,A];omega
theorem Ar(x y:List Int)(n:Nat)(j:n=x.length+y.length)(b:x.length<=9000)(a:y.length<=9000)(m:AB zd x)(o:AB zd y)(l:∀ob,Q (.dat li<|BW<|Ao x*Ao y) ob):∀(k i:Nat) (p:List Int),i+k=x.length->p.length=i+y.length->AB zd p->ze zd p=ze zd (x.take i)*ze zd y->
  Ends hO (L1 x y n i<|p++zq (n-(i+y.length)) 0) Q
 |0,i,p,g,hp,e,d=>by
  have g:i=x.length:=ae
  subst g;have r:p++zq (n-(x.length+y.length)) (0:Int)=p:=by rw[j,Nat.sub_self];simp
  have f:Ao p=Ao x*Ao y:=by
   rw[yc]at d;exact d
  rw[r];refine zo (Ak ..) (zr (by simp) ?_);rw[zk ae];refine zc ?_<|zm ?_
  ·simp;omega
  ·rw[FF e,f];exact l _
 |k+1,i,p,g,hp,e,d=>by
  refine zo (Ak ..) (zc (by simp;omega) ?_);have:=A5 (Q:=Q) x y n i ae j b a m o p hp e (fun q c s h t f=>by
   have:=Ar x y n j b a m o l k (i+1) (q++[c]) ae (by simp;omega) (F5 h t) (by
    rw[CC,s,f,d,AK,qy,yd])
   rw[show i+1+y.length=i+y.length+1 by omega]at this;exact this) y.length 0 (p.take i) 0 ae (by simp;omega) (AT e i) af (by simp[ze])
  rw[Nat.add_zero, <-qg,yi]at this;exact this
theorem ok:Af A4 153 bZ:=by
 refine BD T1<|fun(i:List Int×List Int) a=>?_;obtain⟨x,y⟩:=i;have a:(Sp.hR x&&Sp.hR y)=true:=a;rw[zh]at a;obtain⟨x1,x2⟩:=Abd a.1;obtain⟨y1,y2⟩:=Abd a.2;have c:zf .i64 ((x.length:Int)+(y.length:Int))=((x.length+y.length:Nat):Int):=by rw[wr _ ae ae];omega
 refine yj (Aj x y) ?_;conv=>zeta
 rw[c,zg];refine zc (by simp;omega) ?_;have:=Ar (Q:=Ac bZ (x,y)) x y (x.length+y.length) rfl x1 y1 x2 y2 (fun ob=>yp rfl rfl rfl) x.length 0 (zq y.length 0) ae (by simp) (fun d b=>by rw[(List.mem_replicate.1 b).2];decide) (by rw[Nz];simp[ze]);rw[Nat.zero_add,List.replicate_append_replicate,show y.length+(x.length+y.length-y.length)=x.length+y.length by omega]at this;exact this
end T153
theorem eT{r x d:Int}(a:0<d/\d<1000000000)(hr:0<=r/\r<d)(b:0<=x/\x<1000000000):
  zf .i64 (zf .i64 (r*1000000000)+x)=r*1000000000+x/\zf .i64 (yo (r*1000000000+x) d)=(r*1000000000+x)/d/\qm (r*1000000000+x) d=(r*1000000000+x) % d/\
  (0<=(r*1000000000+x)/d/\(r*1000000000+x)/d<1000000000)/\(0<=(r*1000000000+x) % d/\(r*1000000000+x) % d<d)/\(r*1000000000+x)/d*d+(r*1000000000+x) % d=r*1000000000+x:=by
 have h:=yh (r*1000000000+x) d;rw[ya]at h;have q0:0<=(r*1000000000+x)/d:=qv ae ae;have q1:(r*1000000000+x)/d<1000000000:=Int.ediv_lt_of_lt_mul a.1 ae;refine⟨?_,?_,zy ae,⟨q0,q1⟩,⟨yz _ ae,yq _ a.1⟩,h⟩
 ·rw[wr (r*1000000000) ae ae];exact wr _ ae ae
 ·rw[zw ae];exact wr _ ae ae
namespace T189
theorem Ar(a:List Int)(d:Int)(g:AB zd a)(h:0<d/\d<1000000000)(m:a.length<=20000)(f:∀q r ob,AB zd q->(0<=r/\r<d)->Ao a=Ao q*d+r->Q (.tup [.dat li<|AA q,.dat i64 r]) ob):∀(i:Nat) (q:List Int) (r:Int),i+q.length=a.length->AB zd q->(0<=r/\r<d)->ze zd (a.drop i)=ze zd q*d+r->
  Ends hO (L1 a d a.length r ((i:Int)-1)<|zq i 0++q) Q
 |0,q,r,k,b,hr,c=>by
  have l:((zq 0 0++q).take a.length)=q:=by
   rw[List.replicate_zero,qk];exact zk ae
  refine zo (Ak ..) (zr (by simp) ?_);rw[l];refine zc (Ab (by simp;omega)<|w4 ae)<|zm<|f q r _ b hr c
 |i+1,q,r,k,b,hr,c=>by
  have j:(((i+1:Nat):Int)-1)=(i:Int):=ae
  have p:=Hp g i;obtain⟨t,o,v,n,u,w⟩:=eT h hr p;have s:a.drop i=a.getD i 0::a.drop (i+1):=CB ae;have es:∀x,(zq (i+1) (0:Int)++q).set i x=zq i 0++(x::q):=by
   intro x;rw[List.replicate_succ',qg];exact DQ _ _ _ _ (by simp)
  rw[j];refine zo (Ak ..) (zc (by simp) ?_);rw[zg,es,wr ((i:Int)-1) ae ae,t,o,v];refine zc (by simp;omega) (zc (w4 ae) (zc (by simp;omega)<|zc (by simp;omega)<|zc (w4 ae) ?_));refine Ar a d g h m f i _ _ (by simp;omega) (fun x e=>?_) u ?_
  ·rcases qo.1 e with rfl|e
   ·exact n
   ·exact b x e
  ·rw[s];show a.getD i 0+(1000000000:Int)*ze zd (a.drop<|i+1)=((r*1000000000+a.getD i 0)/d+(1000000000:Int)*ze zd q)*d+(r*1000000000+a.getD i 0) % d;rw[c,qy,z8,yd];omega
theorem ok:Af A4 189 Zc:=by
 refine BD T1<|fun(i:List Int×Int) c=>?_;obtain⟨a,d⟩:=i;have c:(KK a&&decide (0<d)&&decide (d<1000000000))=true:=c;rw[zh,zh,w5,w5]at c;obtain⟨⟨ha,d0⟩,d1⟩:=c;obtain⟨hl,hda⟩:=Q7 ha;refine yj (Aj a d) ?_;conv=>zeta
 rw[zg,wr ((a.length:Int)-1) ae ae];refine zc (by simp;omega) ?_;have:=Ar (Q:=Ac Zc (a,d)) a d hda ⟨d0,d1⟩ hl (fun q r ob e hr g=>?_) a.length [] 0 (by simp) (fun x f=>by cases f) ⟨qz _,d0⟩ (by rw[List.drop_length];simp[ze])
 ·rw[List.append_nil]at this;exact this
 ·refine yp rfl rfl ?_;show(AA q,r)=(BW<|Ao a/d,Ao a % d);obtain⟨u1,u2⟩:=(yv (a:=Ao a) (b:=d) (r:=r) (q:=Ao q) d0).2 ⟨by rw[ya d];omega,hr.1,hr.2⟩;rw[FF e,u1,u2]
end T189
theorem wV:CE ND:=
 Aa T151.ok (Aa T190.ok<|Aa T189.ok<|Aa T153.ok Ay)
theorem Uv{t x y w:Int}(c:0<=t/\t<1000000000)(e:0<=x/\x<1000000000)(i:0<=y/\y<1000000000)(h:0<=w/\w<=1000000000):
  zf .i64 (zf .i64 (t*x)+w)=t*x+w/\qm (t*x+w) 1000000000=(t*x+w) % 1000000000/\zf .i64 (yo (t*x+w) 1000000000)=(t*x+w)/1000000000/\
  zf .i64 ((t*x+w)/1000000000+1)=(t*x+w)/1000000000+1/\zf .i64 (y-(t*x+w) % 1000000000)=y-(t*x+w) % 1000000000/\(0<=(t*x+w)/1000000000/\(t*x+w)/1000000000<1000000000)/\(0<=(t*x+w) % 1000000000/\(t*x+w) % 1000000000<1000000000):=by
 have h0:0<=t*x:=z6 c.1 e.1;have g:t*x<=999999999*999999999:=by
  have a:=zi (show x<=999999999 by omega) c.1;have b:=zl (show t<=999999999 by omega) (show(0:Int)<=999999999 by omega);omega
 generalize t*x=P at*;have d:zf .i64 P=P:=wr _ ae ae;have f:yo (P+w) 1000000000=(P+w)/1000000000:=zw ae;refine⟨?_,zy ae,?_,wr _ ae ae,wr _ ae ae,by omega,by omega⟩
 ·rw[d];exact wr _ ae ae
 ·rw[f];exact wr _ ae ae
theorem gT(w r:List Int)(i:Nat)(h:i<w.length):(w++r).getD i 0=w.getD i 0:=by
 rw[zz,zz,List.getElem?_append_left h]
namespace T147
theorem gW{lo w z:List Int}{h:Int}{j i:Nat}(a:lo.length=j)(b:i<w.length):(lo++(w++h::z)).getD (i+j) 0=w.getD i 0:=by
 rw[HB _ _ _ _ a,gT _ _ _ b]
theorem sW{lo w z:List Int}{h:Int}{j i:Nat}(x:Int)(a:lo.length=j)(b:i<w.length):(lo++(w++h::z)).set (i+j) x=lo++(w.set i x++h::z):=by
 rw[T2 _ _ _ _ _ a,List.set_append_left _ _ b]
theorem gH{lo w z:List Int}{h:Int}{j n:Nat}(a:lo.length=j)(b:w.length=n):(lo++(w++h::z)).getD (n+j) 0=h:=by
 rw[HB _ _ _ _ a];exact D3 _ _ _ _ b
theorem sH{lo w z:List Int}{h:Int}{j n:Nat}(x:Int)(a:lo.length=j)(b:w.length=n):(lo++(w++h::z)).set (n+j) x=lo++(w++x::z):=by
 rw[T2 _ _ _ _ _ a];congr 1;exact DQ _ _ _ _ b
theorem O4(w z:List Int)(h:Int)(a:ze zd z=0):ze zd (w++h::z)=ze zd w+(zd:Int)^w.length*h:=by
 rw[Dg];show _+_*(h+(zd:Int)*ze zd z)=_;rw[a,qe,jf]
theorem CX(o a e:Nat)(A F v lo z:List Int)(n j:Nat)(t h' X:Int)(U:v.length=n)(I:n<=9000)(f:lo.length=j)(N:j<=9000)(H:n+j<a)(E:j<e)(y:j<A.length)(J:AB zd v)(K:ze zd z=0)(x:AB zd z)(M: -2000000000<=h'/\h'<=2000000000)
  (R:0<=X/\X<(zd:Int)^n) (u:a=j+n+1+z.length)
  (m:∀r:List Int,r.length=n+1+z.length->AB zd r->ze zd r=X->Ends ND (L2 o v n a e (zf .i64<|(j:Int)-1) (A.set j t) (lo++r) F) Q):
  ∀(k i:Nat) (w:List Int) (c:Int),i+k=n->w.length=n->AB zd w->(0<=c/\c<=1)->ze zd w+(zd:Int)^n*h'=X-ze zd v+ze zd (v.take i)-(zd:Int)^i*c->
   Ends ND (L5 o v n a e j t c i A (lo++(w++h'::z)) F) Q
 |0,i,w,c,D,q,s,T,L=>by
  have D:i=n:=ae
  subst D;have C:zf .i64 ((j:Int)+(i:Int))=((i+j:Nat):Int):=by rw[wr _ ae ae];omega
  have G:v.take i=v:=zk ae;rw[G]at L;have a1:=AJ (b:=zd) af s;have a2:=BC (b:=zd) af s;rw[q]at a2;have hp:=AU (b:=zd) af i;have B:ze zd w+(zd:Int)^i*(h'+c)=X:=by rw[z8];omega
  have h:h'+c=0:=by
   rcases Int.lt_trichotomy (h'+c) 0 with g|g|g
   ·have:=zi (show h'+c<= -1 by omega)<|zx hp;rw[qw,y8]at this;omega
   ·exact g
   ·have:=zi (show 1<=h'+c by omega)<|zx hp;rw[y8]at this;omega
  have l:i+j<(lo++(w++h'::z)).length:=by simp;omega
  refine zo (EF ..) (zr (by simp) ?_);rw[C,zg,zg,gH f q,sH _ f q,wr (h'+c) ae ae,h];have t1:(decide ((0:Int)<=((i+j:Nat):Int))&&decide (((i+j:Nat):Int)<(a:Int)))=true:=by simp;omega
  refine zc t1 (zc (w4 l)<|zc t1<|zc (w4 l)<|zc (by simp;omega)<|zc (w4 y)<|m _ (by simp;omega) (FI s<|fun d p=>?_) ?_)
  ·rcases qo.1 p with rfl|p
   ·decide
   ·exact x d p
  ·rw[O4 _ _ _ K,q, <-B,h]
 |k+1,i,w,c,D,q,s,T,L=>by
  have W:=Hp J i;have Y:=Hp s i;have C:zf .i64 ((i:Int)+(j:Int))=((i+j:Nat):Int):=by rw[wr _ ae ae];omega
  have O:=wn (i:=i) ae;have S:zf .i64 (zf .i64 (w.getD i 0+v.getD i 0)+c)=w.getD i 0+v.getD i 0+c:=by
   rw[wr (w.getD i 0+v.getD i 0) ae ae];exact wr _ ae ae
  have P:qm (w.getD i 0+v.getD i 0+c) 1000000000=(w.getD i 0+v.getD i 0+c) % 1000000000:=zy ae;have B:zf .i64 (yo (w.getD i 0+v.getD i 0+c) 1000000000)=(w.getD i 0+v.getD i 0+c)/1000000000:=by
   rw[zw ae];exact wr _ ae ae
  have l:i+j<(lo++(w++h'::z)).length:=by simp;omega
  refine zo (EF ..) (zc (by simp;omega) ?_);rw[C,O,zg,zg,gW f ae,sW _ f ae,S,P,B];have t1:(decide ((0:Int)<=((i+j:Nat):Int))&&decide (((i+j:Nat):Int)<(a:Int)))=true:=by simp;omega
  refine zc t1 (zc (w4 l)<|zc (by simp;omega)<|zc rfl (zc t1<|zc (w4 l)<|zc rfl ?_));refine CX o a e A F v lo z n j t h' X U I f N H E y J K x M R u m k (i+1) _ _ ae (by simp[q]) (HF s i<|by show 0<=_/\_<(1000000000:Int);omega) ae ?_;rw[Iw _ _ _ _ ae,KW,AK];have V:(zd:Int)^i*((w.getD i 0+v.getD i 0+c) % 1000000000-w.getD i 0)=(zd:Int)^i*v.getD i 0+(zd:Int)^i*c-(zd:Int)^i*(1000000000*((w.getD i 0+v.getD i 0+c)/1000000000)):=by
   rw[<-z8, <-qi];congr 1;omega
  omega
theorem Cb(g a b:Nat)(o s v lo z:List Int)(n j:Nat)(t h W:Int)(hn:v.length=n)(G:n<=9000)(e:lo.length=j)(V:j<=9000)(F:n+j<a)(D:j<b)(r:j<o.length)(I:AB zd v)(S:0<=h/\h<1000000000)(p:a=j+n+1+z.length)(L:0<=t/\t<1000000000)
  (h0:∀(w:List Int) (h':Int),w.length=n->AB zd w->0<=h'->ze zd w+(zd:Int)^n*h'=W-t*ze zd v->Ends ND (L2 g v n a b (zf .i64<|(j:Int)-1) (o.set j t) (lo++(w++h'::z)) s) Q)
  (H:∀(w:List Int) (h':Int),w.length=n->AB zd w->h'<0-> -2000000000<=h'->ze zd w+(zd:Int)^n*h'=W-t*ze zd v->Ends ND (L5 g v n a b j (zf .i64<|t-1) 0 0 o (lo++(w++h'::z)) s) Q):
  ∀(k i:Nat) (w:List Int) (c:Int),i+k=n->w.length=n->AB zd w->(0<=c/\c<=1000000000)->ze zd w+(zd:Int)^n*h=W-t*ze zd (v.take i)+(zd:Int)^i*c->
   Ends ND (L4 g v n a b j t c i o (lo++(w++h::z)) s) Q
 |0,i,w,c,B,l,q,M,K=>by
  have B:i=n:=ae
  subst B;have A:zf .i64 ((j:Int)+(i:Int))=((i+j:Nat):Int):=by rw[wr _ ae ae];omega
  have E:v.take i=v:=zk ae;rw[E]at K;have f:i+j<(lo++(w++h::z)).length:=by simp;omega
  have u:i+j<(lo++(w++(h-c)::z)).length:=by simp;omega
  have J:ze zd w+(zd:Int)^i*(h-c)=W-t*ze zd v:=by rw[qi];omega
  refine zo (Ck ..) (zr (by simp) ?_);rw[A,zg,zg,gH e l,wr (h-c) ae ae,sH _ e l,gH e l];have t1:(decide ((0:Int)<=((i+j:Nat):Int))&&decide (((i+j:Nat):Int)<(a:Int)))=true:=by simp;omega
  refine zc t1<|zc (w4 f)<|zc t1<|zc (w4 f)<|zc t1<|zc (w4 u)<|zu (fun d=>?_)<|fun d=>?_
  ·have d:=w6 d;exact H w (h-c) l q d ae J
  ·have d:=w7 d;exact zc (by simp;omega) (zc (w4 r)<|h0 w (h-c) l q ae J)
 |k+1,i,w,c,B,l,q,M,K=>by
  have R:=Hp I i;have gy:=Hp q i;obtain⟨Z,U,T,O,Y,m6,m7⟩:=Uv L R gy M;have A:zf .i64 ((i:Int)+(j:Int))=((i+j:Nat):Int):=by rw[wr _ ae ae];omega
  have X:=wn (i:=i) ae;have f:i+j<(lo++(w++h::z)).length:=by simp;omega
  have t1:(decide ((0:Int)<=((i+j:Nat):Int))&&decide (((i+j:Nat):Int)<(a:Int)))=true:=by simp;omega
  have go:∀(x m:Int),(0<=x/\x<1000000000)->(0<=m/\m<=1000000000)->c+(x-w.getD i 0)=1000000000*m-t*v.getD i 0->Ends ND (L4 g v n a b j t m ((i+1:Nat):Int) o (lo++(w.set i x++h::z)) s) Q:=by
   intro x m N C y;refine Cb g a b o s v lo z n j t h W hn G e V F D r I S p L h0 H k (i+1) _ _ ae (by simp[l]) (HF q i N) C ?_;rw[Iw _ _ _ _ ae,KW,AK,z8 t,qf t];have e6:(zd:Int)^i*c+(zd:Int)^i*(x-w.getD i 0)=(zd:Int)^i*(1000000000*m)-(zd:Int)^i*(t*v.getD i 0):=by
    rw[<-z8, <-qi,y]
   omega
  refine zo (Ck ..) (zc (by simp;omega) ?_);rw[A,X,zg,zg,gW e ae,Z,U,T,O,Y,sW _ e ae,sW _ e ae];refine zc (by simp;omega)<|zc t1<|zc (w4 f)<|zc rfl (zc rfl (zu (fun d=>?_)<|fun d=>?_))
  ·have d:=w6 d;rw[wr (w.getD i 0-(t*v.getD i 0+c) % 1000000000+1000000000) ae ae];refine zc t1 (zc (w4 f) (go _ _ ae ae ?_));generalize t*v.getD i 0=P at*;omega
  ·have d:=w7 d;refine zc t1 (zc (w4 f) (go _ _ ae ae ?_));generalize t*v.getD i 0=P at*;omega
theorem AaK(i h f:Nat)(z E v lo e:List Int)(n j:Nat)(I:v.length=n)(A:n<=9000)(o:lo.length=j)(M:j<=9000)(hr:n+1<=e.length)(K:h=j+e.length)(s:j<f)(y:j<z.length)(B:AB zd v)(D:AB zd e)(C:ze zd (e.drop<|n+1)=0)
  (k:∀(q:Int) (r:List Int),r.length=e.length->AB zd r->(0<=q/\q<1000000000)->ze zd r<ze zd v->ze zd r=ze zd e-q*ze zd v->Ends ND (L2 i v n h f (zf .i64<|(j:Int)-1) (z.set j q) (lo++r) E) Q)
  (q:Int) (L:0<=q/\q<1000000000) (N:ze zd e<(q+1)*ze zd v) (W:q*ze zd v<ze zd e+ze zd v):
  Ends ND (L4 i v n h f j q 0 0 z (lo++e) E) Q:=by
 have l:e=e.take n++e.getD n 0::e.drop (n+1):=by
  rw[<-CB ae];exact(yi n e).symm
 have gh:=Hp D n;have G:=AT D n;have t:=Fg D<|n+1;have m:(e.take n).length=n:=by rw[zp];omega
 have O:(e.drop<|n+1).length=e.length-(n+1):=zn ..;have hW:ze zd e=ze zd (e.take n)+(zd:Int)^n*e.getD n 0:=by
  conv=>lhs;rw[l]
  rw[O4 _ _ _ C,m]
 have p:=BC (b:=zd) af B;rw[I]at p;have T:=AJ (b:=zd) af B;have S:=AJ (b:=zd) af D;have hp:=AU (b:=zd) af n;rw[qy,ym]at N;rw[l];refine Cb i h f z E v lo (e.drop<|n+1) n j q (e.getD n 0) (ze zd e) I A o M ae s y B gh ae L (fun w h' a b c d=>?_) (fun w h' a b c U d=>?_) n 0 (e.take n) 0 ae m G af (by rw[<-hW];simp[ze])
 ·have J:=AJ (b:=zd) af b;have H:h'=0:=by
   rcases yk 0 h' with g|g
   ·have:=zi (show 1<=h' by omega)<|zx hp;omega
   ·omega
  refine k q _ (by simp;omega) (FI b<|fun x F=>?_) L ?_ ?_
  ·rcases qo.1 F with rfl|F
   ·rw[H];decide
   ·exact t x F
  ·rw[O4 _ _ _ C,a,d];omega
  ·rw[O4 _ _ _ C,a,d]
 ·have J:=BC (b:=zd) af b;rw[a]at J;have u:ze zd e-q*ze zd v<0:=by
   have:=zi (show h'<= -1 by omega)<|zx hp;rw[qw,y8]at this;omega
  have P:1<=q:=by
   rcases yk 0 q with g|g
   ·exact g
   ·have:q=0:=ae
    subst this;rw[qu]at u;omega
  rw[wr (q-1) ae ae];refine CX i h f z E v lo (e.drop<|n+1) n j (q-1) h' (ze zd e-q*ze zd v+ze zd v) I A o M ae s y B C t ae ae ae (fun r V b' R=>?_) n 0 w 0 ae a b af (by rw[d];simp[ze]<;>omega);refine k (q-1) r ae b' ae ae ?_;rw[R,Int.sub_mul,ym];omega
theorem Dx(l e i:Nat)(t z v lo h:List Int)(a2 a1 a0:List Int)(k j:Nat)(U:v.length=k+2)(I:k+2<=9000)(x:lo.length=j)(W:j<=9000)(hr:k+3<=h.length)(s:e=j+h.length)(F:j<i)(G:j<t.length)(w:AB zd v)(y:AB zd h)(M:ze zd (h.drop<|k+3)=0)(C:1<=v.getD (k+1) 0)
  (D:h.getD (k+2) 0<=v.getD (k+1) 0) (N:ze zd h<1000000000*ze zd v)
  (m:∀(q:Int) (r:List Int),r.length=h.length->AB zd r->(0<=q/\q<1000000000)->ze zd r<ze zd v->ze zd r=ze zd h-q*ze zd v->Ends ND (L2 l v ((k+2:Nat):Int) e i (zf .i64<|(j:Int)-1) (t.set j q) (lo++r) z) Q):
  ∀(f:Nat) (q r:Int),0<=q->q<f->q<=2000000000000000000->(0<=r/\r<1000000000)->q*v.getD (k+1) 0+r=h.getD (k+2) 0*1000000000+h.getD (k+1) 0->ze zd h<(q+1)*ze zd v->
   Ends ND (L3 l v ((k+2:Nat):Int) e i j a2 a1 a0 e v j ((k+2:Nat):Int) q r t (lo++h) z) Q
 |0,q,r,h0,hf,_,_,_,_=>by omega
 |f+1,q,r,h0,hf,hmax,hr1,X,S=>by
  have u:=Hp w k;have gv1:=Hp w<|k+1;have gu2:=Hp y k;have gu1:=Hp y<|k+1;have V:=AU (b:=zd) af k;have hW:=yN zd h k ae M;have Y:=yK zd v k U;have K:=AJ (b:=zd) af<|AT y k;have n:=BC (b:=zd) af<|AT y k;have E:=AJ (b:=zd) af<|AT w k;have o:=BC (b:=zd) af<|AT w k;have P:=AJ (b:=zd) af w;rw[zp,ql ae]at n o;have exit:∀q R:Int,0<=q->q<1000000000->q*v.getD (k+1) 0+R=h.getD (k+2) 0*1000000000+h.getD (k+1) 0->ze zd h<(q+1)*ze zd v->q*v.getD k 0<=R*1000000000+h.getD k 0->Ends ND (L4 l v ((k+2:Nat):Int) e i j q 0 0 t (lo++h) z) Q:=by
   intro q R q0 q1 L T J;refine AaK l e i t z v lo h (k+2) j U I x W hr s F G w y M m q ⟨q0,q1⟩ T ?_;rw[hW,Y];exact Xa V ⟨E,o⟩ K ⟨q0,q1⟩ C u.1 L J
  have e1:zf .i64 (((k+2:Nat):Int)-2)=(k:Int):=by rw[wr _ ae ae];omega
  have e2:zf .i64 (((k+2:Nat):Int)-1)=((k+1:Nat):Int):=by rw[wr _ ae ae];omega
  have e3:zf .i64 (zf .i64 ((j:Int)+((k+2:Nat):Int))-2)=((k+j:Nat):Int):=by
   rw[wr ((j:Int)+((k+2:Nat):Int)) ae ae,wr _ ae ae];omega
  have g3:(lo++h).getD (k+j) 0=h.getD k 0:=HB _ _ _ _ x;have Z:(decide ((0:Int)<=((k+1:Nat):Int))&&decide (((k+1:Nat):Int)<(v.length:Int)))=true:=by simp;omega
  have H:ze zd h<q*ze zd v->Ends ND (.ite (decide (zf .i64 (r+v.getD (k+1) 0)>=(1000000000:Int))) (L4 l v ((k+2:Nat):Int) e i j (zf .i64<|q-1) 0 0 t (lo++h) z)<|L3 l v ((k+2:Nat):Int) e i j a2 a1 a0 e v j ((k+2:Nat):Int) (zf .i64<|q-1) (zf .i64<|r+v.getD (k+1) 0) t (lo++h) z) Q:=by
   intro J;have hW0:=AJ (b:=zd) af y;have hq1:1<=q:=by
    rcases yk 0 q with g|g
    ·exact g
    ·have:q=0:=ae
     subst this;rw[qu]at J;omega
   have A:(q-1)*v.getD (k+1) 0+(r+v.getD (k+1) 0)=h.getD (k+2) 0*1000000000+h.getD (k+1) 0:=by rw[Int.sub_mul,ym];omega
   have p:ze zd h<(q-1+1)*ze zd v:=by rw[show q-1+1=q by omega];exact J
   rw[wr (q-1) ae ae,wr (r+v.getD (k+1) 0) ae ae];refine zu (fun c=>?_)<|fun c=>?_
   ·have c:=w6 c;have O:q-1<1000000000:=by
     rcases yk (q-1) 1000000000 with g|g
     ·exact g
     ·have a:=zl g (show 0<=v.getD (k+1) 0 by omega);have b:=zl D (show(0:Int)<=1000000000 by omega);omega
    refine exit (q-1) _ ae O A p ?_;have a:=zi (show v.getD k 0<=999999999 by omega) (show 0<=q-1 by omega);omega
   ·have c:=w7 c;exact Dx l e i t z v lo h a2 a1 a0 k j U I x W hr s F G w y M C D N m f (q-1) _ ae ae ae ae A p
  refine zo (Bq ..) ?_;conv=>zeta
  rw[e1,e2,e3,zg,zg,zg,g3];refine zu (fun c=>zc Z<|H ?_) (fun c=>zc (by simp;omega) (zc (by simp;omega)<|zc (by simp;omega)<|zu (fun d=>zc Z<|H ?_)<|fun d=>?_))
  ·have c:=w6 c;have:=zl c P;omega
  ·have c:=w7 c;have d:=w6 d;have a:=zi (show v.getD k 0<=999999999 by omega) h0;have b:=z6 h0 u.1;rw[wr (q*v.getD k 0) ae ae,wr (r*1000000000) ae ae,wr _ ae ae]at d;have:=VL (B:=zd) (u0:=h.getD (k+2) 0) (u1:=h.getD (k+1) 0) (u2:=h.getD k 0) V E n h0 (v1:=v.getD (k+1) 0) (v2:=v.getD k 0) (r:=r) X d;rw[<-hW, <-Y]at this;exact this
  ·have c:=w7 c;have d:=w7 d;have a:=zi (show v.getD k 0<=999999999 by omega) h0;have b:=z6 h0 u.1;rw[wr (q*v.getD k 0) ae ae,wr (r*1000000000) ae ae,wr _ ae ae]at d;exact exit q r h0 ae X S ae
end T147
theorem Hg{w:List Int}(c:AB zd w)(a:Sp.nz w){k:Nat}(b:w.length=k+1):0<w.getD k 0/\w.getD k 0<1000000000:=by
 have g:=Hp c k;refine⟨?_,g.2⟩;have e:w.getLast?=some (w.getD k 0):=by
  rw[List.getLast?_eq_getElem?,b,yr,zz,ye ae];rfl
 unfold Sp.nz at a;rw[e]at a;have:w.getD k 0≠0:=fun h=>a (by rw[h])
 omega
theorem ED(d:Int):ze zd [d]=d:=by simp[ze]
namespace T147
theorem A5(v:List Int)(k h:Nat)(f:Int)(Y:0<f/\f<1000000000)(C:v.length=k+2)(hla:h<=9000)(P:k+2<=h)(w:AB zd v)(H:1<=v.getD (k+1) 0)(T:Int)
  (hq:∀(u a:List Int) ob,AB zd u->AB zd a->ze zd u<ze zd v->T=ze zd u+ze zd v*ze zd a->Q (.tup [.dat li<|AA a,.dat li<|BW<|ze zd u/f]) ob):
  ∀(t:Nat) (u a:List Int),t+a.length=h-(k+2)+1->u.length=h+1->AB zd u->AB zd a->ze zd (u.drop t)<ze zd v->T=ze zd u+ze zd v*((zd:Int)^t*ze zd a)->
   Ends ND (L2 1 v ((k+2:Nat):Int) (h+1) (h-(k+2)+1) ((t:Int)-1) (zq t 0++a) u [f]) Q
 |0,u,a,hl,Z,x,y,o,S=>by
  have o:ze zd u<ze zd v:=o;have n:=BC (b:=zd) af w;rw[C]at n;have G:ze zd (u.drop<|k+2)=0:=Km (b:=zd) af x ae ae;have F:ze zd (u.take<|k+2)=ze zd u:=by
   rw[CA zd u (k+2) ae,G,qe,jf]
  have ht:(zq 0 0++a).take (h-(k+2)+1)=a:=by
   rw[List.replicate_zero,qk];exact zk ae
  have V:=Ig<|AT x<|k+2;have hlr:(AA<|u.take<|k+2).length<=9000:=by
   rw[FF<|AT x<|k+2];refine Nat.le_trans (OX (k:=k+2) (AJ af<|AT x<|k+2) ?_) ae;show ze zd (u.take<|k+2)<_;rw[F];omega
  have L:Ao (AA<|u.take<|k+2)=ze zd u:=by
   show ze zd (AA _)=_;rw[Kb,F]
  refine zo (Az ..) (zr (by simp) ?_);rw[zg,ht,L];refine zc (by simp;omega) (zc rfl (zc rfl (zc (by simp;omega)<|zc (Ab (Ab (LW ae V)<|w4 Y.1)<|w4 Y.2)<|zc (by simp;omega)<|zm<|hq u a _ x y o<|by rw[S,yf,ym])))
 |j+1,u,a,hl,Z,x,y,o,S=>by
  obtain⟨lo,r,rfl,p⟩:∃lo r:List Int,u=lo++r/\lo.length=j:=⟨u.take j,u.drop j,(yi j u).symm,by rw[zp];omega⟩;have J:AB zd lo:=fun d g=>x d<|List.mem_append.2<|.inl g
  have e:AB zd r:=fun d g=>x d<|List.mem_append.2<|.inr g
  have hrl:r.length=h+1-j:=by rw[yg]at Z;omega
  have m:∀z:List Int,(lo++z).drop j=z:=fun z=>by rw[<-p];exact List.drop_left
  have R:r=r.getD 0 0::r.drop 1:=by
   have:=CB (l:=r) (i:=0) ae;rw[List.drop_zero]at this;exact this
  have N:(lo++r).drop (j+1)=r.drop 1:=by rw[Nat.add_comm j 1,Nat.add_comm 1 j, <-List.drop_drop,m]
  rw[N]at o;have g0:=Hp e 0;have O:ze zd r=r.getD 0 0+1000000000*ze zd (r.drop 1):=by
   conv=>lhs;rw[R]
   rfl
  have n:=BC (b:=zd) af w;rw[C]at n;have hrV:ze zd r<1000000000*ze zd v:=by rw[O];omega
  have G:ze zd (r.drop<|k+3)=0:=by
   refine Km (b:=zd) af e ae ?_;have ep:(zd:Int)^(k+3)=(zd:Int)^(k+2)*1000000000:=zt ..;rw[ep];omega
  have gu0:=Hp e<|k+2;have gu1:=Hp e<|k+1;have gu2:=Hp e k;have gv1:=Hp w<|k+1;have M:=Hp w k;have hP:=AU (b:=zd) af k;have hW:=yN zd r k ae G;have hV:=yK zd v k C;have s:=BC (b:=zd) af<|AT e k;have X:=AJ (b:=zd) af<|AT w k;rw[zp,ql ae]at s;have W:r.getD (k+2) 0<=v.getD (k+1) 0:=by
   have a1:=CA zd (r.drop 1) (k+1) (by rw[zn];omega);have a2:(r.drop 1).drop (k+1)=r.getD (k+2) 0::r.drop (k+3):=by
    rw[List.drop_drop,show 1+(k+1)=k+2 by omega];exact CB ae
   have a3:ze zd (r.getD (k+2) 0::r.drop (k+3))=r.getD (k+2) 0:=by
    show r.getD (k+2) 0+(zd:Int)*ze zd (r.drop<|k+3)=_;rw[G];omega
   rw[a2,a3]at a1;have b1:ze zd v=ze zd (v.take<|k+1)+(zd:Int)^(k+1)*v.getD (k+1) 0:=by
    rw[<-AK,zk ae]
   have K:=BC (b:=zd) af<|AT w<|k+1;rw[zp,ql ae]at K;have c1:=AJ (b:=zd) af<|AT (Fg e 1)<|k+1;have c2:(zd:Int)^(k+1)*r.getD (k+2) 0<(zd:Int)^(k+1)*(v.getD (k+1) 0+1):=by
    rw[z8,y8];omega
   have:=yx c2 (zx<|AU af<|k+1);omega
  have D:∀(q:Int) (A:List Int),A.length=r.length->AB zd A->(0<=q/\q<1000000000)->ze zd A<ze zd v->ze zd A=ze zd r-q*ze zd v->Ends ND (L2 1 v ((k+2:Nat):Int) (h+1) (h-(k+2)+1) (zf .i64<|(j:Int)-1) ((zq (j+1) 0++a).set j q) (lo++A) [f]) Q:=by
   intro q A h1 h2 h3 h4 h5;have es:(zq (j+1) (0:Int)++a).set j q=zq j 0++(q::a):=by
    rw[List.replicate_succ',qg];exact DQ _ _ _ _ (by simp)
   rw[es,wr ((j:Int)-1) ae ae];refine A5 v k h f Y C hla P w H T hq j (lo++A) (q::a) (by simp;omega) (by simp;omega) (FI J h2) (fun d g=>?_) (by rw[m];exact h4) ?_
   ·rcases qo.1 g with rfl|g
    ·exact h3
    ·exact y d g
   ·rw[S,Dg,Dg,p,h5,KW];show ze zd lo+(zd:Int)^j*ze zd r+ze zd v*((zd:Int)^j*(1000000000*ze zd a))=ze zd lo+(zd:Int)^j*(ze zd r-q*ze zd v)+ze zd v*((zd:Int)^j*(q+1000000000*ze zd a));have x1:ze zd v*((zd:Int)^j*q)=(zd:Int)^j*(q*ze zd v):=by
     rw[qf,ya (ze zd v) q]
    rw[qi,z8 ((zd:Int)^j) q,z8<|ze zd v,x1];omega
  have e0:(((j+1:Nat):Int)-1)=(j:Int):=ae
  have L:zf .i64 ((j:Int)+((k+2:Nat):Int))=((k+2+j:Nat):Int):=by rw[wr _ ae ae];omega
  have e2:zf .i64 (((k+2+j:Nat):Int)-1)=((k+1+j:Nat):Int):=by rw[wr _ ae ae];omega
  have e3:zf .i64 (((k+2:Nat):Int)-1)=((k+1:Nat):Int):=by rw[wr _ ae ae];omega
  have g1:(lo++r).getD (k+2+j) 0=r.getD (k+2) 0:=HB _ _ _ _ p;have g2:(lo++r).getD (k+1+j) 0=r.getD (k+1) 0:=HB _ _ _ _ p;have U:(lo++r).length=h+1:=Z;have E:zf .i64 (zf .i64 (r.getD (k+2) 0*1000000000)+r.getD (k+1) 0)=r.getD (k+2) 0*1000000000+r.getD (k+1) 0:=by
   rw[wr (r.getD (k+2) 0*1000000000) ae ae];exact wr _ ae ae
  have c:0<=r.getD (k+2) 0*1000000000+r.getD (k+1) 0:=ae
  have I:0<=(r.getD (k+2) 0*1000000000+r.getD (k+1) 0)/v.getD (k+1) 0:=qv c ae;have hqs:(r.getD (k+2) 0*1000000000+r.getD (k+1) 0)/v.getD (k+1) 0<=r.getD (k+2) 0*1000000000+r.getD (k+1) 0:=Int.ediv_le_self _ c;have B:=yh (r.getD (k+2) 0*1000000000+r.getD (k+1) 0)<|v.getD (k+1) 0;have hm0:=yz (r.getD (k+2) 0*1000000000+r.getD (k+1) 0) (show v.getD (k+1) 0≠0 by omega);have hm1:=yq (r.getD (k+2) 0*1000000000+r.getD (k+1) 0) (show 0<v.getD (k+1) 0 by omega);rw[ya]at B;have et:zf .i64 (yo (r.getD (k+2) 0*1000000000+r.getD (k+1) 0)<|v.getD (k+1) 0)=(r.getD (k+2) 0*1000000000+r.getD (k+1) 0)/v.getD (k+1) 0:=by
   rw[zw c];exact wr _ ae ae
  have em:qm (r.getD (k+2) 0*1000000000+r.getD (k+1) 0) (v.getD (k+1) 0)=(r.getD (k+2) 0*1000000000+r.getD (k+1) 0) % v.getD (k+1) 0:=zy c;have K:(decide ((0:Int)<=((k+1:Nat):Int))&&decide (((k+1:Nat):Int)<((k+2:Nat):Int)))=true:=by simp;omega
  have bn:decide (v.getD (k+1) 0≠0)=true:=w4 ae;rw[e0];refine zo (Az ..) (zc (by simp) ?_);rw[C,L,e2,e3,zg,zg,zg,g1,g2,E,et,em,U];refine zc (by simp;omega) (zc (w4 ae) (zc (by simp;omega)<|zc (w4 ae)<|zc K<|zc bn<|zc K<|zc bn ?_));refine Dx 1 (h+1) (h-(k+2)+1) _ [f] v lo r _ _ _ k j C ae p ae ae ae ae (by simp;omega) w e G H W hrV D (((r.getD (k+2) 0*1000000000+r.getD (k+1) 0)/v.getD (k+1) 0).toNat+1) _ _ I ae ae ⟨hm0,by omega⟩ B ?_;rw[hW,hV];exact N6 hP af I X M.1 s gu2.2 B hm1
theorem Ar(a v:List Int)(n b:Nat)(f:Int)(j:a.length=b)(d:b<=9000)(g:n<=b)(k:∀u:List Int,u.length=b+1->AB zd u->ze zd u=ze zd a*f->Ends ND (L2 1 v n (b+1) (b-n+1) (((b-n+1:Nat):Int)-1) (zq (b-n+1) 0) u [f]) Q):
  ∀(m:Nat) (u:List Int),u.length+m=b+1->AB zd u->ze zd u=ze zd a*f->Ends ND (L1 a 1 v n u.length u [f]) Q
 |0,u,l,i,e=>by
  have h:zf .i64 ((a.length:Int)+1)=((b+1:Nat):Int):=by rw[wr _ ae ae];omega
  have p:zf .i64 ((u.length:Int)-(n:Int))=((b-n+1:Nat):Int):=by rw[wr _ ae ae];omega
  have o:zf .i64 (((b-n+1:Nat):Int)-1)=((b-n+1:Nat):Int)-1:=wr _ ae ae;refine zo (Ak ..) ?_;conv=>zeta
  rw[h,p,o,zg];refine zr (by simp;omega) (zc (by simp;omega) ?_);have c:u.length=b+1:=ae
  rw[c];exact k u c i e
 |m+1,u,l,i,e=>by
  have h:zf .i64 ((a.length:Int)+1)=((b+1:Nat):Int):=by rw[wr _ ae ae];omega
  refine zo (Ak ..) ?_;conv=>zeta
  rw[h];refine zc (by simp;omega) (zc (by simp;omega) ?_);have:=Ar a v n b f j d g k m (u++[0]) (by simp;omega) (F5 i af) (by rw[CC,qe,jf];exact e);rw[yg]at this;exact this
set_option maxHeartbeats 1000000 in
theorem ok:Af A4 147 SH:=by
 refine BD wV<|fun(i:List Int×List Int) E=>?_;obtain⟨a,b⟩:=i;have E:(Ba a&&Ba b&&decide (a.length<=9000)&&decide (b.length<=9000)&&decide (0<Ao b))=true:=E;rw[zh,zh,zh,zh,w5,w5,w5]at E;obtain⟨⟨⟨⟨na,nb⟩,la9⟩,lb9⟩,j⟩:=E;obtain⟨_,da,za⟩:=By na;obtain⟨_,db,zb⟩:=By nb;have j:0<ze zd b:=j;have p:=AJ (b:=zd) af da;have X:∀q r ob,q=BW (Ao a/Ao b)->r=BW (Ao a % Ao b)->Ac SH (a,b) (PV.tup [PV.dat li q,PV.dat li r]) ob:=fun q r ob G S=>yp rfl rfl (Prod.ext G S)
 have m:b≠[]:=by rintro rfl;simp[ze]at j
 have K:b.length≠0:=fun h=>m<|yb.1 h
 refine yj (Aj a b) (zc (by rw[na,nb];rfl)<|zu (fun c=>?_)<|fun c=>?_)
 ·have c:=w6 c;have t:ze zd a<ze zd b:=by
   unfold Cp at c;have c:(if ze zd a<ze zd b then(-1:Int)else if ze zd a>ze zd b then 1 else 0)<0:=c;split at c
   ·assumption
   ·split at c<;>omega
  refine zm<|yp rfl rfl ?_;show([],a)=(BW<|ze zd a/ze zd b,BW<|ze zd a % ze zd b);rw[Int.ediv_eq_zero_of_lt p t,Int.emod_eq_of_lt p t];exact Prod.ext rfl (Jf af da za)
 ·have c:=w7 c;have hge:ze zd b<=ze zd a:=by
   rcases yk (ze zd a) (ze zd b)with g|g
   ·have:Cp (Ao a) (Ao b)= -1:=wd g;omega
   ·exact g
  have hll:b.length<=a.length:=by
   rcases Nat.lt_or_ge a.length b.length with g|g
   ·have:=E8 (b:=zd) af da db zb g;omega
   ·exact g
  refine zu (fun s=>?_)<|fun s=>?_
  ·have s:b.length=1:=by
    have:(b.length:Int)=1:=by simpa using s
    omega
   obtain⟨d,rfl⟩:=List.length_eq_one_iff.1 s;have R:0<d/\d<1000000000:=Hg (k:=0) db zb rfl;have m0:=yz (ze zd a) (show d≠0 by omega);have m1:=yq (ze zd a) R.1;refine zc rfl (zc (Ab (Ab (LW ae da)<|w4 R.1)<|w4 R.2)<|zc rfl (zm<|X _ _ _ ?_ ?_))
   ·show BW (ze zd a/d)=BW (ze zd a/ze zd [d]);rw[ED]
   ·show AA [ze zd a % d]=BW (ze zd a % ze zd [d]);rw[ED,FF<|fun x o=>by rw[qn]at o;subst o;show 0<=_/\_<(1000000000:Int);omega];show BW (ze zd [_])=_;rw[ED]
  ·have s:b.length≠1:=by
    have:(b.length:Int)≠1:=by simpa using s
    omega
   obtain⟨k,C⟩:∃k,b.length=k+2:=⟨b.length-2,by omega⟩;obtain⟨y0,y1⟩:=Hg (k:=k+1) db zb C;have G:zf .i64 (((k+2:Nat):Int)-1)=((k+1:Nat):Int):=by rw[wr _ ae ae];omega
   have S:zf .i64 (b.getD (k+1) 0+1)=b.getD (k+1) 0+1:=wr _ ae ae;have f0:0<1000000000/(b.getD (k+1) 0+1):=by
    have:=Int.le_ediv_of_mul_le (a:=1) (b:=1000000000) (c:=b.getD (k+1) 0+1) ae ae;omega
   have f1:1000000000/(b.getD (k+1) 0+1)<1000000000:=Int.ediv_lt_of_lt_mul ae ae;have f2:1000000000/(b.getD (k+1) 0+1)*(b.getD (k+1) 0+1)<=1000000000:=Int.ediv_mul_le _ ae;have e3:zf .i64 (yo 1000000000<|b.getD (k+1) 0+1)=1000000000/(b.getD (k+1) 0+1):=by
    rw[zw af];exact wr _ ae ae
   rw[C,G,zg,S,e3];generalize 1000000000/(b.getD (k+1) 0+1)=f at*;have P:AB zd [f]:=fun x o=>by rw[qn]at o;subst o;show 0<=_/\_<(1000000000:Int);omega
   have H:Ao [f]=f:=ED f;rw[H];have N:(zd:Int)^(k+1)<=ze zd b*f:=by
    have a1:=DE (b:=zd) af db zb m;rw[C,show k+2-1=k+1 by omega]at a1;have a2:=zi (show 1<=f by omega)<|zx j;omega
   have J:ze zd b*f<(zd:Int)^(k+2):=by
    have b1:ze zd b=ze zd (b.take<|k+1)+(zd:Int)^(k+1)*b.getD (k+1) 0:=by
     rw[<-AK,zk ae]
    have b2:=BC (b:=zd) af<|AT db<|k+1;rw[zp,ql ae]at b2;have hp:=AU (b:=zd) af<|k+1;have b3:ze zd b<(zd:Int)^(k+1)*(b.getD (k+1) 0+1):=by
     rw[z8,y8];omega
    have b4:=yu b3 f0;have b5:=zi f2<|zx hp;have b6:(zd:Int)^(k+2)=(zd:Int)^(k+1)*1000000000:=zt ..;rw[yd,ya (b.getD (k+1) 0+1) f]at b4;omega
   have M:0<=ze zd b*f:=z6 (zx j) ae;have y:0<=ze zd a*f:=z6 p ae;have F:ze zd a*f<(zd:Int)^(a.length+1):=by
    have a1:=BC (b:=zd) af da;have a2:=yu a1 f0;have a3:=zi (show f<=1000000000 by omega) (zx<|AU (b:=zd) af a.length);have a4:(zd:Int)^(a.length+1)=(zd:Int)^a.length*1000000000:=zt ..;omega
   have vd:=Gg (b:=zd) af<|ze zd b*f;have vz:=Zn (b:=zd) af<|ze zd b*f;have D:ze zd (Sp.dg zd<|ze zd b*f)=ze zd b*f:=Dj af M;have W:=mH (b:=zd) af vd vz (k:=k+1) (by rw[D];exact N) (by rw[D];exact J);have v1:=(Hg vd vz W).1;have ud:=Gg (b:=zd) af<|ze zd a*f;have uv:ze zd (Sp.dg zd<|ze zd a*f)=ze zd a*f:=Dj af y;have U:=OX (k:=a.length+1) y F;have A:Sp.hR [f]=true:=Sl (by simp) P;have bd:decide ((3*(0+(BW<|Ao a*f).length)+2000)*8<=562949953421312)=true:=w4 (by have:(BW<|Ao a*f).length<=a.length+1:=U;omega);refine zc (by simp;omega) (zc (w4 ae)<|zc (by rw[Sl lb9 db,A];rfl)<|zc (by rw[Sl la9 da,A];rfl)<|zc bd ?_);have ez:jh 0 (BW<|Ao a*f).length=(BW<|Ao a*f).length:=Nat.zero_add _;have w:(BW<|Ao b*f).length=k+2:=W;rw[ez,qk,w];refine Ar a (BW<|Ao b*f) (k+2) a.length f rfl la9 ae (fun u L B O=>?_) (a.length+1-(BW<|Ao a*f).length) (BW<|Ao a*f) (by have:(BW<|Ao a*f).length<=a.length+1:=U;omega) ud uv;have z:=AU (b:=zd) af<|a.length-(k+2)+1;have start:ze zd (u.drop<|a.length-(k+2)+1)<ze zd (BW<|Ao b*f):=by
    have a1:=CA zd u (a.length-(k+2)+1) ae;have a2:=AJ (b:=zd) af<|AT B<|a.length-(k+2)+1;have a3:=BC (b:=zd) af da;have a4:=yu a3 f0;have a5:(zd:Int)^a.length=(zd:Int)^(a.length-(k+2)+1)*(zd:Int)^(k+1):=by rw[<-Int.pow_add,show a.length-(k+2)+1+(k+1)=a.length by omega]
    have Y:=DE (b:=zd) af db zb m;rw[C,show k+2-1=k+1 by omega]at Y;have a7:=zl Y (show 0<=f by omega);have a8:=zi a7<|zx z;rw[a5,yd]at a4;show _<ze zd (Sp.dg zd<|ze zd b*f);rw[D];refine yx (a:=(zd:Int)^(a.length-(k+2)+1)) ?_<|zx z;omega
   have go:=A5 (Q:=Ac SH (a,b)) (BW<|Ao b*f) k a.length f ⟨f0,f1⟩ w la9 ae vd (by have:0<(BW<|Ao b*f).getD (k+1) 0:=v1;omega) (ze zd a*f) (fun Z n ob v I l V=>by
    have T:ze zd (BW<|Ao b*f)=ze zd b*f:=D;rw[T]at V l;have e:ze zd Z=f*(ze zd a-ze zd n*ze zd b):=by
     have x1:ze zd b*f*ze zd n=f*(ze zd n*ze zd b):=by
      rw[ya (ze zd b) f,yd,ya<|ze zd b]
     rw[x1,ya<|ze zd a]at V;rw[qi];omega
    have h0:=AJ (b:=zd) af v;have r0:0<=ze zd a-ze zd n*ze zd b:=by
     rw[e]at h0;exact Int.nonneg_of_mul_nonneg_right h0 f0
    have r1:ze zd a-ze zd n*ze zd b<ze zd b:=by
     rw[e,ya (ze zd b) f]at l;exact yx l ae
    obtain⟨u1,u2⟩:=(yv (a:=ze zd a) (b:=ze zd b) (r:=ze zd a-ze zd n*ze zd b) (q:=ze zd n) j).2 ⟨by rw[ya<|ze zd b];omega,r0,r1⟩;refine X _ _ ob ?_ ?_
    ·rw[FF I];show BW (ze zd n)=BW (ze zd a/ze zd b);rw[u1]
    ·show BW (ze zd Z/f)=BW (ze zd a % ze zd b);rw[u2,e,Int.mul_ediv_cancel_left _ ae]) (a.length-(k+2)+1) u [] (by simp) L B (fun x o=>by cases o) start (by rw[O];simp[ze])
   rw[List.append_nil]at go;exact go
end T147
theorem vN:CE XG3:=Aa T147.ok Ay
namespace T141
theorem Ar(g:Nat)(L:Int)(c:∀n:Nat,(n:Int)<L->Ba (BW (n:Int))=true/\Ao (BW (n:Int))=n/\(BW (n:Int)).length<=9000)(d:∀ob,Q (.dat li<|BW (g:Int)) ob):∀(f x y:Nat),y<f->jg x y=g->(x:Int)<L->(y:Int)<L->
  Ends XG3 (L1 (BW (x:Int))<|BW (y:Int)) Q
 |0,x,y,h,_,_,_=>by omega
 |f+1,x,y,m,b,j,a=>by
  obtain⟨nx,k,i⟩:=c x j;obtain⟨ny,vy,ly⟩:=c y a
  refine zo (Ak ..) ?_;conv=>zeta
  by_cases h0:y=0
  ·subst h0;rw[Nat.gcd_zero_right]at b;subst b;exact zr rfl (zm<|d _)
  ·have e:x % y<y:=Nat.mod_lt _ ae;have l:(BW (y:Int)).length≠0:=by
    intro h;have:=yb.1 h;rw[this]at vy;simp[Ao,ze]at vy;omega
   rw[k,vy,WJ];refine zc (by simp;omega) (zc (Ab (Ab (Ab (Ab nx ny)<|w4 i)<|w4 ly)<|w4 ae) ?_);exact Ar g L c d f y (x % y) ae (by rw[qq, <-Nat.gcd_rec,qq];exact b) a ae
theorem Wm{a:List Int}(h:Ba a=true):a=BW (Ao a)/\0<=Ao a:=by
 obtain⟨_,d,z⟩:=By h;exact⟨Jf af d z,AJ af d⟩
theorem Yv(n:Nat)(h:(n:Int)<(zd:Int)^9000):Ba (BW (n:Int))=true/\Ao (BW (n:Int))=n/\(BW (n:Int)).length<=9000:=by
 obtain⟨a,_,b,c⟩:=Gk (n:=(n:Int)) (k:=9000) (Int.natCast_nonneg n) h af;exact⟨a,b,c⟩
theorem ok:Af A4 141 Mo:=by
 refine BD vN<|fun(i:List Int×List Int) c=>?_;obtain⟨a,b⟩:=i;have c:(Ba a&&Ba b&&decide (a.length<=9000)&&decide (b.length<=9000))=true:=c;rw[zh,zh,zh,w5,w5]at c;obtain⟨⟨⟨na,nb⟩,la9⟩,lb9⟩:=c;obtain⟨ea,a0⟩:=Wm na;obtain⟨eb,b0⟩:=Wm nb;have h:Ao a<(zd:Int)^9000:=z7 (BC (b:=zd) af (By na).2.1) (AP af la9);have g:Ao b<(zd:Int)^9000:=z7 (BC (b:=zd) af (By nb).2.1) (AP af lb9);have key:∀(x y:Nat),Ao a=x->Ao b=y->Ends XG3 (L1 a b) (Ac Mo (a,b)):=by
  intro x y d f;rw[ea,eb,d,f];rw[d]at h;rw[f]at g;refine Ar (jg x y) _ Yv (fun ob=>yp rfl rfl ?_) (y+1) x y (Nat.lt_succ_self _) rfl h g;have e:Sp.gI (Ao<|BW (x:Int)) (Ao<|BW (y:Int))=((jg x y:Nat):Int):=by
   rw[(Yv x h).2.1,(Yv y g).2.1,GC];rfl
  exact wi BW e.symm
 obtain⟨x,d⟩:=y9 a0;obtain⟨y,f⟩:=y9 b0;exact yj (Aj a b)<|key x y d f
end T141
theorem vS:CE cW:=
 Aa (HD ag<|Bg ag) (Aa (HD ag<|Bg ag)<|Aa (HD ag<|Bg ag)<|Aa (HD ag<|Bg ag) Ay)
theorem Ft:CE O7:=fun g sp h=>by cases h
namespace T236
theorem Afw:∀i:Fin 10,(DP.getD i.1 0).toNat<128:=af
theorem Fp(s:Z)(i:Nat)(o:List Bool)(c:i<10)(d:o.length=256)(h:Ends cW (L2 s DP DP ((i+1:Nat):Int)<|o.set (DP.getD i 0).toNat true) Q):Ends cW (L2 s DP DP (i:Int) o) Q:=by
 have b:DP.length=10:=rfl;have a:=Afw ⟨i,c⟩;have a:(DP.getD i 0).toNat<128:=a;have e:=wn (i:=i) ae;refine zo (Az ..) ?_;conv=>zeta
 rw[b,e,zg,zg];exact zc (w4 ae) (zc (ad ae ae) (zr (w8 ae) (zc (Ab (w4<|show(0:Int)<=((DP.getD i 0).toNat:Int)by omega)<|w4 ae)<|zc (w4 ae) h)))
def Tb(o:List Bool):Prop:=o.length=256/\∀c:UInt8,o.getD c.toNat false=B7 c
theorem CJ(s t v0:Z)(v4:Int)(i:List Bool)(f:Z)(o1 b:List Bool)(g p0:List Bool)(h:Tb g):∀(w:Z),(∀ob,Q (.dat .str<|w.dropWhile B7) ob)->Ends cW (L7 s t v0 v4 i f o1 b w g p0) Q
 |[],a=>zo (DW ..) (zr (by simp)<|zm<|a _)
 |c::r,a=>by
  have j:c.toNat<256:=c.toNat_lt;have k:(c::r).getD 0 0=c:=rfl;have e:(jc 1 (c::r)).take (y7 (c::r).length 1)=r:=by show r.take ((r.length+1)-1)=r;rw[yr];exact yc
  refine zo (DW ..) ?_;conv=>zeta
  rw[k,zg,h.2,h.1,e];refine zc (by simp) (zc (by simp)<|zc (Ab (w4<|show(0:Int)<=(c.toNat:Int)by omega)<|w4 ae) (zc (w4 j)<|zu (fun d=>?_)<|fun d=>zc (by simp) ?_))
  ·have d:B7 c=false:=by simpa using d
   rw[yn,wc<|by rw[d];decide]at a;exact zm<|a _
  ·have d:B7 c=true:=by simpa using d
   rw[yn,wd d]at a;exact CJ s t v0 v4 i f o1 b g p0 h r a
theorem Cb(s t v0:Z)(v4:Int)(h:List Bool)(o1 a:List Bool)(g:Tb o1):∀(n:Nat) (w:Z),w.length=n->n<=1000000->(∀ob,Q (.dat .str<|((w.reverse.dropWhile B7).reverse).dropWhile B7) ob)->Ends cW (L4 s t v0 v4 h w o1 a) Q
 |0,w,e,_,b=>by
  have:w=[]:=yb.1 e;subst this;exact zo (Ck ..) (zr (by simp)<|zo (HH ..)<|zr (by simp)<|zm<|b _)
 |n+1,w,e,l,b=>by
  obtain⟨p,c,rfl⟩:∃p c,w=p++[c]:=by
   have f:w≠[]:=by rintro rfl;simp at e
   exact⟨w.dropLast,w.getLast f,(qj f).symm⟩
  have hp:p.length=n:=by simpa using e
  have k:c.toNat<256:=c.toNat_lt;have i:zf .i64 (((p++[c]).length:Int)-1)=(n:Int):=by rw[e,wr _ ae ae];omega
  have j:(p++[c]).getD n 0=c:=D3 _ _ _ _ hp;have t1:(p++[c]).take n=p:=by rw[<-hp];exact List.take_left
  have hr:(p++[c]).reverse=c::p.reverse:=by simp
  rw[hr,yn]at b;refine zo (Ck ..) (zc (w4 ae) ?_);rw[i,zg,j,t1,zg,g.2,g.1,e];refine zc (by simp;omega) (zc (Ab (w4<|show(0:Int)<=(c.toNat:Int)by omega)<|w4 ae) (zc (w4 k)<|zu (fun d=>?_)<|fun d=>zc (by simp) ?_))
  ·have d:B7 c=false:=by simpa using d
   rw[wc (by rw[d];decide),List.reverse_cons,List.reverse_reverse]at b;exact CJ s t v0 v4 h _ o1 a o1 a g (p++[c]) b
  ·have d:B7 c=true:=by simpa using d
   rw[wd d]at b;exact Cb s t v0 v4 h o1 a g n p hp ae b
theorem Ae5{o:List Bool}(a:o.length=256)(b:∀c:Fin 256,o.getD c.1 false=(Nat.ble 48 c.1&&Nat.ble c.1 57)):Tb o:=by
 refine⟨a,fun c=>?_⟩;have:=b ⟨c.toNat,c.toNat_lt⟩;rw[show o.getD c.toNat false=_ from this];unfold B7;rw[Bool.eq_iff_iff];simp[Nat.ble_eq]
theorem ok:Af A4 236 XG:=by
 refine BD vS<|fun(i:Z×Z) a=>?_;obtain⟨s,t⟩:=i;have a:(decide (t=DP)&&decide (s.length<=1000000))=true:=a;rw[zh,w5,w5]at a;obtain⟨rfl,hl⟩:=a;have b:∀ob,Ac XG (s,DP) (.dat .str<|((s.reverse.dropWhile B7).reverse).dropWhile B7) ob:=fun ob=>yp rfl rfl rfl
 refine yj (Aj s DP) (zu (fun c=>?_)<|fun c=>zr af<|zr af ?_)
 ·have c:s=[]:=by simpa using c
  subst c;exact zm<|b _
 ·refine Fp s 0 _ af rfl (Fp s 1 _ af rfl (Fp s 2 _ af rfl (Fp s 3 _ af rfl (Fp s 4 _ af rfl (Fp s 5 _ af rfl (Fp s 6 _ af rfl (Fp s 7 _ af rfl (Fp s 8 _ af rfl (Fp s 9 _ af rfl ?_)))))))));refine zo (Az ..) (zr af<|zc (by decide+kernel) (zc (by decide+kernel)<|zc (by decide+kernel)<|zc rfl (Cb s _ _ _ _ _ _ (Ae5 rfl ?_) s.length s rfl hl b)));decide+kernel
end T236
theorem AaQ:CE XH1:=Aa T236.ok Ay
theorem dropWhile_nil{p:UInt8->Bool}:∀ {l:Z},l.dropWhile p=[]↔l.all p=true
 |[]=>by simp
 |a::l=>by
  rw[yn,yy];cases h:p a with
  |true=>simp only[wk,qh];exact dropWhile_nil
  |false=>simp
theorem IZ{p:UInt8->Bool}:∀ {l:Z} {a:UInt8} {r:Z},l.dropWhile p=a::r->p a=false
 |[],a,r,h=>by simp at h
 |b::l,a,r,h=>by
  rw[yn]at h;cases c:p b with
  |true=>rw[c,wd rfl]at h;exact IZ h
  |false=>
   rw[c]at h;simp at h;rw[<-h.1];exact c
theorem NR(s:Z):Rw s=[]↔Aq s=true:=by
 unfold Rw Aq;rw[dropWhile_nil,qp];constructor
 ·intro h;cases b:s.reverse.dropWhile B7 with
  |nil=>have:=dropWhile_nil.1 b;rwa [qp]at this
  |cons a r=>
   rw[b,yy,IZ b]at h;cases h
 ·intro h;have:s.reverse.dropWhile B7=[]:=dropWhile_nil.2 (by rwa [qp]);rw[this];rfl
theorem T201.ok:Af A4 201 YF:=by
 refine BD AaQ<|fun(s:Z) f=>?_;have f:s.length<=1000000:=w6 f;have a:∀v b ob,v=.bl b\/v=.dat .bool b->b=AX s->Ac YF s v ob:=by
  rintro v b ob (rfl|rfl) g
  ·exact yp rfl rfl g
  ·exact yp rfl rfl g
 refine yj (T201.Aj s)<|zu (fun c=>zc ?_<|zu (fun d=>zc ?_<|zu (fun e=>zm<|a _ _ _ (.inl rfl) ?_)<|fun e=>zm<|a _ _ _ (.inr rfl) ?_)<|fun d=>zm<|a _ _ _ (.inl rfl) ?_)<|fun c=>zm<|a _ _ _ (.inl rfl) ?_
 ·exact Ab (w4 rfl)<|w4 f
 ·have c:s≠[]:=by simpa using c
  have:s.length≠0:=fun h=>c<|yb.1 h
  exact w4 ae
 ·have c:s≠[]:=by simpa using c
  have d:Rw s=[]:=by simpa using d
  have d:=(NR s).1 d;have e:s.getD 0 0≠48:=by
   intro h;rw[h]at e;exact wh e af
  unfold AX;rw[d,w4 c,w4 e];rfl
 ·have c:s≠[]:=by simpa using c
  have d:Rw s=[]:=by simpa using d
  have d:=(NR s).1 d;have e:s.getD 0 0=48:=by
   have:((s.getD 0 0).toNat:Int)=48:=by simpa using e
   exact UInt8.toNat_inj.1 (by show _=48;omega)
  unfold AX;rw[d,w4 c,w8<|by rw[e];exact fun h=>h rfl];show(s==[48])=decide (s=[48]);rw[Bool.eq_iff_iff];simp
 ·have d:¬Rw s=[]:=by simpa using d
  have d:Aq s=false:=by
   cases h:Aq s with
   |true=>exact wh ((NR s).2 h) d
   |false=>rfl
  unfold AX;rw[d];simp
 ·have c:s=[]:=by simpa using c
  subst c;rfl
theorem T200.ok:Af A4 200 AbD:=by
 refine BD Ft<|fun(i:Z×Z) b=>?_;obtain⟨s,t⟩:=i;have b:(decide (t=[45])&&decide (s.length<=1000000))=true:=b;rw[zh,w5,w5]at b;obtain⟨rfl,hl⟩:=b;have a:s.getD 0 0≠45->(s,false)=(A6 s,Sp.preB s):=fun h=>by
  unfold A6 Sp.preB;rw[wc h,w8 h]
 refine yj (T200.Aj s [45]) ?_;conv=>zeta
 cases s with
 |nil=>exact zr af (zm<|yp rfl rfl (a af))
 |cons c r=>
  have f:(c::r).take 1=[c]:=rfl;refine zc (by simp;omega) (zc (by simp) ?_);show Ends O7 (.ite (!List.take 1 (c::r)==[45]) _ _) _;rw[f];refine zu (fun d=>zm<|yp rfl rfl (a ?_)) (fun d=>zc (by simp)<|zm<|yp rfl rfl ?_)
  ·show c≠45;rintro rfl;exact wh d af
  ·have d:c=45:=by simpa using d
   subst d;show(((jc 1 ((45:UInt8)::r)).take<|y7 ((45:UInt8)::r).length 1),true)=(A6 (45::r),Sp.preB (45::r));have e:(jc 1 ((45:UInt8)::r)).take (y7 ((45:UInt8)::r).length 1)=r:=by show r.take ((r.length+1)-1)=r;rw[yr];exact yc
   rw[e];rfl
theorem AcJ{F:Fz}{s:Z}{c:Int}{args:List V}(h:Na F (Ag [Sh.str,Sh.int .u8] (s,c)) args):args=[.str s,.int .u8 c]:=by
 have:=h (fun _=>none) 0;simp only[Ag,Cx,BJ]at this;obtain⟨a,g,rfl,d,b,f,rfl,e,rfl⟩:=this;simp only[PR,DC,List.cons.injEq,ve]at d e;rw[d,e]
theorem T280.ok:Af A4 280 Aa0:=by
 refine .inr ⟨PK.indexByte.run,by kernel_rfl,fun F h args i a hp=>?_⟩;obtain⟨s,c⟩:=i;have:=AcJ a;subst this;refine⟨VX<|s.findIdx? fun x=>x==c.toNat.toUInt8,rfl,fun ρ N=>?_⟩;show PR F ρ N (.dat i64<|QA s c) _;unfold QA;cases s.findIdx? fun x=>x==c.toNat.toUInt8 with
 |none=>simp[PR,DC,VX]
 |some i=>simp[PR,DC,VX,Det.i64]
theorem yZ:CE XH2:=Aa T280.ok Ay
theorem YU{p:UInt8->Bool}{s:Z}{i:Nat}(h:s.findIdx? p=some i):i<s.length:=(List.findIdx?_eq_some_iff_getElem.1 h).1
theorem T159.ok:Af A4 159 oN:=by
 refine BD yZ<|fun(i:Z×Z) e=>?_;obtain⟨s,t⟩:=i;have e:(decide (t=[47])&&decide (s.length<=1000000))=true:=e;rw[zh,w5,w5]at e;obtain⟨rfl,hl⟩:=e;have b:s.any (fun x=>x==47)=(s.findIdx? fun x=>x==47).isSome:=by
  rw[List.findIdx?_isSome]
 refine yj (T159.Aj s [47]) (zr af (zu (fun c=>?_)<|fun c=>zc af (zc af<|zc af ?_)))
 ·have c:s=[47]:=by
   have:[47]=s:=by simpa using c
   exact this.symm
  subst c;exact zc rfl (zc rfl (zc rfl (zm<|yp rfl rfl rfl)))
 ·have a:QA s (((([47]:Z).getD 0 0).toNat:Nat):Int)=match s.findIdx? (fun x=>x==47)with
   |some i=>(i:Int)
   |none=> -1:=rfl
  cases d:s.findIdx? (fun x=>x==47)with
  |none=>
   rw[d]at a;have a:QA s (((([47]:Z).getD 0 0).toNat:Nat):Int)= -1:=a;rw[a];refine zr af<|zm<|yp rfl rfl ?_;show(s,[],false)=(AD s,Sp.AV s,Bw s);unfold AD Sp.AV Bw;rw[b,d];rfl
  |some k=>
   rw[d]at a;have a:QA s (((([47]:Z).getD 0 0).toNat:Nat):Int)=(k:Int):=a;have h:=YU d;have f:zf .i64 ((k:Int)+(([47]:Z).length:Int))=((k+1:Nat):Int):=by
    show zf .i64 ((k:Int)+1)=_;rw[wr _ ae ae];omega
   rw[a,f,zg,zg];refine zc (by simp) (zc (by simp;omega)<|zc (by simp;omega)<|zm<|yp rfl rfl ?_);show(s.take k,(s.drop<|k+1).take<|y7 s.length<|k+1,true)=(AD s,Sp.AV s,Bw s);unfold AD Sp.AV Bw;have g:(s.drop<|k+1).take (y7 s.length<|k+1)=s.drop (k+1):=zk (by rw[zn];exact qc _);rw[b,d,g];rfl
namespace T142
theorem Ar{Q:PV->Ob->Prop}(s:Z)(b:Aq s=true)(l:s.length<=18)(e:∀ob,Q (.dat i64<|AI 0 s) ob):∀(r:Z) (i:Nat),s.drop i=r->i<=s.length->Ends tY (L1 s (AI 0<|s.take i) i) Q
 |[],i,h,f=>by
  have t:i=s.length:=drop_nil h f;subst t;rw[yc];exact zo (Ak ..) (zr (by simp)<|zm<|e _)
 |c::r,i,h,f=>by
  obtain⟨j,w,q⟩:=drop_cons (d:=0) h;have n:=Bk<|Bl b i;have a:(s.take i).length=i:=by rw[zp];omega
  rw[a]at n;have hp:(10:Int)^i<=10^17:=AP af ae;have v:B7 c=true:=by
   unfold Aq at b;rw[yw]at b;exact b c<|QI h
  have o:=Dm v;have k:48<=c.toNat/\c.toNat<=57:=by unfold Ir at o;omega
  have m:zf .i64 (c.toNat:Int)=(c.toNat:Int):=wr _ ae ae;have g:(10:Int)^17=100000000000000000:=af
  have p:zf .i64 (zf .i64 (zf .i64 (10*AI 0 (s.take i))+(c.toNat:Int))-48)=AI 0 (s.take<|i+1):=by
   rw[Nw h,Dd];show _=10*AI 0 (s.take i)+((c.toNat:Int)-48);generalize AI 0 (s.take i)=D at*;rw[wr (10*D) ae ae,wr (10*D+(c.toNat:Int)) ae ae,wr _ ae ae];omega
  have u:=wn (i:=i) ae;refine zo (Ak ..) (zc (by simp;omega) ?_);rw[zg,w,m,p,u];exact zc (by simp;omega)<|Ar s b l e r (i+1) q j
theorem ok:Af A4 142 Tt:=by
 refine BD Uj<|fun(s:Z) a=>?_;have a:(decide (s.length<=18)&&Aq s)=true:=a;rw[zh,w5]at a;exact yj (Aj s)<|Ar s a.2 a.1 (fun ob=>yp rfl rfl rfl) s 0 rfl (q9 _)
end T142
theorem xL:CE iB:=Aa T142.ok<|Aa T149.ok Ay
theorem MY{neg:Bool}{w:List Int}{D:Int}(d:AB zd w)(c:ze zd w=D):(CQ neg w,AA w)=(Sp.rN<|if neg=true then -D else D,Sp.rW<|if neg=true then -D else D):=by
 have h0:=AJ (b:=zd) af d;rw[c]at h0;have e:AA w=BW D:=by rw[FF d];show BW (ze zd w)=_;rw[c]
 have a:BW D=[]↔D=0:=rM af h0;have f:Ah (if neg=true then -D else D)=D:=by rw[Al];split<;>omega
 unfold CQ Sp.rW Sp.rN;rw[f,e];congr 1;cases neg with
 |false=>simp;omega
 |true=>
  simp only[wk,qh,wm,a,decide_eq_decide];omega
namespace T138
theorem AfS:(10:Int)^9=1000000000:=af
theorem J7{s:Z}{m:Nat}(a:m+9=s.length):AI 0 s=AI 0 (s.take m)*1000000000+AI 0 (s.drop m):=by
 conv=>lhs;rw[<-yi m s]
 rw[Dd,E9<|s.drop m,zn,show s.length-m=9 by omega,AfS]
theorem CR{s:Z}(a:Aq s=true)(h:s.length<=9):0<=AI 0 s/\AI 0 s<1000000000:=by
 have:=Bk a;have b:(10:Int)^s.length<=10^9:=AP af h;rw[AfS]at b;omega
theorem Co{s:Z}(a:Aq s=true)(h:s.length<=18):Ee s=true:=by
 unfold Ee;rw[a,Bool.and_true];exact w4 h
theorem Dx(neg:Bool)(D:Int)(h:∀(w:List Int) ob,AB zd w->ze zd w=D->Q (.agg [.dat .bool<|CQ neg w,.dat li<|AA w]) ob):∀(f:Nat) (s:Z) (o1:List Int),s.length<=f->Aq s=true->o1.length+s.length<=6000->AB zd o1->ze zd o1+(zd:Int)^o1.length*AI 0 s=D->Ends iB (L3 s neg o1.length o1) Q:=by
 intro f;induction f with
 |zero=>
  intro s o1 k a i c d;have e:s.length<=9:=ae
  have b:=CR a e;have g:(o1++[B2 s]).take (jh o1.length 1)=o1++[B2 s]:=zk (by simp);refine zo (Bq ..) (zr (by simp;omega) (zc (Co a ae)<|zc (by simp;omega) ?_));rw[g];refine zc (by simp;omega)<|zm<|h _ _ (F5 c b) ?_;rw[CC];exact d
 |succ f o=>
  intro s o1 k a i c d;by_cases e:s.length<=9
  ·have b:=CR a e;have g:(o1++[B2 s]).take (jh o1.length 1)=o1++[B2 s]:=zk (by simp);refine zo (Bq ..) (zr (by simp;omega) (zc (Co a ae)<|zc (by simp;omega) ?_));rw[g];refine zc (by simp;omega)<|zm<|h _ _ (F5 c b) ?_;rw[CC];exact d
  ·obtain⟨m,n⟩:∃m,m+9=s.length:=⟨s.length-9,by omega⟩;have j:zf .i64 ((s.length:Int)-9)=(m:Int):=by rw[wr _ ae ae];omega
   have l:(s.drop m).take (y7 s.length m)=s.drop m:=zk (by rw[zn];exact qc _);have b:=CR (Cd a m) (by rw[zn];omega);refine zo (Bq ..) (zc (by simp;omega) ?_);rw[j,zg,l];refine zc (by simp;omega) (zc (Co (Cd a m)<|by rw[zn];omega) (zc (by simp;omega)<|zc (by simp;omega) ?_));have:=o (s.take m) (o1++[B2<|s.drop m]) (by rw[zp];omega) (Bl a m) (by simp;omega) (F5 c b) (by
    rw[CC,yg];show ze zd o1+(zd:Int)^o1.length*AI 0 (s.drop m)+(zd:Int)^(o1.length+1)*AI 0 (s.take m)=D;rw[KW,je, <-z8, <-d,J7 n];congr 2;omega)
   rw[yg]at this;exact this
theorem Cb(D:Int)(h:∀(w:List Int) ob,AB zd w->ze zd w=D->Q (.agg [.dat .bool<|CQ false w,.dat li<|AA w]) ob):∀(f:Nat) (s:Z) (o1:List Int),s.length<=f->Aq s=true->o1.length+s.length<=6000->AB zd o1->ze zd o1+(zd:Int)^o1.length*AI 0 s=D->Ends iB (L4 s o1.length o1) Q:=by
 intro f;induction f with
 |zero=>
  intro s o1 k a i c d;have e:s.length<=9:=ae
  have b:=CR a e;have g:(o1++[B2 s]).take (jh o1.length 1)=o1++[B2 s]:=zk (by simp);refine zo (Ck ..) (zr (by simp;omega)<|zc (Co a ae) (zc (by simp;omega) ?_));rw[g];refine zc (by simp;omega)<|zm<|h _ _ (F5 c b) ?_;rw[CC];exact d
 |succ f o=>
  intro s o1 k a i c d;by_cases e:s.length<=9
  ·have b:=CR a e;have g:(o1++[B2 s]).take (jh o1.length 1)=o1++[B2 s]:=zk (by simp);refine zo (Ck ..) (zr (by simp;omega)<|zc (Co a ae) (zc (by simp;omega) ?_));rw[g];refine zc (by simp;omega)<|zm<|h _ _ (F5 c b) ?_;rw[CC];exact d
  ·obtain⟨m,n⟩:∃m,m+9=s.length:=⟨s.length-9,by omega⟩;have j:zf .i64 ((s.length:Int)-9)=(m:Int):=by rw[wr _ ae ae];omega
   have l:(s.drop m).take (y7 s.length m)=s.drop m:=zk (by rw[zn];exact qc _);have b:=CR (Cd a m) (by rw[zn];omega);refine zo (Ck ..) (zc (by simp;omega) ?_);rw[j,zg,l];refine zc (by simp;omega) (zc (Co (Cd a m)<|by rw[zn];omega) (zc (by simp;omega)<|zc (by simp;omega) ?_));have:=o (s.take m) (o1++[B2<|s.drop m]) (by rw[zp];omega) (Bl a m) (by simp;omega) (F5 c b) (by
    rw[CC,yg];show ze zd o1+(zd:Int)^o1.length*AI 0 (s.drop m)+(zd:Int)^(o1.length+1)*AI 0 (s.take m)=D;rw[KW,je, <-z8, <-d,J7 n];congr 2;omega)
   rw[yg]at this;exact this
theorem Ar(neg:Bool)(s:Z)(a:Aq s=true)(i:s.length<=5999)(d:∀(w:List Int) ob,AB zd w->ze zd w=AI 0 s->Q (.agg [.dat .bool<|CQ neg w,.dat li<|AA w]) ob):Ends iB (L1 s neg) Q:=by
 by_cases e:s.length<=9
 ·have b:=CR a e;refine zo (Ak ..) (zr (by simp;omega)<|zc (Co a ae) (zc rfl (zc rfl (zm<|d _ _ (F5 (l:=[]) (fun x c=>by cases c) b) ?_))));show ze zd [AI 0 s]=_;exact ED _
 ·obtain⟨m,g⟩:∃m,m+9=s.length:=⟨s.length-9,by omega⟩;have f:zf .i64 ((s.length:Int)-9)=(m:Int):=by rw[wr _ ae ae];omega
  have h:(s.drop m).take (y7 s.length m)=s.drop m:=zk (by rw[zn];exact qc _);have b:=CR (Cd a m) (by rw[zn];omega);refine zo (Ak ..) (zc (by simp;omega) ?_);rw[f,zg,h];refine zc (by simp;omega) (zc (Co (Cd a m)<|by rw[zn];omega)<|zc rfl (zc (by simp;omega) ?_));refine Dx neg (AI 0 s) d m (s.take m) [B2<|s.drop m] (by rw[zp];omega) (Bl a m) (by simp;omega) (F5 (l:=[]) (fun x c=>by cases c) b) ?_;rw[ED,J7 g];show AI 0 (s.drop m)+(zd:Int)^1*_=_;rw[zt,yf,ym,ya];exact Int.add_comm _ _
theorem A5(s:Z)(a:Aq s=true)(i:s.length<=5999)(d:∀(w:List Int) ob,AB zd w->ze zd w=AI 0 s->Q (.agg [.dat .bool<|CQ false w,.dat li<|AA w]) ob):Ends iB (L2 s) Q:=by
 by_cases e:s.length<=9
 ·have b:=CR a e;refine zo (Az ..) (zr (by simp;omega)<|zc (Co a ae) (zc rfl (zc rfl (zm<|d _ _ (F5 (l:=[]) (fun x c=>by cases c) b) ?_))));show ze zd [AI 0 s]=_;exact ED _
 ·obtain⟨m,g⟩:∃m,m+9=s.length:=⟨s.length-9,by omega⟩;have f:zf .i64 ((s.length:Int)-9)=(m:Int):=by rw[wr _ ae ae];omega
  have h:(s.drop m).take (y7 s.length m)=s.drop m:=zk (by rw[zn];exact qc _);have b:=CR (Cd a m) (by rw[zn];omega);refine zo (Az ..) (zc (by simp;omega) ?_);rw[f,zg,h];refine zc (by simp;omega) (zc (Co (Cd a m)<|by rw[zn];omega) (zc rfl (zc (by simp;omega) ?_)));refine Cb (AI 0 s) d m (s.take m) [B2<|s.drop m] (by rw[zp];omega) (Bl a m) (by simp;omega) (F5 (l:=[]) (fun x c=>by cases c) b) ?_;rw[ED,J7 g];show AI 0 (s.drop m)+(zd:Int)^1*_=_;rw[zt,yf,ym,ya];exact Int.add_comm _ _
theorem ok:Af A4 138 O5:=by
 refine BD xL<|fun(s:Z) a=>?_;have a:(decide (s.length<=5999)&&(if s.getD 0 0=45 then Aq (s.drop 1)else Aq s))=true:=a;rw[zh,w5]at a;obtain⟨g,a⟩:=a;have fin:∀(neg:Bool) (D:Int),BS s=(if neg=true then -D else D)->∀(w:List Int) ob,AB zd w->ze zd w=D->Ac O5 s (.agg [.dat .bool<|CQ neg w,.dat li<|AA w]) ob:=by
  intro neg D hr w ob i h;refine yp rfl rfl ?_;show(CQ neg w,AA w)=(Sp.rN<|BS s,Sp.rW<|BS s);rw[hr];exact MY i h
 refine yj (Aj s) ?_;conv=>zeta
 cases s with
 |nil=>exact zr af (A5 [] rfl af (fin false 0 rfl))
 |cons c r=>
  have f:(c::r).getD 0 0=c:=rfl;rw[f]at a;rw[f];refine zc (by simp) (zc (by simp)<|zu (fun d=>?_)<|fun d=>?_)
  ·have b:c=45:=by
    have:(c.toNat:Int)=45:=by simpa using d
    exact UInt8.toNat_inj.1 (by show _=45;omega)
   rw[wd b]at a;have e:(jc 1 (c::r)).take (y7 (c::r).length 1)=r:=by show r.take ((r.length+1)-1)=r;rw[yr];exact yc
   rw[d,e];refine zc (by simp) (Ar true r a (by simp at g;omega)<|fin true _ ?_);unfold BS;rw[f,wd b,wd rfl];rfl
  ·have b:c≠45:=by
    rintro rfl;exact wh d af
   rw[wc b]at a;rw[d];refine Ar false (c::r) a g<|fin false _ ?_;unfold BS;rw[f,wc b,wc af]
end T138
theorem uZ:CE R2:=
 Aa T68n.ok (Aa T199.ok<|Aa T125.ok<|Aa T124.ok<|Aa T162.ok<|Aa (HD ag<|Bg ag)<|Aa (HD ag<|Bg ag) Ay)
theorem TF(k:Nat):Fa 18 (k:Int)=((min 18 k:Nat):Int):=by unfold Fa;split<;>omega
theorem Abz(n:Int):zf .u8 n=n % 256:=by simp[zf,IntKind.bits,IntKind.signed]
theorem jP(k:Nat):(10:Int)^k<=(Ap:Int)^k:=by
 induction k with
 |zero=>exact qz _
 |succ k c=>
  rw[zt,zt];have a:=zl c (show(0:Int)<=10 by decide);have d:=zi (show(10:Int)<=(Ap:Int)by decide) (zx<|AU (b:=Ap) af k);exact Int.le_trans a d
theorem Hc{n:Int}(h0:0<=n)(h:n<(10:Int)^(6000:Nat)):Bd (Dh n)=true:=by
 refine Eb ?_;have a:=jP 6000;have c:(Ap:Int)^6000<=(Ap:Int)^9000:=AP af af;have b:Ah n=n:=by rw[Al];omega
 rw[b];exact z7 h<|Int.le_trans a c
theorem Pd(m n:Int):Fx (C9 m,C8 m) (C9 n,C8 n)=C9 (m*n)/\Fy (C9 m,C8 m) (C9 n,C8 n)=C8 (m*n):=by
 constructor
 ·show C9 (zj (Dh _)*zj (Dh _))=_;rw[CP,CP]
 ·show C8 (zj (Dh _)*zj (Dh _))=_;rw[CP,CP]
theorem xC{a b:AM}(h:0<=zj a+zj b):EW a b=Dh (zj a+zj b):=by
 unfold EW;split
 ·next c=>
  have:=EN c.2.2;rw[Bv c.1,Bv c.2.1]at h ⊢;exact(Cm ae).symm
 ·rfl
theorem O3{m v:Int}(f:0<=m)(e:0<=v):KO (C9 m,C8 m) (v,BL v)=C9 (m+v)/\KR (C9 m,C8 m) (v,BL v)=C8 (m+v):=by
 have c:zj (C9 m,C8 m)=m:=CP m;have d:zj (v,BL v)=v:=by rw[D7,Fc]
 have:=xC (a:=(C9 m,C8 m)) (b:=(v,BL v)) (by rw[c,d];omega);rw[c,d]at this;exact⟨wi Prod.fst this,wi Prod.snd this⟩
theorem Pf(n:Nat):WO ((10:Int),BL (10:Int)) (n:Int)=C9 (10^n)/\VQ ((10:Int),BL (10:Int)) (n:Int)=C8 (10^n):=by
 have e:Sp.pI (zj ((10:Int),BL (10:Int))) (n:Int)=10^n:=by rw[Ug,D7,Fc,zg]
 unfold WO VQ;rw[e];exact⟨rfl,rfl⟩
theorem oA:Bd ((10:Int),BL (10:Int))=true:=by rw[D7];decide
theorem jG{n:Nat}(h:n<=18):nQ (zj ((10:Int),BL (10:Int))) (n:Int)=true:=by
 unfold nQ;have e:Sp.pI (zj ((10:Int),BL (10:Int))) (n:Int)=10^n:=by rw[Ug,D7,Fc,zg]
 rw[e];have a:(10:Int)^n<=10^18:=AP af h;have h0:(0:Int)<10^n:=AU af n;have d:(10:Int)^18<18446744073709551616^1:=af
 have b:(18446744073709551616:Int)^(1:Nat)<=18446744073709551616^(4000:Nat):=AP af af;have c:Ah ((10:Int)^n)=10^n:=by rw[Al];omega
 rw[c];exact Ab (ad ae ae)<|w4<|yt a<|z7 d b
theorem W9{v:Int}(h0:0<=v)(h:v<1000000000000000000):Bd (v,BL v)=true:=by
 rw[D7];unfold Bd;exact Ab (Mt<|D8 ae ae)<|w4<|q9 _
theorem Zt{w:Z}(a:Aq w=true)(h:w.length<=18):0<=AI 0 w/\AI 0 w<1000000000000000000:=by
 have:=Bk a;have c:(10:Int)^w.length<=10^18:=AP af h;have b:(10:Int)^18=1000000000000000000:=af
 omega
namespace T160
theorem CJ(W:Z)(neg:Bool)(z:Int)(k:List Int)(x:Int)(w:Z)(n:Nat)(l:w=W.take n)(hW:Aq W=true)(B:n=min 18 W.length)(C:1<=W.length)(a f:Int)(a0:0<=a)(y:Bd (Dh a)=true)(g:Bd (Dh<|a*10^n)=true)
  (o:Ends R2 (L5 (W.drop n) neg (C9<|a*10^n+AI 0 w) (C8<|a*10^n+AI 0 w) f) Q):
  ∀(r:Z) (j:Nat),w.drop j=r->j<=w.length->Ends R2 (L7 W neg z k x w (AI 0<|w.take j) w.length w.length j (w.map fun b=>(b.toNat:Int)) (C9 a) (C8 a) f) Q
 |[],j,hr,h=>by
  have e:Aq w=true:=by rw[l];exact Bl hW n
  have m:w.length=n:=by rw[l,zp];omega
  have H:j=w.length:=drop_nil hr h;subst H;have p:=Zt e ae;obtain⟨c,t,L⟩:∃c t,w=c::t:=by
   cases w with
   |nil=>simp at m;omega
   |cons c t=>exact⟨c,t,rfl⟩
  have s:((((w.getD 0 0).toNat:Int)==(45:Int))=false):=by
   rw[L]at e ⊢;unfold Aq at e;rw[yy,zh]at e;have:=Dm e.1;unfold Ir at this;show(((c.toNat:Int)==(45:Int))=false);simp;omega
  have S:(W.drop n).take (y7 W.length n)=W.drop n:=zk (by rw[zn];exact qc _);have p0:0<=a*10^n:=z6 a0 (zx<|AU af n);have N:Bd (C9<|10^n,C8<|10^n)=true:=by
   refine Gw (Hc (n:=(10:Int)^n) (zx<|AU af n) ?_);have J:(10:Int)^n<=10^18:=AP af ae;have G:(10:Int)^18<10^19:=af
   have O:(10:Int)^19<=10^(6000:Nat):=AP af af;exact yt J<|z7 G O
  refine zo (DW ..) (zr (by simp)<|zc (w4 ae) ?_);rw[s,TF, <-B,(Pf n).1,(Pf n).2,yc];refine zr rfl (zc rfl (zc (Ab oA<|jG ae)<|zc (Ab y N)<|zc rfl ?_));rw[(Pd _ _).1,(Pd _ _).2,(O3 p0 p.1).1,(O3 p0 p.1).2,zg,S];exact zc (Ab g<|W9 p.1 p.2) (zc (by simp;omega) o)
 |c::r,j,hr,h=>by
  have e:Aq w=true:=by rw[l];exact Bl hW n
  have m:w.length=n:=by rw[l,zp];omega
  obtain⟨v,I,T⟩:=drop_cons (d:=0) hr;have u:B7 c=true:=by
   unfold Aq at e;rw[yw]at e;exact e c<|QI hr
  have P:=Dm u;have q:(w.take j).length=j:=by rw[zp];omega
  have F:=Bk<|Bl e j;rw[q]at F;have hp:(10:Int)^j<=10^17:=AP af ae;have A:(10:Int)^17=100000000000000000:=af
  have M:(w.map fun b=>(b.toNat:Int)).getD j 0=(c.toNat:Int):=by
   rw[zz,List.getElem?_map,ye v];have:w[j]=c:=by rw[<-I,zz,ye v];rfl
   rw[this];rfl
  have E:zf .u8 ((c.toNat:Int)-48)=Ir c:=by
   rw[Abz];unfold Ir at P ⊢;omega
  have R:zf .i64 (zf .i64 (AI 0 (w.take j)*10)+zf .i64 (Ir c))=AI 0 (w.take<|j+1):=by
   rw[Nw hr,Dd];show _=10*AI 0 (w.take j)+Ir c;generalize AI 0 (w.take j)=D at*;rw[wr (D*10) ae ae,wr (Ir c) ae ae,wr _ ae ae];omega
  have K:=wn (i:=j) ae;refine zo (DW ..) (zc (by simp;omega) ?_);rw[zg,M,E,R,K];refine zc (by simp;omega) (zc (by simp;omega)<|zr (w8 ae) ?_);exact CJ W neg z k x w n l hW B C a f a0 y g o r (j+1) T v
theorem Dx(W:Z)(neg:Bool)(y:Int)(x:Int)(w:Z)(n:Nat)(k:w=W.take n)(hW:Aq W=true)(A:n=min 18 W.length)(B:1<=W.length)(a f:Int)(q:a=0)(a0:0<=a)(G:Bd (Dh a)=true)(g:Bd (Dh<|a*10^n)=true)
  (m:Ends R2 (L5 (W.drop n) neg (C9<|a*10^n+AI 0 w) (C8<|a*10^n+AI 0 w) f) Q):
  ∀(r:Z) (j:Nat),w.drop j=r->j<=w.length->Ends R2 (L3 W neg y x w (AI 0<|w.take j) w.length w.length j (w.map fun b=>(b.toNat:Int)) 0 f) Q
 |[],j,hr,h=>by
  have e:Aq w=true:=by rw[k];exact Bl hW n
  have l:w.length=n:=by rw[k,zp];omega
  have H:j=w.length:=drop_nil hr h;subst H;have o:=Zt e ae;obtain⟨c,t,L⟩:∃c t,w=c::t:=by
   cases w with
   |nil=>simp at l;omega
   |cons c t=>exact⟨c,t,rfl⟩
  have s:((((w.getD 0 0).toNat:Int)==(45:Int))=false):=by
   rw[L]at e ⊢;unfold Aq at e;rw[yy,zh]at e;have:=Dm e.1;unfold Ir at this;show(((c.toNat:Int)==(45:Int))=false);simp;omega
  have S:(W.drop n).take (y7 W.length n)=W.drop n:=zk (by rw[zn];exact qc _);have p0:0<=a*10^n:=z6 a0 (zx<|AU af n);have N:Bd (C9<|10^n,C8<|10^n)=true:=by
   refine Gw (Hc (n:=(10:Int)^n) (zx<|AU af n) ?_);have J:(10:Int)^n<=10^18:=AP af ae;have F:(10:Int)^18<10^19:=af
   have O:(10:Int)^19<=10^(6000:Nat):=AP af af;exact yt J<|z7 F O
  refine zo (Bq ..) (zr (by simp) (zc (w4 ae) ?_));rw[s,TF, <-A,(Pf n).1,(Pf n).2,yc];refine zr rfl (zc rfl (zc (Ab oA<|jG ae)<|zc (Ab (show Bd ((0:Int),[])=true by decide) N)<|zc rfl ?_));rw[show Fx ((0:Int),[]) (C9<|10^n,C8<|10^n)=C9 (a*10^n)by rw[q];exact(Pd 0 _).1,show Fy ((0:Int),[]) (C9<|10^n,C8<|10^n)=C8 (a*10^n)by rw[q];exact(Pd 0 _).2,(O3 p0 o.1).1,(O3 p0 o.1).2,zg,S];exact zc (Ab g<|W9 o.1 o.2) (zc (by simp;omega) m)
 |c::r,j,hr,h=>by
  have e:Aq w=true:=by rw[k];exact Bl hW n
  have l:w.length=n:=by rw[k,zp];omega
  obtain⟨v,I,T⟩:=drop_cons (d:=0) hr;have u:B7 c=true:=by
   unfold Aq at e;rw[yw]at e;exact e c<|QI hr
  have P:=Dm u;have p:(w.take j).length=j:=by rw[zp];omega
  have E:=Bk<|Bl e j;rw[p]at E;have hp:(10:Int)^j<=10^17:=AP af ae;have z:(10:Int)^17=100000000000000000:=af
  have M:(w.map fun b=>(b.toNat:Int)).getD j 0=(c.toNat:Int):=by
   rw[zz,List.getElem?_map,ye v];have:w[j]=c:=by rw[<-I,zz,ye v];rfl
   rw[this];rfl
  have C:zf .u8 ((c.toNat:Int)-48)=Ir c:=by
   rw[Abz];unfold Ir at P ⊢;omega
  have R:zf .i64 (zf .i64 (AI 0 (w.take j)*10)+zf .i64 (Ir c))=AI 0 (w.take<|j+1):=by
   rw[Nw hr,Dd];show _=10*AI 0 (w.take j)+Ir c;generalize AI 0 (w.take j)=D at*;rw[wr (D*10) ae ae,wr (Ir c) ae ae,wr _ ae ae];omega
  have K:=wn (i:=j) ae;refine zo (Bq ..) (zc (by simp;omega) ?_);rw[zg,M,C,R,K];refine zc (by simp;omega) (zc (by simp;omega) (zr (w8 ae) ?_));exact Dx W neg y x w n k hW A B a f q a0 G g m r (j+1) T v
theorem xY(W:Z)(neg:Bool)(o1:Int)(d:List Int)(f:Int)(hW:Aq W=true)(k:1<=W.length)(n:Nat)(j:n=min 18 W.length)
  (h:Ends R2 (L7 W neg o1 d f (W.take n) 0 (W.take n).length (W.take n).length 0 ((W.take n).map fun b=>(b.toNat:Int)) o1 d f) Q):Ends R2 (L5 W neg o1 d f) Q:=by
 have e:(W.take n).length=n:=by rw[zp];omega
 have a:=Bl hW n;have i:((((W.take n).getD 0 0).toNat:Int)==(45:Int))=false/\((((W.take n).getD 0 0).toNat:Int)==(43:Int))=false:=by
  cases g:W.take n with
  |nil=>rw[g]at e;simp at e;omega
  |cons c t=>
   rw[g]at a;unfold Aq at a;rw[yy,zh]at a;have:=Dm a.1;unfold Ir at this;show(((c.toNat:Int)==(45:Int))=false)/\(((c.toNat:Int)==(43:Int))=false);constructor<;>(simp;omega)
 refine zo (EF ..) (zc (by simp;omega) ?_);rw[TF, <-j,zg,i.1,i.2];exact zc (by simp;omega) (zc (w4 ae) (zc (w4 ae)<|zc (w4 ae) (zr rfl (zc (w4 ae)<|zr rfl h))))
theorem vU(W:Z)(neg:Bool)(o1:Int)(e:Int)(hW:Aq W=true)(j:1<=W.length)(n:Nat)(i:n=min 18 W.length)
  (h:Ends R2 (L3 W neg o1 e (W.take n) 0 (W.take n).length (W.take n).length 0 ((W.take n).map fun b=>(b.toNat:Int)) o1 e) Q):Ends R2 (L1 W neg o1 e) Q:=by
 have d:(W.take n).length=n:=by rw[zp];omega
 have a:=Bl hW n;have f:((((W.take n).getD 0 0).toNat:Int)==(45:Int))=false/\((((W.take n).getD 0 0).toNat:Int)==(43:Int))=false:=by
  cases g:W.take n with
  |nil=>rw[g]at d;simp at d;omega
  |cons c t=>
   rw[g]at a;unfold Aq at a;rw[yy,zh]at a;have:=Dm a.1;unfold Ir at this;show(((c.toNat:Int)==(45:Int))=false)/\(((c.toNat:Int)==(43:Int))=false);constructor<;>(simp;omega)
 refine zo (Ak ..) (zc (by simp;omega) ?_);rw[TF, <-i,zg,f.1,f.2];exact zc (by simp;omega) (zc (w4 ae)<|zc (w4 ae) (zc (w4 ae)<|zr rfl (zc (w4 ae)<|zr rfl h)))
theorem AcD(n:Int)(h:0<=n):(E0 (C9 n,C8 n),E1 (C9 n,C8 n))=Dh (-n):=by
 show DA (Dh n)=_;unfold DA;split
 ·next c=>
  have:=CP n;rw[Bv c.1]at this;rw[this,Cm (n:= -n)];by_cases a: -9223372036854775808<n/\n<9223372036854775808
  ·omega
  ·exfalso;have e:Dh n=(1,BF<|Ah n):=by unfold Dh;rw[wc a,wc ae]
   rw[e]at this;have:(1:Int)=n:=this;omega
 ·rw[CP]
theorem ZI{a D:Int}{W:Z}{n:Nat}(b:0<=a)(hW:Aq W=true)(i:n<=W.length)(h:a*10^W.length+AI 0 W=D):(a*10^n+AI 0 (W.take n))*10^(W.drop n).length+AI 0 (W.drop n)=D/\a<=D/\a*10^n<=D:=by
 have e:AI 0 W=AI 0 (W.take n)*10^(W.drop n).length+AI 0 (W.drop n):=by
  conv=>lhs;rw[<-yi n W]
  rw[Dd,E9]
 have c:W.length=n+(W.drop n).length:=by rw[zn];omega
 have hp:(10:Int)^W.length=10^n*10^(W.drop n).length:=by rw[<-Int.pow_add, <-c]
 have f:=(Bk hW).1;have d:a*10^W.length=a*10^n*10^(W.drop n).length:=by rw[hp,yd]
 have one:∀k:Nat,(1:Int)<=10^k:=fun k=>by have:=AU (show(0:Int)<10 by decide) k;omega
 have l1:a<=a*10^W.length:=by have:=zi (one W.length) b;omega
 have g:a*10^n<=a*10^n*10^(W.drop n).length:=by
  have:=zi (one (W.drop n).length) (z6 b (show(0:Int)<=10^n by have:=one n;omega));omega
 refine⟨?_,by omega,by omega⟩;rw[qy, <-d];omega
theorem CX(neg:Bool)(h D:Int)(b:D<(10:Int)^(6000:Nat))(g:∀ob,Q (.agg [.dat i64<|C9<|if neg=true then -D else D,.dat (.nlist u64)<|C8<|if neg=true then -D else D]) ob):∀(f:Nat) (W:Z) (a:Int),W.length<f->W.length<=6000->0<=a->Aq W=true->a*10^W.length+AI 0 W=D->Ends R2 (L5 W neg (C9 a) (C8 a) h) Q
 |0,W,a,m,_,_,_,_=>by omega
 |f+1,W,a,m,q,e,hW,i=>by
  cases d:W with
  |nil=>
   subst d;have i:a=D:=by rw[<-i];simp[AI]
   subst i;have j:=Hc e b;refine zo (EF ..) (zr (by simp)<|zu (fun c=>zc (Cf j).1<|zm ?_)<|fun c=>zm ?_)
   ·have:=AcD a e;rw[c,wd rfl]at g;have r:E0 (C9 a,C8 a)=C9 (-a):=wi Prod.fst this;have p:E1 (C9 a,C8 a)=C8 (-a):=wi Prod.snd this;rw[r,p];exact g _
   ·rw[c,wc af]at g;exact g _
  |cons c t=>
   rw[<-d];have k:1<=W.length:=by rw[d];simp
   obtain⟨l,o,s⟩:=ZI (n:=min 18 W.length) e hW ae i;have u:=(Bk<|Bl hW<|min 18 W.length).1;have hp:0<=a*10^(min 18 W.length):=z6 e (zx<|AU af _);refine xY W neg _ _ h hW k _ rfl (CJ W neg _ _ h _ _ rfl hW rfl k a h e (Hc e<|yt o b) (Hc hp<|yt s b) ?_ _ 0 rfl (q9 _));exact CX neg h D b g f (W.drop<|min 18 W.length) _ (by rw[zn];omega) (by rw[zn];omega) ae (Cd hW _) l
theorem Ar(neg:Bool)(W:Z)(h:W.length<=5999)(hW:Aq W=true)(i:∀ob,Q (.agg [.dat i64<|C9<|if neg=true then -AI 0 W else AI 0 W,.dat (.nlist u64)<|C8<|if neg=true then -AI 0 W else AI 0 W]) ob)(d:W=[]->∀ob v,(v=.agg [.dat i64 0,.nil]\/v=.agg [.dat i64<|E0 ((0:Int),[]),.dat (.nlist u64)<|E1 ((0:Int),[])])->Q v ob):Ends R2 (L1 W neg 0 0) Q:=by
 cases b:W with
 |nil=>
  refine zo (Ak ..) (zr (by simp) (zu (fun c=>zc af<|zm<|d b _ _<|.inr rfl)<|fun c=>zm<|d b _ _<|.inl rfl))
 |cons c t=>
  rw[<-b];have f:1<=W.length:=by rw[b];simp
  have e:AI 0 W<(10:Int)^(6000:Nat):=z7 (Bk hW).2 (AP af ae);obtain⟨g,k,l⟩:=ZI (a:=0) (n:=min 18 W.length) (D:=AI 0 W) (qz _) hW ae (by rw[qu,Int.zero_add]);have j:=(Bk<|Bl hW<|min 18 W.length).1;refine vU W neg 0 0 hW f _ rfl (Dx W neg 0 0 _ _ rfl hW rfl f 0 0 rfl (qz _) af (by rw[qu];decide) ?_ _ 0 rfl (q9 _));exact CX neg 0 _ e i (W.length+1) (W.drop<|min 18 W.length) _ (by rw[zn];omega) (by rw[zn];omega) ae (Cd hW _) g
theorem ok:Af A4 160 Rq:=by
 refine BD uZ<|fun(s:Z) a=>?_;have a:(decide (s.length<=5999)&&(if s.getD 0 0=45 then Aq (s.drop 1)else Aq s))=true:=a;rw[zh,w5]at a;obtain⟨i,a⟩:=a;have fin:∀D,BS s=D->∀ob,Ac Rq s (.agg [.dat i64<|C9 D,.dat (.nlist u64)<|C8 D]) ob:=by
  rintro D rfl ob;exact yp rfl rfl rfl
 have b:BS s=0->∀ob v,(v=.agg [.dat i64 0,.nil]\/v=.agg [.dat i64<|E0 ((0:Int),[]),.dat (.nlist u64)<|E1 ((0:Int),[])])->Ac Rq s v ob:=by
  rintro h ob v (rfl|rfl)
  ·refine yp rfl rfl ?_;show((0:Int),([]:List Int))=(C9<|BS s,C8<|BS s);rw[h];rfl
  ·refine yp rfl rfl ?_;show DA ((0:Int),([]:List Int))=(C9<|BS s,C8<|BS s);rw[h];rfl
 refine yj (Aj s) ?_;conv=>zeta
 cases s with
 |nil=>
  refine zr af (zr af (zo (Az ..)<|zr af<|zm<|b rfl _ _ (.inl rfl)))
 |cons c r=>
  have l:(c::r).take 1=[c]:=rfl;have g:(c::r).getD 0 0=c:=rfl;rw[g]at a;have e:(jc 1 (c::r)).take (y7 (c::r).length 1)=r:=by show r.take ((r.length+1)-1)=r;rw[yr];exact yc
  have j:decide (((c::r).length:Int)>=1)=true:=w4 (by simp;omega);have k:decide (1<=(c::r).length)=true:=w4 (by simp);rw[l,e];refine zc j<|zc k<|zc j<|zc k<|zu (fun d=>?_)<|fun d=>?_
  ·have f:c=45:=by simpa using d
   rw[wd f]at a;rw[d];have hr:BS (c::r)= -AI 0 r:=by unfold BS;rw[g,wd f];rfl
   refine zc (by simp) (Ar true r (by simp at i;omega) a (fin _<|by rw[hr,wd rfl])<|fun h0=>b<|by rw[hr,h0];rfl)
  ·have f:c≠45:=by rintro rfl;exact wh d af
   rw[wc f]at a;rw[d];have hr:BS (c::r)=AI 0 (c::r):=by unfold BS;rw[g,wc f]
   exact Ar false (c::r) i a (fin _<|by rw[hr,wc af]) (fun h0=>by cases h0)
end T160
end Go.Pe
