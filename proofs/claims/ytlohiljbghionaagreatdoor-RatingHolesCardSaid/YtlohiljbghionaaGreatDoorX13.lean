import Derived.Test.YtlohiljbghionaaGreatDoorX12
/- A part of a proof; no law is stated here. -/
noncomputable section
open Go.Pe.Ends renaming tt -> zc, leaf -> ze, ite -> zj, Ai -> zk, ff -> zq, eq -> ye
open Bool renaming and_eq_true -> zd, true_and -> yt
open Go.Sp renaming vI -> zf, AV -> zp, B9 -> qh, gI -> jf, CQ -> jm, first -> jt, preB -> jz, val -> kc, Dt -> ke
open Go.IntKind renaming wrap -> zg, u64 -> jj
open Go.Lib renaming decDigits -> zh, itoa -> z7, decDigits_length -> yi, decDigits_one -> qx
open Int renaming toNat_natCast -> zi, natAbs_natCast -> zm, mul_le_mul_of_nonneg_left -> zn, lt_of_lt_of_le -> zo, le_of_lt -> zx, lt_of_le_of_lt -> zy, mul_le_mul_of_nonneg_right -> z8, ne_of_gt -> yf, eq_ofNat_of_zero_le -> yn, natAbs_mul -> yu, toNat -> yv, pow_succ -> y7, gcd -> qe, le_trans -> qi, mul_nonneg -> qk, tdiv_eq_ediv_of_nonneg -> qm, tmod_eq_emod_of_nonneg -> qn, natAbs_ediv_le_natAbs -> qt, mul_pos -> qv, mul_one -> qw, ediv_eq_iff_of_pos -> q9, sign_eq_one_of_pos -> jc, le_refl -> jg, mul_comm -> j0, gcd_comm -> j7, ediv_one -> j8
open List renaming length_append -> zl, length_drop -> zt, length_cons -> zu, all_cons -> zz, length_take -> ya, length_eq_zero_iff -> yc, take_of_length_le -> yd, getD_eq_getElem?_getD -> yh, getElem?_eq_getElem -> yj, take_length -> yk, map -> yo, length_map -> yw, mem_singleton -> yx, length -> yz, take_succ_eq_append_getElem -> y8, append_assoc -> y9, findIdx?_cons -> ql, all_eq_true -> qy, reverse_singleton -> je, take -> jl
open Rat renaming num_divInt_den -> zr, divInt -> z6, divInt_add_divInt -> qc, num_eq_zero -> qg, num_divInt -> qo, den_divInt -> qp, neg_num -> jh, neg_den -> ji
open UInt8 renaming ofNat -> zw, toNat -> yb, toNat_inj -> yr
open Nat renaming le_refl -> yg, zero_le -> yp, eq_zero_or_pos -> yq, lt_of_le_of_lt -> yy, ble_eq_true_of_le -> qd, pow_le_pow_right -> qf, pow_succ -> qj, lt_of_lt_of_le -> qq, le_trans -> qz, sub -> jo, ble -> j9
open Go.Pe.Ad renaming of -> ym
open Classical renaming byContradiction -> qu
open Go.Pe.Obj renaming tbox -> jk
variable {Q:Go.Pe.PV->Go.Pe.Ob->Prop}
namespace Go.Pe
open Sp
open Go.Det
theorem xU:CX Ru:=
 Aa T106n.ok (Aa T176.ok<|Aa T127.ok<|Aa T139.ok<|Aa T143.ok<|Aa (Hr ag<|Bd ag)<|Aa (Hr ag<|Bd ag) AE)
theorem S6(k:Nat):E2 18 (k:Int)=((min 18 k:Nat):Int):=by unfold E2;split<;>omega
theorem yY(n:Int):zg .u8 n=n % 256:=by simp[zg,IntKind.bits,IntKind.signed]
theorem iD(k:Nat):(10:Int)^k<=(Ap:Int)^k:=by
 induction k with
 |zero=>exact jg _
 |succ k c=>
  rw[y7,y7];have d:=z8 c (show(0:Int)<=10 by decide);have a:=zn (show(10:Int)<=(Ap:Int)by decide) (zx<|AU (b:=Ap) af k);exact qi d a
theorem GZ{n:Int}(h0:0<=n)(h:n<(10:Int)^(6000:Nat)):Bh (Dd n)=true:=by
 refine D8 ?_;have c:=iD 6000;have b:(Ap:Int)^6000<=(Ap:Int)^9000:=AQ af af;have a:Ah n=n:=by rw[Ak];omega
 rw[a];exact zo h<|qi c b
theorem Og(m n:Int):Fq (C4 m,C3 m) (C4 n,C3 n)=C4 (m*n)/\Fx (C4 m,C3 m) (C4 n,C3 n)=C3 (m*n):=by
 constructor
 ·show C4 (zf (Dd _)*zf (Dd _))=_;rw[CL,CL]
 ·show C3 (zf (Dd _)*zf (Dd _))=_;rw[CL,CL]
theorem wG{a b:AK}(h:0<=zf a+zf b):ES a b=Dd (zf a+zf b):=by
 unfold ES;split
 ·next c=>
  have:=EG c.2.2;rw[Br c.1,Br c.2.1]at h ⊢;exact(Cf ae).symm
 ·rfl
theorem Oz{m v:Int}(e:0<=m)(f:0<=v):Kl (C4 m,C3 m) (v,Co v)=C4 (m+v)/\Kp (C4 m,C3 m) (v,Co v)=C3 (m+v):=by
 have d:zf (C4 m,C3 m)=m:=CL m;have c:zf (v,Co v)=v:=by rw[Ea,E4]
 have:=wG (a:=(C4 m,C3 m)) (b:=(v,Co v)) (by rw[d,c];omega);rw[d,c]at this;exact⟨wi Prod.fst this,wi Prod.snd this⟩
theorem OL(n:Nat):U5 ((10:Int),Co (10:Int)) (n:Int)=C4 (10^n)/\Vf ((10:Int),Co (10:Int)) (n:Int)=C3 (10^n):=by
 have e:Sp.pI (zf ((10:Int),Co (10:Int))) (n:Int)=10^n:=by rw[T6,Ea,E4,zi]
 unfold U5 Vf;rw[e];exact⟨rfl,rfl⟩
theorem qP:Bh ((10:Int),Co (10:Int))=true:=by rw[Ea];decide
theorem gL{n:Nat}(h:n<=18):oO (zf ((10:Int),Co (10:Int))) (n:Int)=true:=by
 unfold oO;have e:Sp.pI (zf ((10:Int),Co (10:Int))) (n:Int)=10^n:=by rw[T6,Ea,E4,zi]
 rw[e];have b:(10:Int)^n<=10^18:=AQ af h;have h0:(0:Int)<10^n:=AU af n;have a:(10:Int)^18<18446744073709551616^1:=af
 have d:(18446744073709551616:Int)^(1:Nat)<=18446744073709551616^(4000:Nat):=AQ af af;have c:Ah ((10:Int)^n)=10^n:=by rw[Ak];omega
 rw[c];exact Ab (ad ae ae)<|w4<|zy b<|zo a d
theorem UY{v:Int}(h0:0<=v)(h:v<1000000000000000000):Bh (v,Co v)=true:=by
 rw[Ea];unfold Bh;exact Ab (LY<|Eb ae ae)<|w4<|yp _
theorem Zt{w:Z}(a:Aq w=true)(h:w.length<=18):0<=AF 0 w/\AF 0 w<1000000000000000000:=by
 have:=Bl a;have b:(10:Int)^w.length<=10^18:=AQ af h;have c:(10:Int)^18=1000000000000000000:=af
 omega
namespace T126
theorem CG(W:Z)(neg:Bool)(y:Int)(l:List Int)(x:Int)(w:Z)(n:Nat)(o:w=W.take n)(hW:Aq W=true)(z:n=min 18 W.length)(J:1<=W.length)(a f:Int)(a0:0<=a)(B:Bh (Dd a)=true)(h:Bh (Dd<|a*10^n)=true)
  (g:Ends Ru (L5 (W.drop n) neg (C4<|a*10^n+AF 0 w) (C3<|a*10^n+AF 0 w) f) Q):
  ∀(r:Z) (j:Nat),w.drop j=r->j<=w.length->Ends Ru (L7 W neg y l x w (AF 0<|w.take j) w.length w.length j (w.map fun b=>(b.toNat:Int)) (C4 a) (C3 a) f) Q
 |[],j,hr,m=>by
  have e:Aq w=true:=by rw[o];exact Bj hW n
  have k:w.length=n:=by rw[o,ya];omega
  have G:j=w.length:=drop_nil hr m;subst G;have p:=Zt e ae;obtain⟨c,t,R⟩:∃c t,w=c::t:=by
   cases w with
   |nil=>simp at k;omega
   |cons c t=>exact⟨c,t,rfl⟩
  have v:((((w.getD 0 0).toNat:Int)==(45:Int))=false):=by
   rw[R]at e ⊢;unfold Aq at e;rw[zz,zd]at e;have:=Dg e.1;unfold H6 at this;show(((c.toNat:Int)==(45:Int))=false);simp;omega
  have O:(W.drop n).take (jo W.length n)=W.drop n:=yd (by rw[zt];exact yg _);have p0:0<=a*10^n:=qk a0 (zx<|AU af n);have S:Bh (C4<|10^n,C3<|10^n)=true:=by
   refine Gj (GZ (n:=(10:Int)^n) (zx<|AU af n) ?_);have C:(10:Int)^n<=10^18:=AQ af ae;have M:(10:Int)^18<10^19:=af
   have E:(10:Int)^19<=10^(6000:Nat):=AQ af af;exact zy C<|zo M E
  refine zk (D5 ..) (zq (by simp)<|zc (w4 ae) ?_);rw[v,S6, <-z,(OL n).1,(OL n).2,yk];refine zq rfl (zc rfl (zc (Ab qP<|gL ae)<|zc (Ab B S)<|zc rfl ?_));rw[(Og _ _).1,(Og _ _).2,(Oz p0 p.1).1,(Oz p0 p.1).2,zi,O];exact zc (Ab h<|UY p.1 p.2) (zc (by simp;omega) g)
 |c::r,j,hr,m=>by
  have e:Aq w=true:=by rw[o];exact Bj hW n
  have k:w.length=n:=by rw[o,ya];omega
  obtain⟨u,F,K⟩:=drop_cons (d:=0) hr;have s:B4 c=true:=by
   unfold Aq at e;rw[qy]at e;exact e c<|QA hr
  have P:=Dg s;have q:(w.take j).length=j:=by rw[ya];omega
  have N:=Bl<|Bj e j;rw[q]at N;have hp:(10:Int)^j<=10^17:=AQ af ae;have A:(10:Int)^17=100000000000000000:=af
  have I:(w.map fun b=>(b.toNat:Int)).getD j 0=(c.toNat:Int):=by
   rw[yh,List.getElem?_map,yj u];have:w[j]=c:=by rw[<-F,yh,yj u];rfl
   rw[this];rfl
  have T:zg .u8 ((c.toNat:Int)-48)=H6 c:=by
   rw[yY];unfold H6 at P ⊢;omega
  have H:zg .i64 (zg .i64 (AF 0 (w.take j)*10)+zg .i64 (H6 c))=AF 0 (w.take<|j+1):=by
   rw[MV hr,C6];show _=10*AF 0 (w.take j)+H6 c;generalize AF 0 (w.take j)=D at*;rw[wr (D*10) ae ae,wr (H6 c) ae ae,wr _ ae ae];omega
  have L:=wn (i:=j) ae;refine zk (D5 ..) (zc (by simp;omega) ?_);rw[zi,I,T,H,L];refine zc (by simp;omega) (zc (by simp;omega)<|zq (w8 ae) ?_);exact CG W neg y l x w n o hW z J a f a0 B h g r (j+1) K u
theorem Dp(W:Z)(neg:Bool)(y:Int)(x:Int)(w:Z)(n:Nat)(m:w=W.take n)(hW:Aq W=true)(z:n=min 18 W.length)(I:1<=W.length)(a f:Int)(s:a=0)(a0:0<=a)(T:Bh (Dd a)=true)(h:Bh (Dd<|a*10^n)=true)
  (g:Ends Ru (L5 (W.drop n) neg (C4<|a*10^n+AF 0 w) (C3<|a*10^n+AF 0 w) f) Q):
  ∀(r:Z) (j:Nat),w.drop j=r->j<=w.length->Ends Ru (L3 W neg y x w (AF 0<|w.take j) w.length w.length j (w.map fun b=>(b.toNat:Int)) 0 f) Q
 |[],j,hr,l=>by
  have e:Aq w=true:=by rw[m];exact Bj hW n
  have k:w.length=n:=by rw[m,ya];omega
  have F:j=w.length:=drop_nil hr l;subst F;have o:=Zt e ae;obtain⟨c,t,P⟩:∃c t,w=c::t:=by
   cases w with
   |nil=>simp at k;omega
   |cons c t=>exact⟨c,t,rfl⟩
  have v:((((w.getD 0 0).toNat:Int)==(45:Int))=false):=by
   rw[P]at e ⊢;unfold Aq at e;rw[zz,zd]at e;have:=Dg e.1;unfold H6 at this;show(((c.toNat:Int)==(45:Int))=false);simp;omega
  have N:(W.drop n).take (jo W.length n)=W.drop n:=yd (by rw[zt];exact yg _);have p0:0<=a*10^n:=qk a0 (zx<|AU af n);have R:Bh (C4<|10^n,C3<|10^n)=true:=by
   refine Gj (GZ (n:=(10:Int)^n) (zx<|AU af n) ?_);have B:(10:Int)^n<=10^18:=AQ af ae;have L:(10:Int)^18<10^19:=af
   have C:(10:Int)^19<=10^(6000:Nat):=AQ af af;exact zy B<|zo L C
  refine zk (BA ..) (zq (by simp) (zc (w4 ae) ?_));rw[v,S6, <-z,(OL n).1,(OL n).2,yk];refine zq rfl (zc rfl (zc (Ab qP<|gL ae)<|zc (Ab (show Bh ((0:Int),[])=true by decide) R)<|zc rfl ?_));rw[show Fq ((0:Int),[]) (C4<|10^n,C3<|10^n)=C4 (a*10^n)by rw[s];exact(Og 0 _).1,show Fx ((0:Int),[]) (C4<|10^n,C3<|10^n)=C3 (a*10^n)by rw[s];exact(Og 0 _).2,(Oz p0 o.1).1,(Oz p0 o.1).2,zi,N];exact zc (Ab h<|UY o.1 o.2) (zc (by simp;omega) g)
 |c::r,j,hr,l=>by
  have e:Aq w=true:=by rw[m];exact Bj hW n
  have k:w.length=n:=by rw[m,ya];omega
  obtain⟨u,E,J⟩:=drop_cons (d:=0) hr;have q:B4 c=true:=by
   unfold Aq at e;rw[qy]at e;exact e c<|QA hr
  have O:=Dg q;have p:(w.take j).length=j:=by rw[ya];omega
  have M:=Bl<|Bj e j;rw[p]at M;have hp:(10:Int)^j<=10^17:=AQ af ae;have A:(10:Int)^17=100000000000000000:=af
  have H:(w.map fun b=>(b.toNat:Int)).getD j 0=(c.toNat:Int):=by
   rw[yh,List.getElem?_map,yj u];have:w[j]=c:=by rw[<-E,yh,yj u];rfl
   rw[this];rfl
  have S:zg .u8 ((c.toNat:Int)-48)=H6 c:=by
   rw[yY];unfold H6 at O ⊢;omega
  have G:zg .i64 (zg .i64 (AF 0 (w.take j)*10)+zg .i64 (H6 c))=AF 0 (w.take<|j+1):=by
   rw[MV hr,C6];show _=10*AF 0 (w.take j)+H6 c;generalize AF 0 (w.take j)=D at*;rw[wr (D*10) ae ae,wr (H6 c) ae ae,wr _ ae ae];omega
  have K:=wn (i:=j) ae;refine zk (BA ..) (zc (by simp;omega) ?_);rw[zi,H,S,G,K];refine zc (by simp;omega) (zc (by simp;omega) (zq (w8 ae) ?_));exact Dp W neg y x w n m hW z I a f s a0 T h g r (j+1) J u
theorem wO(W:Z)(neg:Bool)(o1:Int)(d:List Int)(f:Int)(hW:Aq W=true)(k:1<=W.length)(n:Nat)(j:n=min 18 W.length)
  (h:Ends Ru (L7 W neg o1 d f (W.take n) 0 (W.take n).length (W.take n).length 0 ((W.take n).map fun b=>(b.toNat:Int)) o1 d f) Q):Ends Ru (L5 W neg o1 d f) Q:=by
 have e:(W.take n).length=n:=by rw[ya];omega
 have a:=Bj hW n;have i:((((W.take n).getD 0 0).toNat:Int)==(45:Int))=false/\((((W.take n).getD 0 0).toNat:Int)==(43:Int))=false:=by
  cases g:W.take n with
  |nil=>rw[g]at e;simp at e;omega
  |cons c t=>
   rw[g]at a;unfold Aq at a;rw[zz,zd]at a;have:=Dg a.1;unfold H6 at this;show(((c.toNat:Int)==(45:Int))=false)/\(((c.toNat:Int)==(43:Int))=false);constructor<;>(simp;omega)
 refine zk (EO ..) (zc (by simp;omega) ?_);rw[S6, <-j,zi,i.1,i.2];exact zc (by simp;omega) (zc (w4 ae) (zc (w4 ae)<|zc (w4 ae) (zq rfl (zc (w4 ae)<|zq rfl h))))
theorem sX(W:Z)(neg:Bool)(o1:Int)(e:Int)(hW:Aq W=true)(j:1<=W.length)(n:Nat)(i:n=min 18 W.length)
  (h:Ends Ru (L3 W neg o1 e (W.take n) 0 (W.take n).length (W.take n).length 0 ((W.take n).map fun b=>(b.toNat:Int)) o1 e) Q):Ends Ru (L1 W neg o1 e) Q:=by
 have d:(W.take n).length=n:=by rw[ya];omega
 have a:=Bj hW n;have f:((((W.take n).getD 0 0).toNat:Int)==(45:Int))=false/\((((W.take n).getD 0 0).toNat:Int)==(43:Int))=false:=by
  cases g:W.take n with
  |nil=>rw[g]at d;simp at d;omega
  |cons c t=>
   rw[g]at a;unfold Aq at a;rw[zz,zd]at a;have:=Dg a.1;unfold H6 at this;show(((c.toNat:Int)==(45:Int))=false)/\(((c.toNat:Int)==(43:Int))=false);constructor<;>(simp;omega)
 refine zk (Al ..) (zc (by simp;omega) ?_);rw[S6, <-i,zi,f.1,f.2];exact zc (by simp;omega) (zc (w4 ae)<|zc (w4 ae) (zc (w4 ae)<|zq rfl (zc (w4 ae)<|zq rfl h)))
theorem Aa8(n:Int)(h:0<=n):(EU (C4 n,C3 n),EW (C4 n,C3 n))=Dd (-n):=by
 show Du (Dd n)=_;unfold Du;split
 ·next c=>
  have:=CL n;rw[Br c.1]at this;rw[this,Cf (n:= -n)];by_cases a: -9223372036854775808<n/\n<9223372036854775808
  ·omega
  ·exfalso;have e:Dd n=(1,BC<|Ah n):=by unfold Dd;rw[wc a,wc ae]
   rw[e]at this;have:(1:Int)=n:=this;omega
 ·rw[CL]
theorem YZ{a D:Int}{W:Z}{n:Nat}(b:0<=a)(hW:Aq W=true)(h:n<=W.length)(e:a*10^W.length+AF 0 W=D):(a*10^n+AF 0 (W.take n))*10^(W.drop n).length+AF 0 (W.drop n)=D/\a<=D/\a*10^n<=D:=by
 have g:AF 0 W=AF 0 (W.take n)*10^(W.drop n).length+AF 0 (W.drop n):=by
  conv=>lhs;rw[<-List.take_append_drop n W]
  rw[C6,E7]
 have c:W.length=n+(W.drop n).length:=by rw[zt];omega
 have hp:(10:Int)^W.length=10^n*10^(W.drop n).length:=by rw[<-Int.pow_add, <-c]
 have i:=(Bl hW).1;have d:a*10^W.length=a*10^n*10^(W.drop n).length:=by rw[hp,Int.mul_assoc]
 have one:∀k:Nat,(1:Int)<=10^k:=fun k=>by have:=AU (show(0:Int)<10 by decide) k;omega
 have l1:a<=a*10^W.length:=by have:=zn (one W.length) b;omega
 have f:a*10^n<=a*10^n*10^(W.drop n).length:=by
  have:=zn (one (W.drop n).length) (qk b (show(0:Int)<=10^n by have:=one n;omega));omega
 refine⟨?_,by omega,by omega⟩;rw[Int.add_mul, <-d];omega
theorem CP(neg:Bool)(g D:Int)(b:D<(10:Int)^(6000:Nat))(h:∀ob,Q (.agg [.dat i64<|C4<|if neg=true then -D else D,.dat (.nlist u64)<|C3<|if neg=true then -D else D]) ob):∀(f:Nat) (W:Z) (a:Int),W.length<f->W.length<=6000->0<=a->Aq W=true->a*10^W.length+AF 0 W=D->Ends Ru (L5 W neg (C4 a) (C3 a) g) Q
 |0,W,a,r,_,_,_,_=>by omega
 |f+1,W,a,r,m,e,hW,i=>by
  cases d:W with
  |nil=>
   subst d;have i:a=D:=by rw[<-i];simp[AF]
   subst i;have j:=GZ e b;refine zk (EO ..) (zq (by simp)<|zj (fun c=>zc (Cc j).1<|ze ?_)<|fun c=>ze ?_)
   ·have:=Aa8 a e;rw[c,wd rfl]at h;have l:EU (C4 a,C3 a)=C4 (-a):=wi Prod.fst this;have s:EW (C4 a,C3 a)=C3 (-a):=wi Prod.snd this;rw[l,s];exact h _
   ·rw[c,wc af]at h;exact h _
  |cons c t=>
   rw[<-d];have k:1<=W.length:=by rw[d];simp
   obtain⟨q,o,p⟩:=YZ (n:=min 18 W.length) e hW ae i;have u:=(Bl<|Bj hW<|min 18 W.length).1;have hp:0<=a*10^(min 18 W.length):=qk e (zx<|AU af _);refine wO W neg _ _ g hW k _ rfl (CG W neg _ _ g _ _ rfl hW rfl k a g e (GZ e<|zy o b) (GZ hp<|zy p b) ?_ _ 0 rfl (yp _));exact CP neg g D b h f (W.drop<|min 18 W.length) _ (by rw[zt];omega) (by rw[zt];omega) ae (Ca hW _) q
theorem Ar(neg:Bool)(W:Z)(h:W.length<=5999)(hW:Aq W=true)(g:∀ob,Q (.agg [.dat i64<|C4<|if neg=true then -AF 0 W else AF 0 W,.dat (.nlist u64)<|C3<|if neg=true then -AF 0 W else AF 0 W]) ob)(d:W=[]->∀ob v,(v=.agg [.dat i64 0,.nil]\/v=.agg [.dat i64<|EU ((0:Int),[]),.dat (.nlist u64)<|EW ((0:Int),[])])->Q v ob):Ends Ru (L1 W neg 0 0) Q:=by
 cases b:W with
 |nil=>
  refine zk (Al ..) (zq (by simp) (zj (fun c=>zc af<|ze<|d b _ _<|.inr rfl)<|fun c=>ze<|d b _ _<|.inl rfl))
 |cons c t=>
  rw[<-b];have f:1<=W.length:=by rw[b];simp
  have e:AF 0 W<(10:Int)^(6000:Nat):=zo (Bl hW).2 (AQ af ae);obtain⟨i,j,k⟩:=YZ (a:=0) (n:=min 18 W.length) (D:=AF 0 W) (jg _) hW ae (by rw[Int.zero_mul,Int.zero_add]);have l:=(Bl<|Bj hW<|min 18 W.length).1;refine sX W neg 0 0 hW f _ rfl (Dp W neg 0 0 _ _ rfl hW rfl f 0 0 rfl (jg _) af (by rw[Int.zero_mul];decide) ?_ _ 0 rfl (yp _));exact CP neg 0 _ e g (W.length+1) (W.drop<|min 18 W.length) _ (by rw[zt];omega) (by rw[zt];omega) ae (Ca hW _) i
theorem ok:Af A8 126 Q8:=by
 refine BR xU<|fun(s:Z) a=>?_;have a:(decide (s.length<=5999)&&(if s.getD 0 0=45 then Aq (s.drop 1)else Aq s))=true:=a;rw[zd,w5]at a;obtain⟨j,a⟩:=a;have fin:∀D,BO s=D->∀ob,Ad Q8 s (.agg [.dat i64<|C4 D,.dat (.nlist u64)<|C3 D]) ob:=by
  rintro D rfl ob;exact ym rfl rfl rfl
 have b:BO s=0->∀ob v,(v=.agg [.dat i64 0,.nil]\/v=.agg [.dat i64<|EU ((0:Int),[]),.dat (.nlist u64)<|EW ((0:Int),[])])->Ad Q8 s v ob:=by
  rintro h ob v (rfl|rfl)
  ·refine ym rfl rfl ?_;show((0:Int),([]:List Int))=(C4<|BO s,C3<|BO s);rw[h];rfl
  ·refine ym rfl rfl ?_;show Du ((0:Int),([]:List Int))=(C4<|BO s,C3<|BO s);rw[h];rfl
 refine ye (Aj s) ?_;conv=>zeta
 cases s with
 |nil=>
  refine zq af (zq af (zk (AG ..)<|zq af<|ze<|b rfl _ _ (.inl rfl)))
 |cons c r=>
  have l:(c::r).take 1=[c]:=rfl;have g:(c::r).getD 0 0=c:=rfl;rw[g]at a;have e:(List.drop 1 (c::r)).take (jo (c::r).length 1)=r:=by show r.take ((r.length+1)-1)=r;rw[Nat.add_sub_cancel];exact yk
  have i:decide (((c::r).length:Int)>=1)=true:=w4 (by simp;omega);have k:decide (1<=(c::r).length)=true:=w4 (by simp);rw[l,e];refine zc i<|zc k<|zc i<|zc k<|zj (fun d=>?_)<|fun d=>?_
  ·have f:c=45:=by simpa using d
   rw[wd f]at a;rw[d];have hr:BO (c::r)= -AF 0 r:=by unfold BO;rw[g,wd f];rfl
   refine zc (by simp) (Ar true r (by simp at j;omega) a (fin _<|by rw[hr,wd rfl])<|fun h0=>b (by rw[hr,h0];rfl))
  ·have f:c≠45:=by rintro rfl;exact wh d af
   rw[wc f]at a;rw[d];have hr:BO (c::r)=AF 0 (c::r):=by unfold BO;rw[g,wc f]
   exact Ar false (c::r) j a (fin _<|by rw[hr,wc af]) (fun h0=>by cases h0)
end T126
namespace T168
theorem loop{Q:PV->Ob->Prop}(l:List Int)(j:l.length<=1000000):∀(r:List Int) (i:Nat),l.drop i=r->i<=l.length->Q (.dat i64<|jt r) []->Ends OJ (L1 l ((l.length:Int)) i) Q
 |[],i,h,g,a=>by
  refine zk (Al ..) ?_;conv=>zeta
  have:¬i<l.length:=by
   intro b;have:=List.drop_eq_getElem_cons b;rw[h]at this;cases this
  have f:i=l.length:=ae
  subst f;simpa [jt]using a
 |x::r,i,h,g,a=>by
  obtain⟨b,e,k⟩:=drop_cons (d:=0) h;refine zk (Al ..) ?_;conv=>zeta
  rw[Fu,wd (by simp;omega),Fu,wd (by simp;omega),Fu];simp only[zi,e];by_cases c:x=0
  ·subst c;rw[wc (by simp),wr _ ae ae];exact loop l j r (i+1) k b (by simpa [jt]using a)
  ·rw[wd<|by simpa using c];simpa [jt,c]using a
theorem ok:Af A8 168 Hb:=by
 refine BR Fh<|fun l a=>?_;refine ye (Aj l) ?_;conv=>zeta
 exact loop l (by simpa [Hb]using a) l 0 rfl (yp _) (ym rfl rfl rfl)
end T168
theorem T169.ok:Af A8 169 G1:=by
 refine BR Fh<|fun⟨c,e⟩ _=>?_;refine ye (T169.Aj c e) ?_;conv=>zeta
 have key:∀x:Int,x=Cq c e->Ad G1 (c,e) (.dat i64 x) []:=fun x a=>ym rfl rfl a
 simp only[Fu,HC];cases c
 ·exact key _ rfl
 ·exact key _ rfl
theorem xB:CX Nl:=
 Aa T168.ok (Aa T169.ok<|Aa T166.ok<|Aa T124.ok<|Aa T167.ok<|Aa T170.ok<|Aa T126.ok<|Aa T105.ok<|Aa T106n.ok AE)
theorem HS{s:Z}(h:AX s=true):s≠[]/\Aq s=true:=by
 unfold AX at h;rw[zd,zd,w5]at h;exact h.1
theorem LU{s:Z}(h:Aq s=true)(b:s.length<=5999):DZ s=true/\BO s=AF 0 s:=by
 have h0:s.getD 0 0≠45:=by
  cases s with
  |nil=>decide
  |cons c r=>
   unfold Aq at h;rw[zz,zd]at h;have:=Dg h.1;rintro a;have a:c=45:=a;subst a;exact wh this af
 unfold DZ BO;rw[wc h0,wc h0,h,Bool.and_true];exact⟨w4 b,rfl⟩
theorem Aaq{a b L:Int}(d:0<=a)(f:0<=b)(g:a<L)(c:b<L):0<=jf a b/\jf a b<L:=by
 rw[Gx];obtain⟨x,rfl⟩:=yn d;obtain⟨y,rfl⟩:=yn f;have e:qe (x:Int) (y:Int)=Nat.gcd x y:=rfl;rw[e];refine⟨Int.natCast_nonneg _,?_⟩;rcases yq x with h|h
 ·subst h;rw[Nat.gcd_zero_left];exact c
 ·have:=Nat.gcd_le_left y h;omega
namespace T122
def E(A B:Z)(b a:Bool):Int:=if a=false then 1 else if 600<A.length\/600<B.length then 4 else if b=true/\jf (AF 0 A) (AF 0 B)≠1 then 1 else 0
theorem FX(A B:Z)(a:Bool)(i:Aq A=true)(b:a=true->Aq B=true)(y:A.length<=600)(z:B.length<=600)(e:∀ob,Q (.dat i64<|if a=true/\jf (AF 0 A) (AF 0 B)≠1 then 1 else 0) ob):Ends Nl (L8 A B a) Q:=by
 refine zk (Ho ..)<|zj (fun c=>?_)<|fun c=>?_
 ·have b:=b c;obtain⟨u,k⟩:=LU i ae;obtain⟨r3,r4⟩:=LU b ae;have d:=Bl i;have f:=Bl b;have j:AF 0 A<(10:Int)^(6000:Nat):=zo d.2 (AQ af ae);have l:AF 0 B<(10:Int)^(6000:Nat):=zo f.2 (AQ af ae);have s:Dv A=C4 (AF 0 A):=by unfold Dv;rw[k]
  have r:Dy A=C3 (AF 0 A):=by unfold Dy;rw[k]
  have x:Dv B=C4 (AF 0 B):=by unfold Dv;rw[r4]
  have v:Dy B=C3 (AF 0 B):=by unfold Dy;rw[r4]
  have t:NR (C4<|AF 0 A,C3<|AF 0 A) (C4<|AF 0 B,C3<|AF 0 B)=C4 (jf (AF 0 A)<|AF 0 B):=by
   unfold NR;rw[Ll,Ll]
  have o:Nz (C4<|AF 0 A,C3<|AF 0 A) (C4<|AF 0 B,C3<|AF 0 B)=C3 (jf (AF 0 A)<|AF 0 B):=by
   unfold Nz;rw[Ll,Ll]
  obtain⟨l1,w⟩:=Aaq d.1 f.1 j l;have m:eU (C4<|jf (AF 0 A)<|AF 0 B,C3<|jf (AF 0 A)<|AF 0 B) ((1:Int),Co (1:Int))=Ck (jf (AF 0 A)<|AF 0 B) 1:=by
   unfold eU;rw[Ll,Ea,E4]
  rw[s,r,x,v,t,o,m];have p:Bh ((1:Int),Co (1:Int))=true:=by rw[Ea];decide
  refine zc u<|zc r3<|zc (Ab (Gj<|GZ d.1 j)<|Gj<|GZ f.1 l)<|zc rfl (zc (Ab (Gj<|GZ l1 w) p) ?_);refine zk (lX ..)<|zc rfl (ze ?_);generalize jf (AF 0 A) (AF 0 B)=g at*;have:Cq (Ck g 1 !=0) 1=if a=true/\g≠1 then 1 else 0:=by
   unfold Ck Cq;by_cases h:g=1
   ·subst h;rw[c];rfl
   ·have n:(if a=true/\g≠1 then(1:Int)else 0)=1:=wd ⟨c,h⟩;rw[n];rcases Int.lt_or_gt_of_ne h with q|q
    ·rw[wd q];rfl
    ·rw[wc ae,wd q];rfl
  rw[this];exact e _
 ·refine zk Tt<|zc rfl (ze ?_);rw[wc<|by rw[c];simp]at e;exact e _
theorem CG(A B:Z)(e a c d:Bool)(g:c= !a)(f:d=true↔600<A.length\/600<B.length)(l:a=true->Aq A=true/\(e=true->Aq B=true))(b:∀ob,Q (.dat i64<|E A B e a) ob):Ends Nl (L7 A B e<|jt [Cq c 1,Cq d 4]) Q:=by
 subst g;unfold E at b;cases a with
 |false=>
  refine zk (D5 ..)<|zc ?_<|ze<|b _;cases d<;>rfl
 |true=>
  rw[wc af]at b;cases d with
  |true=>
   rw[wd<|f.1 rfl]at b;exact zk (D5 ..)<|zc rfl (ze<|b _)
  |false=>
   have k:¬(600<A.length\/600<B.length):=fun h=>by have:=f.2 h;cases this
   rw[wc k]at b;obtain⟨j,i⟩:=l rfl;exact zk (D5 ..) (zq rfl (FX A B e j i ae ae b))
theorem Cb(A B:Z)(b a:Bool)(e:a=true->Aq A=true/\(b=true->Aq B=true))(d:∀ob,Q (.dat i64<|E A B b a) ob):Ends Nl (L4 A B b a) Q:=by
 refine zk (Ci ..)<|zc rfl (zj (fun c=>zc rfl (zc rfl ?_))<|fun c=>zc rfl (zc rfl ?_))
 ·have c:=w6 c;exact CG A B b a _ _ rfl ⟨fun _=>.inl ae,fun _=>rfl⟩ e d
 ·have c:=w7 c;exact CG A B b a _ _ rfl ⟨fun h=>.inr (by have:=w6 h;omega),fun h=>w4 ae⟩ e d
theorem CP(A B:Z)(a:Bool)(b:∀ob,Q (.dat i64<|E A B a false) ob):Ends Nl (L5 A B a) Q:=by
 refine zk (EO ..)<|zc rfl (zj (fun c=>zc rfl (zc rfl ?_))<|fun c=>zc rfl (zc rfl ?_))
 ·have c:=w6 c;exact CG A B a false _ _ rfl ⟨fun _=>.inl ae,fun _=>rfl⟩ (fun h=>by cases h) b
 ·have c:=w7 c;exact CG A B a false _ _ rfl ⟨fun h=>.inr (by have:=w6 h;omega),fun h=>w4 ae⟩ (fun h=>by cases h) b
theorem Fa(A B:Z)(a:Bool)(d:Aq A=true/\(a=true->Aq B=true))(b:∀ob,Q (.dat i64<|E A B a true) ob):Ends Nl (L6 A B a) Q:=by
 refine zk (EX ..)<|zc rfl (zj (fun c=>zc rfl (zc rfl ?_))<|fun c=>zc rfl (zc rfl ?_))
 ·have c:=w6 c;exact CG A B a true _ _ rfl ⟨fun _=>.inl ae,fun _=>rfl⟩ (fun _=>d) b
 ·have c:=w7 c;exact CG A B a true _ _ rfl ⟨fun h=>.inr (by have:=w6 h;omega),fun h=>w4 ae⟩ (fun _=>d) b
theorem U7{F:Tr}(A B:Z)(f:Bool)(k:B.length<=1000000)(j:Aq A=true)(a:Bool)(b:a=(!f||(AX B&&decide (B≠[48])&&decide (B≠[49]))))(g:∀ob,Q (.dat i64<|E A B f a) ob)
  (h:(f=true->Ends Nl (.ite (decide (B.length<=1000000)) (.ite (AX B) (.ite (!B==[(48:UInt8)]) (L4 A B f<|!B==[(49:UInt8)])<|L5 A B f)<|L5 A B f) .fail) Q)->(f=false->a=true)->Ends Nl F Q):Ends Nl F Q:=by
 refine h (fun i=>zc (w4 k) ?_) (fun i=>by rw[b,i];rfl);rw[i]at b;refine zj (fun c=>zj (fun d=>?_)<|fun d=>?_)<|fun c=>?_
 ·have d:B≠[48]:=by simpa using d
  have e:a=(!B==[(49:UInt8)]):=by
   rw[b,c,w4 d];by_cases h:B=[49]
   ·rw[h];rfl
   ·rw[w4 h];simp[h]
  rw[<-e];exact Cb A B f a (fun _=>⟨j,fun _=>(HS c).2⟩) g
 ·have d:B=[48]:=by simpa using d
  have e:a=false:=by rw[b,w8<|fun h=>h d];simp
  rw[e]at g;exact CP A B f g
 ·have e:a=false:=by rw[b,c];simp
  rw[e]at g;exact CP A B f g
theorem DH(s:Z):(AB s).length<=s.length/\(zp s).length<=s.length:=by
 unfold AB zp;cases s.findIdx? (fun x=>x==47)with
 |none=>simp
 |some i=>simp;omega
theorem Zq(s:Z):(A9 s).length<=s.length:=by
 unfold A9;split
 ·simp
 ·exact yg _
theorem ok:Af A8 122 Fg:=by
 refine BR xB<|fun(a:Z) n=>?_;have n:a.length<=1000000:=w6 n;have l1:=Zq a;obtain⟨s,r⟩:=DH<|A9 a;have j:∀b,b=G0 a->∀ob,Ad Fg a (.dat i64<|E (AB<|A9 a) (zp<|A9 a) (Bs<|A9 a) b) ob:=by
  rintro b rfl ob;exact ym rfl rfl rfl
 have i:G0 a=(AX (AB<|A9 a)&&(!jz a||decide (AB (A9 a)≠[48]))&&(!Bs (A9 a)||(AX (zp<|A9 a)&&decide (zp (A9 a)≠[48])&&decide (zp (A9 a)≠[49])))):=rfl;refine ye (Aj a) (zc (Ab (w4 rfl)<|w4 n) (zc (Ab (w4 rfl)<|w4 ae)<|zc (w4 ae) ?_));generalize AB (A9 a)=A at*;generalize zp (A9 a)=B at*;generalize Bs (A9 a)=f at*;refine zj (fun c=>?_)<|fun c=>?_
 ·have k:=(HS c).2;refine zj (fun d=>?_)<|fun d=>?_
  ·have g:G0 a=(!f||(AX B&&decide (B≠[48])&&decide (B≠[49]))):=by rw[i,c,d];rfl
   refine U7 A B f ae k (G0 a) g (j _ rfl)<|fun o m=>zk (Al ..)<|zj o<|fun e=>?_;have p:=m e;exact Fa A B f ⟨k,fun h=>by rw[e]at h;cases h⟩<|j true p.symm
  ·by_cases l:A=[48]
   ·have g:G0 a=false:=by rw[i,d,w8<|fun h=>h l];simp
    have q:(!A==[(48:UInt8)])=false:=by rw[l];rfl
    rw[q];refine zk (AG ..) (zj (fun e=>zq rfl (CP A B f<|j false g.symm)) (fun e=>Cb A B f false (fun h=>by cases h)<|j false g.symm))
   ·have q:(!A==[(48:UInt8)])=true:=by simp[l]
    have g:G0 a=(!f||(AX B&&decide (B≠[48])&&decide (B≠[49]))):=by rw[i,c,d,w4 l];rfl
    rw[q];refine U7 A B f ae k (G0 a) g (j _ rfl)<|fun o m=>zk (AG ..)<|zj (fun e=>zc rfl (o e))<|fun e=>?_;have p:=m e;exact Cb A B f true (fun _=>⟨k,fun h=>by rw[e]at h;cases h⟩)<|j true p.symm
 ·have g:G0 a=false:=by rw[i,c];simp
  exact zk (BA ..)<|zj (fun e=>CP A B f<|j false g.symm)<|fun e=>CP A B f<|j false g.symm
end T122
theorem Er(c:UInt8)(r:Z):AB (c::r)=if c=47 then[]else c::AB r:=by
 unfold AB;rw[ql];by_cases h:c=47
 ·subst h;rfl
 ·rw[wc (by simpa using h),wc h];cases r.findIdx? (fun x=>x==47)<;>rfl
namespace T128
theorem Ar{Q:PV->Ob->Prop}(s:Z)(k:s.length<=9223372036854775807):∀(r:Z) (i:Nat),s.drop i=r->i<=s.length->(∀ob,Q (.dat i64 (((i+(AB r).length:Nat)):Int)) ob)->Ends OJ (L1 s i) Q
 |[],i,h,e,a=>by
  have j:i=s.length:=drop_nil h e;subst j;exact zk (Al ..) (zq (by simp)<|ze<|a _)
 |c::r,i,h,e,a=>by
  obtain⟨g,f,m⟩:=drop_cons (d:=0) h;have l:=wn (i:=i) ae;rw[Er]at a;refine zk (Al ..) (zc (by simp;omega) ?_);rw[zi,f,l];refine zc (by simp;omega)<|zj (fun d=>?_)<|fun d=>?_
  ·have b:c=47:=by
    have:(c.toNat:Int)=47:=by simpa using d
    exact yr.1 (by show _=47;omega)
   rw[wd b]at a;exact ze<|a _
  ·have b:c≠47:=by rintro rfl;exact wh d af
   rw[wc b]at a;refine Ar s k r (i+1) m g<|fun ob=>?_;have:=a ob;rw[zu]at this;rw[show i+1+(AB r).length=i+((AB r).length+1)by omega];exact this
theorem ok:Af A8 128 Pf:=by
 refine BR Fh<|fun(s:Z) a=>?_;have a:s.length<=1000000:=w6 a;refine ye (Aj s) (Ar s ae s 0 rfl (yp _) (fun ob=>ym rfl rfl ?_));rw[Nat.zero_add];rfl
theorem okU:Af A8 128 aA:=by
 refine BR Fh<|fun(s:Z) a=>?_;have a:s.length<=9223372036854775807:=w6 a;refine ye (Aj s)<|Ar s a s 0 rfl (yp _) (fun ob=>ym rfl rfl ?_);rw[Nat.zero_add];rfl
end T128
namespace T129
theorem Wn{s:Z}{r:Z}{c:UInt8}{i:Nat}(h:s.drop i=c::r):Aq (s.drop i)=(B4 c&&Aq (s.drop<|i+1)):=by
 obtain⟨_,_,a⟩:=drop_cons (d:=0) h;rw[a,h];rfl
theorem Ar(s:Z)(l:s.length<=9223372036854775807):∀(r:Z) (i:Nat),s.drop i=r->i<=s.length->(∀ob,Q (.bl<|Aq<|s.drop i) ob)->Ends OJ (L1 s s i) Q
 |[],i,h,f,a=>by
  have k:i=s.length:=drop_nil h f;rw[h]at a;subst k;exact zk (Al ..) (zq (by simp)<|ze<|a _)
 |c::r,i,h,f,a=>by
  obtain⟨j,g,n⟩:=drop_cons (d:=0) h;have m:=wn (i:=i) ae;rw[Wn h]at a;refine zk (Al ..) (zc (by simp;omega) ?_);rw[zi,g,m];refine zc (by simp;omega) (zj (fun d=>?_)<|fun d=>zc (by simp;omega)<|zj (fun e=>?_)<|fun e=>?_)
  ·have d:=w6 d;have b:B4 c=false:=by unfold B4;rw[w8 ae];rfl
   rw[b]at a;exact ze<|a _
  ·have e:=w6 e;have b:B4 c=false:=by unfold B4;rw[w8 (p:=c.toNat<=57) ae,Bool.and_false]
   rw[b]at a;exact ze<|a _
  ·have d:=w7 d;have e:=w7 e;have b:B4 c=true:=by unfold B4;exact ad ae ae
   rw[b,yt]at a;exact Ar s l r (i+1) n j a
theorem A2(s:Z)(l:s.length<=9223372036854775807):∀(r:Z) (i:Nat),s.drop i=r->i<=s.length->(∀ob,Q (.bl<|Aq<|s.drop i) ob)->Ends OJ (L2 s s i) Q
 |[],i,h,f,a=>by
  have k:i=s.length:=drop_nil h f;rw[h]at a;subst k;exact zk (AG ..) (zq (by simp)<|ze<|a _)
 |c::r,i,h,f,a=>by
  obtain⟨j,g,n⟩:=drop_cons (d:=0) h;have m:=wn (i:=i) ae;rw[Wn h]at a;refine zk (AG ..) (zc (by simp;omega) ?_);rw[zi,g,m];refine zc (by simp;omega) (zj (fun d=>?_)<|fun d=>zc (by simp;omega)<|zj (fun e=>?_)<|fun e=>?_)
  ·have d:=w6 d;have b:B4 c=false:=by unfold B4;rw[w8 ae];rfl
   rw[b]at a;exact ze<|a _
  ·have e:=w6 e;have b:B4 c=false:=by unfold B4;rw[w8 (p:=c.toNat<=57) ae,Bool.and_false]
   rw[b]at a;exact ze<|a _
  ·have d:=w7 d;have e:=w7 e;have b:B4 c=true:=by unfold B4;exact ad ae ae
   rw[b,yt]at a;exact A2 s l r (i+1) n j a
theorem okU:Af A8 129 Ux:=by
 refine BR Fh<|fun(s:Z) f=>?_;have f:s.length<=9223372036854775807:=w6 f;have g:∀b ob,b=AX s->Ad Ux s (.bl b) ob:=fun b ob j=>ym rfl rfl j
 refine ye (Aj s) ?_;conv=>zeta
 cases s with
 |nil=>exact zc rfl (ze<|g _ _ rfl)
 |cons c r=>
  have i:(c::r).getD 0 0=c:=rfl;rw[i];refine zq (by simp;omega) (zj (fun d=>zc (by simp)<|zj (fun e=>ze<|g _ _ ?_)<|fun e=>?_)<|fun d=>?_)
  ·have d:=w6 d;have a:c=48:=by
    have:(c.toNat:Int)=48:=by simpa using e
    exact yr.1 (by show _=48;omega)
   have hr:r≠[]:=by rintro rfl;simp at d
   unfold AX;rw[i,w8 (p:=c≠48)<|fun h=>h a,w8 (p:=c::r=[48])<|by intro h;simp at h;exact hr h.2];simp
  ·have a:c≠48:=by rintro rfl;exact wh e af
   refine Ar (c::r) f (c::r) 0 rfl (yp _) (fun ob=>g _ _ ?_);unfold AX;rw[i,w4 a];simp
  ·have d:=w7 d;have hr:r=[]:=by
    have:r.length=0:=by simp at d;omega
    exact yc.1 this
   subst hr;refine A2 [c] f [c] 0 rfl (yp _) (fun ob=>g _ _ ?_);unfold AX;rw[i];by_cases a:c=48
   ·subst a;rfl
   ·rw[w4 a];simp
end T129
theorem sS:CX zD:=Aa T155.ok AE
namespace T97
theorem PI{v:Int}(a: -9223372036854775808<=v/\v<9223372036854775808):∃q d:Nat,Ah v=d+1000000000*q/\d<1000000000/\zg .i64 (Int.tdiv v 1000000000)=(if v<0 then -(q:Int)else q)/\Int.tmod v 1000000000=(if v<0 then -(d:Int)else d):=by
 refine⟨v.natAbs/1000000000,v.natAbs % 1000000000,by rw[Ak];omega,by omega,?_,?_⟩
 ·by_cases h:v<0
  ·have:=Int.neg_tdiv (-v) 1000000000;rw[Int.neg_neg]at this;rw[this,qm ae,wd h,wr _ ae ae];omega
  ·rw[qm ae,wc h,wr _ ae ae];omega
 ·by_cases h:v<0
  ·have:=Int.neg_tmod (-v) 1000000000;rw[Int.neg_neg]at this;rw[this,qn ae,wd h];omega
  ·rw[qn ae,wc h];omega
theorem A2(neg:Bool)(D:Int)(l:∀(w:List Int) ob,Az qh w->kc qh w=D->Q (.agg [.dat .bool<|CM neg w,.dat li<|Ay w]) ob):∀(f:Nat) (v:Int) (o1:List Int),Ah v<f->(-9223372036854775808<=v/\v<9223372036854775808)->o1.length<=100->(Ah v≠0->Ah v*1000000000^o1.length<=9223372036854775808)->Az qh o1->kc qh o1+(qh:Int)^o1.length*Ah v=D->Ends zD (L2 v o1.length neg o1) Q
 |0,v,o1,r,j,o,k,i,a=>by
  have:=AJ v;omega
 |f+1,v,o1,r,j,o,k,i,a=>by
  obtain⟨q,d,s1,s2,s3,s4⟩:=PI j;by_cases h0:v=0
  ·subst h0;have p:Ah 0=0:=rfl;rw[p,Int.mul_zero,Int.add_zero]at a;refine zk (AG ..)<|zq rfl ?_;rw[yk];exact zc (by simp;omega)<|ze<|l _ _ i a
  ·have h:Ah v≠0:=by rw[Ak];omega
   have s:=k h;have m:o1.length<=10:=by
    rcases Nat.lt_or_ge 10 o1.length with g|g
    ·exfalso;have n:(1000000000:Int)^11<=1000000000^o1.length:=AQ af g;have u:(9223372036854775808:Int)<1000000000^11:=af
     have t:=z8 (show 1<=Ah v by have:=AJ v;omega) (show(0:Int)<=1000000000^o1.length by omega);omega
    ·exact g
   have eq:Ah (if v<0 then -(q:Int)else q)=q:=by rw[Ak];split<;>omega
   have go:Ends zD (L2 (if v<0 then -(q:Int)else q) (Nat.add o1.length 1) neg<|o1++[(d:Int)]) Q:=by
    have:=A2 neg D l f (if v<0 then -(q:Int)else q) (o1++[(d:Int)]) (by rw[eq];omega) (by have:=Ak v;split<;>omega) (by simp;omega) (fun _=>by
     rw[eq,zl];show(q:Int)*1000000000^(o1.length+1)<=_;rw[y7, <-Int.mul_assoc,Int.mul_right_comm];have n:=z8 (show(q:Int)*1000000000<=Ah v by omega) (show(0:Int)<=1000000000^o1.length from zx<|AU af _);omega) (FR i ae) (by
     rw[eq,Cv,zl];show kc qh o1+(qh:Int)^o1.length*(d:Int)+(qh:Int)^(o1.length+1)*(q:Int)=D;rw[Kf,Int.add_assoc, <-Int.mul_add, <-a,s1])
    rw[zl]at this;exact this
   refine zk (AG ..) (zc (by simpa using h0)<|zc rfl ?_);rw[s3,s4];refine zj (fun c=>zc (by simp;omega)<|zc rfl ?_) (fun c=>zc (by simp;omega)<|zc rfl ?_)
   ·have c:=w6 c;have b:v<0:=by split at c<;>omega
    rw[wd b]at c;rw[wd b,wd b];rw[wd b]at go;have e:zg .i64 (0 - -(d:Int))=(d:Int):=by rw[wr _ ae ae];omega
    rw[e];exact go
   ·have c:=w7 c;have e:(if v<0 then -(d:Int)else(d:Int))=(d:Int):=by split at c<;>split<;>omega
    rw[e];exact go
theorem ok:Af A8 97 HN:=by
 refine BR sS<|fun(v:Int) g=>?_;have g:=EG (n:=v) g;have fin:∀(w:List Int) ob,Az qh w->kc qh w=Ah v->Ad HN v (.agg [.dat .bool<|CM (decide (v<0)) w,.dat li<|Ay w]) ob:=by
  intro w ob j i;refine ym rfl rfl ?_;have:=MU (neg:=decide (v<0)) j i;have e:(if decide (v<0)=true then -Ah v else Ah v)=v:=by
   rw[Ak];by_cases h:v<0
   ·rw[wd<|w4 h];omega
   ·rw[wc<|by simpa using h];omega
  rw[e]at this;exact this
 obtain⟨q,d,s1,s2,s3,s4⟩:=PI g;have a:=AJ v;refine ye (Aj v) ?_;conv=>zeta
 by_cases h0:v=0
 ·subst h0;exact zk (Al ..) (zq rfl (zc rfl (ze<|fin [] _ (fun x b=>by cases b) rfl)))
 ·have eq:Ah (if v<0 then -(q:Int)else q)=q:=by rw[Ak];split<;>omega
  have go:Ends zD (L2 (if v<0 then -(q:Int)else q) 1 (decide (v<0)) [(d:Int)]) (Ad HN v):=by
   refine A2 (decide (v<0)) (Ah v) fin (q+1) _ [(d:Int)] (by rw[eq];omega) (by have:=Ak v;split<;>omega) (by simp) (fun _=>?_) (fun x b=>by rw[yx]at b;subst b;show 0<=_/\_<(1000000000:Int);omega) ?_
   ·rw[eq];show(q:Int)*1000000000^1<=_;have:=Ak v;omega
   ·rw[eq,EN,s1];show(d:Int)+(1000000000:Int)^1*(q:Int)=_;omega
  refine zk (Al ..) (zc (by simpa using h0)<|zc rfl ?_);rw[s3,s4];refine zj (fun c=>zc rfl (zc rfl ?_))<|fun c=>zc rfl (zc rfl ?_)
  ·have c:=w6 c;have a:v<0:=by split at c<;>omega
   rw[wd a]at c;rw[wd a,wd a];rw[wd a]at go;have f:zg .i64 (0 - -(d:Int))=(d:Int):=by rw[wr _ ae ae];omega
   rw[f];exact go
  ·have c:=w7 c;have f:(if v<0 then -(d:Int)else(d:Int))=(d:Int):=by split at c<;>split<;>omega
   rw[f];exact go
end T97
theorem xZ:CX XK3:=Aa T128.ok<|Aa T149.ok<|Aa T97.ok AE
theorem BW:∀(s:Z),AB s=s.take (AB s).length/\(Bs s=true->(AB s).length<s.length/\zp s=s.drop ((AB s).length+1))/\(Bs s=false->AB s=s/\zp s=[])
 |[]=>⟨rfl,(fun h=>(by cases h)),fun _=>⟨rfl,rfl⟩⟩
 |c::r=>by
  obtain⟨f,e,i⟩:=BW r;have j:zp (c::r)=if c=47 then r else zp r:=by
   unfold zp;rw[ql];by_cases h:c=47
   ·subst h;rfl
   ·rw[wc (by simpa using h),wc h];cases r.findIdx? (fun x=>x==47)<;>rfl
  have d:Bs (c::r)=(decide (c=47)||Bs r):=by
   unfold Bs;rw[List.any_cons];congr 1
  rw[Er,j,d];by_cases h:c=47
  ·rw[wd h,wd h,w4 h];exact⟨rfl,(fun _=>⟨by simp,rfl⟩),fun h=>by cases h⟩
  ·rw[wc h,wc h,w8 h];refine⟨?_,fun g=>?_,fun g=>?_⟩
   ·rw[zu,List.take_succ_cons, <-f]
   ·obtain⟨b,a⟩:=e g;refine⟨by simp;omega,?_⟩;rw[zu,List.drop_succ_cons];exact a
   ·obtain⟨b,a⟩:=i g;exact⟨by rw[b],a⟩
theorem T92.ok:Af A8 92 On:=by
 refine BR xZ<|fun(a:Z) d=>?_;have d:(DZ (AB a)&&DZ (zp a)&&decide (a.length<=5999))=true:=d;rw[zd,zd,w5]at d;obtain⟨⟨e,m⟩,n⟩:=d;obtain⟨c1,c2,c3⟩:=BW a;have es:A0 a=((AB a).length:Int):=rfl;have j:(AB a).length<=a.length:=(T122.DH a).1;refine ye (T92.Aj a) (zc (w4 ae)<|zj (fun c=>?_)<|fun c=>?_)
 ·have c:(AB a).length=a.length:=by
   have:((AB a).length:Int)=(a.length:Int):=by simpa [es]using c
   omega
  have b:Bs a=false:=by
   cases h:Bs a with
   |false=>rfl
   |true=>have:=(c2 h).1;omega
  obtain⟨g,i⟩:=c3 b;rw[g]at e;refine zc e<|zc rfl (ze<|ym rfl rfl ?_);show((Gi a,Eg a),(false,Sp.rW 1))=((BY a,BN a),(Bv a,Bm a));unfold BY BN Bv Bm Bf AN Gi Eg;rw[g,b];rfl
 ·have f:(AB a).length<a.length:=by
   have:((AB a).length:Int)≠(a.length:Int):=by simpa [es]using c
   omega
  have b:Bs a=true:=by
   cases h:Bs a with
   |true=>rfl
   |false=>have:=(c3 h).1;rw[this]at f;omega
  obtain⟨g,i⟩:=c2 b;have k:zg .i64 (((AB a).length:Int)+1)=(((AB a).length+1:Nat):Int):=by rw[wr _ ae ae];omega
  have l:(a.drop<|(AB a).length+1).take (jo a.length<|(AB a).length+1)=a.drop ((AB a).length+1):=yd (by rw[zt];exact yg _);rw[es,k,zi,zi,l, <-c1, <-i];refine zc (by simp;omega) (zc (by simp;omega)<|zc e<|zc m<|ze<|ym rfl rfl ?_);show((Gi<|AB a,Eg<|AB a),(Gi<|zp a,Eg<|zp a))=((BY a,BN a),(Bv a,Bm a));unfold BY BN Bv Bm Bf AN Gi Eg;rw[b];rfl
theorem vN:CX Wu:=Aa T128.okU<|Aa T129.okU<|Aa T92.ok<|Aa T130.ok AE
namespace T62
theorem sB{g:Int}(h0:0<=g):BS g=[1]↔g=1:=by
 constructor
 ·intro h;have:=Db (b:=qh) af h0;have h:Sp.dg qh g=[1]:=h;rw[h]at this;rw[<-this];rfl
 ·rintro rfl;rfl
theorem Cb(s:Z)(q:Aq (AB s)=true)(j:Bs s=true->Aq (zp s)=true)(u:(AB s).length<=600)(z:(zp s).length<=600)(w:s.length<=5999)
  (a:∀ob,Q (.dat i64<|if Bs s=true/\jf (AF 0<|AB s) (AF 0<|zp s)≠1 then 1 else 0) ob):Ends Wu (L4 s<|A0 s) Q:=by
 obtain⟨J,I,y⟩:=BW s;have es:A0 s=((AB s).length:Int):=rfl;refine zk (Ci ..) ?_;conv=>zeta
 rw[es];refine zj (fun c=>?_)<|fun c=>?_
 ·have c:=w6 c;have i:Bs s=true:=by
   cases h:Bs s with
   |true=>rfl
   |false=>have:=(y h).1;rw[this]at c;omega
  have j:=j i;obtain⟨H,A⟩:=LU q ae;obtain⟨r3,r4⟩:=LU j ae;have m:=Bl q;have o:=Bl j;have t:∀k:Nat,(10:Int)^k<=(qh:Int)^k:=by
   intro k;induction k with
   |zero=>exact jg _
   |succ k C=>
    rw[y7,y7];have l:=z8 C (show(0:Int)<=10 by decide);have E:=zn (show(10:Int)<=(qh:Int)by decide) (zx<|AU (b:=qh) af k);exact qi l E
  have p:AF 0 (AB s)<(qh:Int)^600:=zo m.2 (qi (t _)<|AQ af u);have r:AF 0 (zp s)<(qh:Int)^600:=zo o.2 (qi (t _) (AQ af z));have G:BN s=BS (AF 0<|AB s):=by
   unfold BN Bf Sp.rW;rw[A,show Ah (AF 0<|AB s)=AF 0 (AB s)by rw[Ak];omega]
  have v:Bm s=BS (AF 0<|zp s):=by
   unfold Bm AN Sp.rW;rw[wd i,r4,show Ah (AF 0<|zp s)=AF 0 (zp s)by rw[Ak];omega]
  obtain⟨n1,_,v1,l1⟩:=F9 (k:=600) m.1 p af;obtain⟨n2,_,v2,l2⟩:=F9 (k:=600) o.1 r af;have rat:DR s=true:=by
   unfold DR;rw[H,r3];exact w4 w
  rw[G,v];refine zc rat (zk (EO ..)<|zc (Ab (Ab (Ab n1 n2)<|w4 ae)<|w4 ae) ?_);have D:CF (BS<|AF 0<|AB s) (BS<|AF 0<|zp s)=BS (jf (AF 0<|AB s)<|AF 0<|zp s):=by
   unfold CF;rw[v1,v2]
  rw[D];obtain⟨B,_⟩:=Aaq m.1 o.1 p r;generalize jf (AF 0<|AB s) (AF 0<|zp s)=g at*;have l:=sB B;by_cases h:g=1
  ·rw[wc<|fun x=>x.2 h]at a;rw[l.2 h];exact zk (EX ..)<|zq rfl (zc rfl (zq rfl (ze<|a _)))
  ·rw[wd ⟨i,h⟩]at a;have f:BS g≠[1]:=fun x=>h<|l.1 x
   refine zk (EX ..)<|zj (fun d=>ze<|a _)<|fun d=>?_;have d:(BS g).length=1:=by
    have:((BS g).length:Int)=1:=by simpa using d
    omega
   obtain⟨x,F⟩:=List.length_eq_one_iff.1 d;rw[F]at f ⊢;have n:x≠1:=fun e=>f (by rw[e])
   exact zc rfl (zc (by simpa using n)<|ze<|a _)
 ·have c:=w7 c;have i:Bs s=false:=by
   cases h:Bs s with
   |false=>rfl
   |true=>have:=(I h).1;omega
  rw[wc<|fun x=>by rw[i]at x;cases x.1]at a;exact ze<|a _
theorem A2(s:Z)(r:Aq (AB s)=true)(x:s.length<=9223372036854775807)(a:∀ob,Q (.dat i64<|T122.E (AB s) (zp s) (Bs s)<|!Bs s||(AX (zp s)&&decide (zp s≠[48])&&decide (zp s≠[49]))) ob):Ends Wu (L2 s<|A0 s) Q:=by
 obtain⟨w,m,k⟩:=BW s;have es:A0 s=((AB s).length:Int):=rfl;have t:=T122.DH s;have big:(Bs s=true->Aq (zp s)=true)->(∀ob,Q (.dat i64<|T122.E (AB s) (zp s) (Bs s) true) ob)->Ends Wu (L3 s<|A0 s) Q:=by
  intro u a;unfold T122.E at a;rw[wc af]at a;have b:s.length=(AB s).length+(if Bs s=true then 1+(zp s).length else 0):=by
   cases h:Bs s with
   |true=>obtain⟨j,i⟩:=m h;rw[wd rfl,i,zt];omega
   |false=>obtain⟨j,i⟩:=k h;rw[wc af,j];rfl
  have l:Bs s=false->(zp s).length=0:=fun h=>by rw[(k h).2];rfl
  refine zk (BA ..) ?_;conv=>zeta
  rw[es,wr ((s.length:Int)-((AB s).length:Int)) ae ae,wr _ ae ae];refine zj (fun c=>?_)<|fun c=>zj (fun d=>?_)<|fun d=>?_
  ·have c:=w6 c;rw[wd<|.inl ae]at a;exact ze<|a _
  ·have c:=w7 c;have d:=w6 d;have:600<(zp s).length:=by split at b<;>omega
   rw[wd<|.inr this]at a;exact ze<|a _
  ·have c:=w7 c;have d:=w7 d;have v:(zp s).length<=600:=by
    cases h:Bs s with
    |true=>rw[h,wd rfl]at b;omega
    |false=>have:=l h;omega
   rw[wc ae]at a;exact Cb s r u ae v (by split at b<;>omega) a
 refine zk (AG ..) ?_;conv=>zeta
 cases g:Bs s with
 |false=>
  rw[g]at a;have o:¬(A0 s<(s.length:Int)):=by rw[es,(k g).1];omega
  exact zq (w8 o) (big (fun h=>by rw[g]at h;cases h)<|by rw[g];exact a)
 |true=>
  rw[g]at a;obtain⟨j,i⟩:=m g;have q:zg .i64 (((AB s).length:Int)+1)=(((AB s).length+1:Nat):Int):=by rw[wr _ ae ae];omega
  have n:(s.drop<|(AB s).length+1).take (jo s.length<|(AB s).length+1)=s.drop ((AB s).length+1):=yd (by rw[zt];exact yg _);rw[es,q,zi,n, <-i];rw[es]at big;have bad:(!true||(AX (zp s)&&decide (zp s≠[48])&&decide (zp s≠[49])))=false->∀ob,Q (.dat i64 1) ob:=by
   intro h ob;have:=a ob;rw[h]at this;exact this
  refine zc (by simp;omega) (zc (by simp;omega)<|zc (w4 ae)<|zj (fun d=>ze<|bad ?_ _)<|fun d=>zc (by simp;omega)<|zj (fun e=>ze<|bad ?_ _)<|fun e=>zc (by simp;omega)<|zj (fun f=>ze<|bad ?_ _)<|fun f=>?_)
  ·have d:AX (zp s)=false:=by simpa using d
   rw[d];rfl
  ·have e:zp s=[48]:=by simpa using e
   rw[w8 (p:=zp s≠[48])<|fun h=>h e];simp
  ·have f:zp s=[49]:=by simpa using f
   rw[w8 (p:=zp s≠[49])<|fun h=>h f];simp
  ·have d:AX (zp s)=true:=by simpa using d
   have e:zp s≠[48]:=by simpa using e
   have f:zp s≠[49]:=by simpa using f
   rw[d,w4 e,w4 f]at a;exact big (fun _=>(HS d).2) (by rw[g];exact a)
theorem Ar(a s:Z)(c:s=A9 a)(n:a.length<=9223372036854775807)(b:∀ob,Q (.dat i64<|Ao a) ob):Ends Wu (L1 a s) Q:=by
 obtain⟨i,q,o⟩:=BW s;have es:A0 s=((AB s).length:Int):=rfl;have k:s.length<=a.length:=by rw[c];exact T122.Zq a
 have j:=T122.DH s;have m:Ao a=T122.E (AB s) (zp s) (Bs s) (AX (AB s)&&(!jz a||decide (AB s≠[48]))&&(!Bs s||(AX (zp s)&&decide (zp s≠[48])&&decide (zp s≠[49])))):=by rw[c];rfl
 rw[m]at b;have tk:s.take (AB s).length=AB s:=i.symm;refine zk (Al ..) ?_;conv=>zeta
 rw[show A0 s=((AB s).length:Int)from rfl,zi,tk];refine zc (w4 ae) (zc (by simp;omega) (zc (w4 ae)<|zj (fun d=>?_)<|fun d=>?_))
 ·have d:AX (AB s)=false:=by simpa using d
  rw[d]at b;exact ze<|b _
 ·have d:AX (AB s)=true:=by simpa using d
  have g:=(HS d).2;have l:a.length≠0:=by
   intro h;have h:=yc.1 h;have:s=[]:=by rw[c,h];rfl
   rw[this]at d;exact wh d af
  rw[d,yt]at b;refine zc (w4 ae) (zj (fun e=>zc (by simp;omega)<|zj (fun f=>?_)<|fun f=>?_)<|fun e=>?_)
  ·have hp:jz a=true:=by
    unfold jz;refine w4<|yr.1 ?_;have:((a.getD 0 0).toNat:Int)=45:=by simpa using e
    show _=45;omega
   have f:AB s=[48]:=by simpa using f
   rw[hp,w8 (p:=AB s≠[48])<|fun h=>h f]at b;exact ze<|b _
  ·have f:AB s≠[48]:=by simpa using f
   rw[w4 f,Bool.or_true,yt]at b;exact A2 s g ae b
  ·have hp:jz a=false:=by
    unfold jz;refine w8<|fun h=>?_;rw[h]at e;exact wh e af
   rw[hp,Bool.not_false,Bool.true_or,yt]at b;exact A2 s g ae b
theorem ok:Af A8 62 Fg:=by
 refine BR vN<|fun(a:Z) b=>?_;have b:a.length<=1000000:=w6 b;have f:∀ob,Ad Fg a (.dat i64<|Ao a) ob:=fun ob=>ym rfl rfl rfl
 refine ye (Aj a) ?_;conv=>zeta
 cases a with
 |nil=>exact zq rfl (Ar [] [] rfl (qz b af) f)
 |cons c r=>
  have g:(c::r).getD 0 0=c:=rfl;rw[g];refine zc (by simp) (zc (by simp) (zj (fun d=>zc (by simp) ?_)<|fun d=>?_))
  ·have h:c=45:=by
    have:(c.toNat:Int)=45:=by simpa using d
    exact yr.1 (by show _=45;omega)
   have e:(List.drop 1 (c::r)).take (jo (c::r).length 1)=r:=by show r.take ((r.length+1)-1)=r;rw[Nat.add_sub_cancel];exact yk
   rw[e];exact Ar (c::r) r (by unfold A9;rw[g,wd h];rfl) (qz b af) f
  ·have h:c≠45:=by rintro rfl;exact wh d af
   exact Ar (c::r) (c::r) (by unfold A9;rw[g,wc h]) (qz b af) f
end T62
theorem HL:CX rD:=
 Aa T161.ok (Aa T143.ok<|Aa T190.ok<|Aa T170.ok<|Aa T106n.ok<|Aa T139.ok<|Aa T127.ok<|Aa T105.ok<|Aa T124.ok<|Aa T126.ok AE)
theorem Fc{a:AK}(h:N6 a=true):Bh a=true/\Ah (zf a)<(Ap:Int)^4000:=by
 unfold N6 at h;rw[zd,w5]at h;refine⟨?_,Jk h.1 h.2 af⟩;unfold Bh;exact Ab h.1 (w4 ae)
theorem MD{x y:Int}(c:Ah x<(Ap:Int)^4000)(a:Ah y<(Ap:Int)^4000):Ah (x*y)<(Ap:Int)^8000:=by
 rw[JF];have h0:=AJ x;have hp:=AU (b:=Ap) af 4000;have a1:=zn (zx a) h0;have a2:=Int.mul_lt_mul_of_pos_right c hp;have a3:(Ap:Int)^4000*(Ap:Int)^4000=(Ap:Int)^8000:=(Int.pow_add _ 4000 4000).symm;rw[a3]at a2;exact zy a1 a2
theorem Afm{x:Int}(h:x<(Ap:Int)^8000):x<(Ap:Int)^9000:=zo h (AQ af af)
theorem UB{x y:Int}(b:Ah x<(Ap:Int)^4000)(a:Ah y<(Ap:Int)^4000):Bh (Dd<|x*y)=true:=D8<|Afm<|MD b a
theorem Adc{a b:AK}(e:Bh a=true)(f:Bh b=true)(h:Ah (zf a+zf b)<(Ap:Int)^9000):Bh (ES a b)=true:=by
 have d:=T0 e f;unfold ES at d ⊢;split
 ·rename_i c;rw[wd c]at d;unfold Bh;exact Ab d rfl
 ·exact D8 h
theorem xP(n:Nat):(2:Int)*(Ap:Int)^n<=(Ap:Int)^(n+1):=by
 rw[y7,j0];exact zn af (zx (AU (b:=Ap) af n))
theorem nI{x y:Int}(d:Ah x<(Ap:Int)^8000)(c:Ah y<(Ap:Int)^8000):Ah (x+y)<(Ap:Int)^9000:=by
 have a:=xP 8000;have b:(Ap:Int)^8001<=(Ap:Int)^9000:=AQ af af;have a:(2:Int)*(Ap:Int)^8000<=(Ap:Int)^8001:=a;generalize (Ap:Int)^8000=p at*;generalize (Ap:Int)^8001=q at*;generalize (Ap:Int)^9000=r at*;rw[Ak]at*;omega
theorem Vs(a:AK):decide (Ix a<0)=decide (zf a<0):=by
 unfold Ix Sp.NQ;rw[Bool.eq_iff_iff,w5,w5];split
 ·omega
 ·split<;>omega
theorem ZK{n d:AK}(h:KZ n d=true):Bh n=true/\Bh d=true/\zf d≠0:=by
 unfold KZ at h;rw[zd,zd,w5]at h;exact⟨h.1.1,h.1.2,h.2⟩
theorem T55.ok:Af A8 55 MC:=by
 refine BR HL<|fun(a:Z) b=>?_;have b:(DZ (AB a)&&DZ (zp a)&&decide (a.length<=5999))=true:=b;rw[zd,zd,w5]at b;obtain⟨⟨d,e⟩,f⟩:=b;refine ye (T55.Aj a) (zc (Ab (w4 rfl)<|w4 ae)<|zj (fun c=>zc d<|zc rfl (ze<|ym rfl rfl ?_))<|fun c=>zc d<|zc e<|ze<|ym rfl rfl ?_)
 ·have c:Bs a=false:=by simpa using c
  show((Dv<|AB a,Dy<|AB a),((1:Int),Co 1))=((RI a,RC a),(Re a,Rg a));unfold Re Rg AN;rw[c,OC];rfl
 ·have c:Bs a=true:=by simpa using c
  show((Dv<|AB a,Dy<|AB a),(Dv<|zp a,Dy<|zp a))=((RI a,RC a),(Re a,Rg a));unfold Re Rg AN;rw[c];rfl
theorem T189.ok:Af A8 189 cIQ:=by
 refine BR HL<|fun(i:(Int×List Int)×(Int×List Int)) hi=>?_;obtain⟨a,b⟩:=i;obtain⟨ha,hb,h0⟩:=ZK (n:=a) (d:=b) hi;refine ye (T189.Aj a b)<|zc (Cc hb).1 ?_;rw[Vs];refine zj (fun c=>zc (Cc ha).1<|zc (Cc hb).1<|zk (T189.Al ..)<|zc ?_<|ze<|ym rfl rfl ?_)<|fun c=>zk (T189.Al ..)<|zc ?_<|ze<|ym rfl rfl ?_
 ·have c:zf b<0:=w6 c;have:=IT b;exact Ab (Ab (Vx ha)<|Vx hb) (w4<|by show 0<zf (Du b);omega)
 ·have c:zf b<0:=w6 c;show HW (Du a) (Du b)=Sp.iQ a b;unfold Sp.iQ;rw[wd c]
 ·have c:¬zf b<0:=w7 c;exact Ab (Ab ha hb) (w4 (by show 0<zf b;omega))
 ·have c:¬zf b<0:=w7 c;show HW a b=Sp.iQ a b;unfold Sp.iQ;rw[wc c]
theorem rP:CX XA1:=Aa T161.ok<|Aa T143.ok<|Aa T170.ok<|Aa T189.ok AE
theorem Aas{n d:AK}(b:Bh d=true)(h0:zf d≠0):Bh (Sp.gR n d)=true/\zf (Sp.gR n d)=(qe (zf n) (zf d):Int)/\0<zf (Sp.gR n d):=by
 have e:zf (Sp.gR n d)=(qe (zf n) (zf d):Int):=by
  show zf (C4 _,C3 _)=_;rw[Ll,Gx]
 have hp:0<qe (zf n) (zf d):=Int.gcd_pos_of_ne_zero_right _ h0;refine⟨Gj<|D8 ?_,e,by rw[e];omega⟩;rw[Gx,Ak,zm];have c:=bounds b;rw[Ak]at c;have a:qe (zf n) (zf d)<=(zf d).natAbs:=Nat.gcd_le_right _ ae;omega
namespace T140
theorem Ar(g z2:Int)(n d:AK)(f:Bh n=true)(b:Bh d=true)(h0:zf d≠0)(a:∀ob,Q (.agg [.dat i64 (N5 n d).1.1,.dat (.nlist u64) (N5 n d).1.2,.dat i64 (N5 n d).2.1,.dat (.nlist u64) (N5 n d).2.2]) ob):
  Ends XA1 (L1 g z2 d.1 d.2 n.1 n.2) Q:=by
 obtain⟨j,_,l⟩:=Aas (n:=n) b h0;have next:C8 d=false->Ends XA1 (.ite (Bh (n.1,n.2)&&Bh (d.1,d.2)) (L2 (NR (n.1,n.2) (d.1,d.2)) (Nz (n.1,n.2) (d.1,d.2)) g z2 d.1 d.2 n.1 n.2) .fail) Q:=by
  intro i;unfold N5 at a;rw[wc<|by rw[i];decide]at a;have k:∀x:AK,Bh x=true->KZ x (Sp.gR n d)=true:=fun x h=>by unfold KZ;exact Ab (Ab h j) (w4 ae)
  exact zc (Ab f b)<|zk (AG ..)<|zc (k n f)<|zc (k d b)<|ze<|a _
 refine zk (Al ..)<|zj (fun c=>zj (fun e=>ze ?_)<|fun e=>next ?_)<|fun c=>next ?_
 ·have c:d.2=[]:=by simpa using c
  have e:d.1=1:=by simpa using e
  unfold N5 at a;rw[wd<|by unfold C8;simp[c,e]]at a;exact a _
 ·unfold C8;rw[Bool.and_eq_false_iff];right;simpa using e
 ·unfold C8;rw[Bool.and_eq_false_iff];left;have:d.2≠[]:=by rintro k;rw[k]at c;simp at c
  simpa using this
theorem ok:Af A8 140 pD:=by
 refine BR rP<|fun(i:(Int×List Int)×(Int×List Int)) hi=>?_;obtain⟨n,d⟩:=i;obtain⟨hn,hd,h0⟩:=ZK (n:=n) (d:=d) hi;have vn:=IT d;refine ye (Aj n d)<|zc (Cc hd).1 ?_;rw[Vs];refine zj (fun c=>zc (Cc hn).1<|zc (Cc hd).1<|Ar 0 0 (Du n) (Du d) (Vx hn) (Vx hd) ae<|fun ob=>ym rfl rfl ?_)<|fun c=>Ar 0 0 n d hn hd h0<|fun ob=>ym rfl rfl ?_
 ·have c:zf d<0:=w6 c;show N5 (Du n) (Du d)=S7 n d;unfold S7;rw[wd c]
 ·have c:¬zf d<0:=w7 c;show N5 n d=S7 n d;unfold S7;rw[wc c]
end T140
theorem T138.ok:Af A8 138 QH:=by
 refine BR HL<|fun(a:(Int×List Int)×(Int×List Int)) _=>?_;refine ye (T138.Aj a)<|zj (fun c=>ze<|ym rfl rfl ?_)<|fun c=>ze<|ym rfl rfl ?_
 ·have c:a.2.2=[]:=by simpa using c
  show(a.2.1==(1:Int))=C8 a.2;unfold C8;rw[w4 c,yt];rfl
 ·have c:a.2.2≠[]:=by rintro k;rw[k]at c;simp at c
  show false=C8 a.2;unfold C8;rw[w8 c,Bool.false_and]
theorem T125.ok:Af A8 125 pV:=by
 refine BR HL<|fun(a:Int×List Int) _=>?_;exact ye (T125.Aj a)<|zc rfl (ze<|ym rfl rfl rfl)
theorem T137.ok:Af A8 137 zH:=by
 refine BR HL<|fun(a:(Int×List Int)×(Int×List Int)) h=>?_;exact ye (T137.Aj a)<|zc h<|ze<|ym rfl rfl rfl
theorem T56.ok:Af A8 56 Rj:=by
 refine BR HL<|fun(i:((Int×List Int)×(Int×List Int))×((Int×List Int)×(Int×List Int))) c=>?_;obtain⟨a,b⟩:=i;have c:((N6 a.1&&N6 a.2)&&(N6 b.1&&N6 b.2))=true:=c;rw[zd,zd,zd]at c;obtain⟨⟨a1,a2⟩,b1,b2⟩:=c;obtain⟨a1,la1⟩:=Fc a1;obtain⟨a2,la2⟩:=Fc a2;obtain⟨b1,lb1⟩:=Fc b1;obtain⟨b2,lb2⟩:=Fc b2;refine ye (T56.Aj a b)<|zc (Ab a1 b2)<|zc (Ab b1 a2)<|zc (Ab (UB la1 lb2)<|UB lb1 la2)<|ze<|ym rfl rfl ?_;show Ck (zf<|FN a.1 b.2) (zf<|FN b.1 a.2)=Ck _ _;rw[DQ,DQ]
theorem Hi{a:Ag}(h:jm a=true):Bh a.1=true/\Bh a.2=true/\Ah (zf a.1)<(Ap:Int)^4000/\Ah (zf a.2)<(Ap:Int)^4000/\0<zf a.2:=by
 unfold jm Sp.Cw at h;rw[zd,zd,w5]at h;obtain⟨a1,b⟩:=Fc h.1.1;obtain⟨a2,b2⟩:=Fc h.1.2;exact⟨a1,a2,b,b2,h.2⟩
theorem TG:CX XA2:=Aa T138.ok<|Aa T125.ok<|Aa T139.ok<|Aa T127.ok<|Aa T140.ok AE
theorem Tp{n d:AK}(b:Bh n=true)(a:Bh d=true)(h0:zf d≠0):KZ n d=true:=by
 unfold KZ;exact Ab (Ab b a)<|w4 h0
theorem N3{a b:AK}(c:Ah (zf a)<(Ap:Int)^4000)(d:Ah (zf b)<(Ap:Int)^4000):Bh (FN a b)=true:=UB c d
theorem T102.ok:Af A8 102 VY:=by
 refine BR TG<|fun(i:((Int×List Int)×(Int×List Int))×((Int×List Int)×(Int×List Int))) c=>?_;obtain⟨a,b⟩:=i;have c:(jm a&&jm b)=true:=c;rw[zd]at c;obtain⟨a1,a2,la1,la2,a0⟩:=Hi c.1;obtain⟨b1,b2,lb1,lb2,b0⟩:=Hi c.2;have d:zf (FN a.2 b.2)≠0:=by rw[DQ];exact yf<|qv a0 b0
 exact ye (T102.Aj a b)<|zc (Ab a1 b1)<|zc (Ab a2 b2)<|zc (Tp (N3 la1 lb1) (N3 la2 lb2) d)<|ze<|ym rfl rfl rfl
namespace T75
theorem Ar(e z2:Int)(a b:Ag)(h:jm a=true)(k:jm b=true)(g:∀ob f,f=S7 (ES (FN a.1 b.2)<|FN b.1 a.2) (FN a.2 b.2)->Q (.agg [.dat i64 f.1.1,.dat (.nlist u64) f.1.2,.dat i64 f.2.1,.dat (.nlist u64) f.2.2]) ob):
  Ends XA2 (L1 e z2 b.1.1 b.1.2 b.2.1 b.2.2 a.1.1 a.1.2 a.2.1 a.2.2) Q:=by
 obtain⟨a1,a2,d,c,a0⟩:=Hi h;obtain⟨b1,b2,lb1,lb2,b0⟩:=Hi k;have i:zf (FN a.2 b.2)≠0:=by rw[DQ];exact yf<|qv a0 b0
 have j:Bh (ES (FN a.1 b.2)<|FN b.1 a.2)=true:=Adc (N3 d lb2) (N3 lb1 c) (by rw[DQ,DQ];exact nI (MD d lb2)<|MD lb1 c);exact zk (Al ..)<|zc (Ab a1 b2)<|zc (Ab b1 a2)<|zc (Ab (N3 d lb2)<|N3 lb1 c)<|zc (Ab a2 b2)<|zc (Tp j (N3 c lb2) i)<|ze<|g _ _ rfl
theorem ok:Af A8 75 NI:=by
 refine BR TG<|fun(i:((Int×List Int)×(Int×List Int))×((Int×List Int)×(Int×List Int))) e=>?_;obtain⟨a,b⟩:=i;have e:(jm a&&jm b)=true:=e;rw[zd]at e;obtain⟨a1,a2,la1,la2,a0⟩:=Hi e.1;obtain⟨b1,b2,lb1,lb2,b0⟩:=Hi e.2;have g:¬(C8 a.2=true/\C8 b.2=true)->Ends XA2 (L1 0 0 b.1.1 b.1.2 b.2.1 b.2.2 a.1.1 a.1.2 a.2.1 a.2.2) (Ad NI (a,b)):=fun h=>
  Ar 0 0 a b e.1 e.2 (fun ob f j=>ym rfl rfl (by
   show f=Cd a b;unfold Cd;rw[wc h];exact j))
 refine ye (Aj a b) (zc rfl (zj (fun c=>zc rfl (zj (fun d=>zc (Ab a1 b1)<|zc rfl (ze<|ym rfl rfl ?_))<|fun d=>g (fun k=>by have:=k.2;rw[show C8 b.2=false from d]at this;cases this)))<|fun c=>g (fun k=>by have:=k.1;rw[show C8 a.2=false from c]at this;cases this)));show Sp.fWh (ES a.1 b.1)=Cd a b;unfold Cd;rw[wd ⟨c,d⟩]
end T75
theorem T141.ok:Af A8 141 Aag:=by
 refine BR TG<|fun(a:(Int×List Int)×(Int×List Int)) b=>?_;have b:(jm a&&decide (zf a.1≠0))=true:=b;rw[zd,w5]at b;obtain⟨a1,a2,c,d,a0⟩:=Hi b.1;exact ye (T141.Aj a)<|zc (Tp a2 a1 b.2)<|ze<|ym rfl rfl rfl
theorem Yv{a:AK}(h:ke a=true){k:Nat}(c:Ah (zf a)<(Ap:Int)^k):a.2.length<=k:=by
 rcases Pw h with⟨b,_⟩|b
 ·rw[b];exact yp _
 ·rw[<-b];exact KJ (AJ _) c
theorem GQ{a:AK}(h:ke a=true)(b:Ah (zf a)<(Ap:Int)^4000):N6 a=true:=by
 unfold N6;exact Ab h<|w4<|Yv h b
structure Fk(f:Ag)(q:Rat):Prop where
 n:ke f.1=true
 d:ke f.2=true
 vn:zf f.1=q.num
 vd:zf f.2=(q.den:Int)
def Mt(k:Nat)(q:Rat):Prop:=Ah q.num<(Ap:Int)^k/\(q.den:Int)<(Ap:Int)^k
theorem Fk.den_pos{f:Ag}{q:Rat}(h:Fk f q):0<zf f.2:=by
 rw[h.vd];have:=q.den_pos;omega
theorem Fk.CQ{f:Ag}{q:Rat}(h:Fk f q)(a:Mt 4000 q):jm f=true:=by
 unfold jm Sp.Cw;have b:Ah (zf f.2)=(q.den:Int):=by rw[h.vd,Ak,zm]
 exact Ab (Ab (GQ h.n<|by rw[h.vn];exact a.1)<|GQ h.d<|by rw[b];exact a.2)<|w4 h.den_pos
theorem Yx{x y:Int}:Ah (x/y)<=Ah x:=by
 rw[Ak,Ak];have a:=qt x y;omega
theorem AbA{a b:AK}(d:0<zf b):zf (HW a b)=zf a/zf b:=by
 unfold HW;generalize k:zf a=x;generalize zf b=y at d;have f:=Int.mul_ediv_add_emod (Ah x) y;have i:=Int.emod_nonneg (Ah x)<|yf d;have j:=Int.emod_lt_of_pos (Ah x) d;split
 ·next c=>
  rw[hJ,CL,E4];obtain⟨l,g⟩:=c;symm;rw[q9 d];have e:Ah x= -x:=by rw[Ak];omega
  rw[e]at f i j g ⊢;generalize -x/y=q at*;generalize -x % y=r at*;rw[Int.sub_mul,Int.neg_mul,j0 q y];generalize y*q=t at*;omega
 ·next c=>
  rw[CL];unfold Sp.sg;split
  ·next n=>
   have n:x<0:=w6 n;have g:Ah x % y=0:=qu fun h=>c ⟨n,h⟩
   symm;rw[q9 d];have e:Ah x= -x:=by rw[Ak];omega
   rw[g]at f;rw[e]at f ⊢;generalize -x/y=q at*;rw[Int.neg_mul,j0 q y];generalize y*q=t at*;omega
  ·next n=>
   have n:¬x<0:=fun h=>n<|w4 h
   have e:Ah x=x:=by rw[Ak];omega
   rw[e]
theorem uO{a b:AK}(e:Bh a=true)(g:0<zf b):ke (HW a b)=true:=by
 have d:=bounds e;have h:Ah (zf a)/zf b<=Ah (zf a):=Int.ediv_le_self _<|AJ _;have f:0<=Ah (zf a)/zf b:=Int.ediv_nonneg (AJ _)<|zx g;unfold HW;generalize Ah (zf a)/zf b=q at*;have c:Ah q<(Ap:Int)^9000:=by
  refine zy ?_ d;rw[Ak];omega
 split
 ·exact T0 (D8<|by rw[Jv];exact c) af
 ·refine(Oo (k:=9000) ?_ ae).1;unfold Sp.sg;split
  ·rw[Jv];exact c
  ·exact c
theorem Aal{a b:AK}(c:0<zf b):zf (Sp.iQ a b)=zf a/zf b:=by
 unfold Sp.iQ;rw[wc ae];exact AbA c
theorem iA{a b:AK}(c:Bh a=true)(d:0<zf b):ke (Sp.iQ a b)=true:=by
 unfold Sp.iQ;rw[wc ae];exact uO c d
theorem UU{n d:AK}(h:Bh n=true)(b:Bh d=true)(h0:0<zf d):Fk (N5 n d) (z6 (zf n)<|zf d):=by
 have j:(zf d).sign=1:=jc h0;have i:(z6 (zf n)<|zf d).num=zf n/(qe (zf n) (zf d):Int):=by
  rw[qo,j,Int.one_mul,j7]
 have g:((z6 (zf n)<|zf d).den:Int)=zf d/(qe (zf n) (zf d):Int):=by
  rw[qp,wc<|yf h0,j7,Int.natCast_ediv];rw[Int.natAbs_of_nonneg<|zx h0]
 obtain⟨k,f,a⟩:=Aas (n:=n) b<|yf h0;unfold N5;split
 ·next c=>
  unfold C8 at c;rw[zd,w5,w5]at c;have e:zf d=1:=by rw[Br c.1];exact c.2
  refine⟨(Cc h).1,(Cc b).1,?_,?_⟩
  ·rw[i,e,Int.gcd_one];exact(j8 _).symm
  ·rw[g,e,Int.gcd_one];exact(j8 _).symm
 ·refine⟨iA h a,iA b a,?_,?_⟩
  ·rw[Aal a,i,f]
  ·rw[Aal a,g,f]
theorem Mb{n d:AK}(f:Bh n=true)(b:Bh d=true)(h0:zf d≠0):Fk (S7 n d) (z6 (zf n)<|zf d):=by
 unfold S7;split
 ·next c=>
  have h:=UU (Vx f) (Vx b) (by rw[IT];omega);rw[IT,IT]at h;have e:=Rat.divInt_mul_right (n:=zf n) (d:=zf d) (a:= -1) af;rw[Int.mul_neg,qw,Int.mul_neg,qw]at e;rw[e]at h;exact h
 ·exact UU f b ae
theorem Mt.bM{k:Nat}{f:Ag}{q:Rat}(h:Fk f q)(a:Mt k q):Ah (zf f.1)<(Ap:Int)^k/\Ah (zf f.2)<(Ap:Int)^k:=by
 rw[h.vn,h.vd];refine⟨a.1,?_⟩;rw[Ak,zm];exact a.2
theorem Fk.eqd{f:Ag}{q:Rat}(h:Fk f q):z6 (zf f.1) (zf f.2)=q:=by
 rw[h.vn,h.vd];exact zr q
theorem Fk.neg{f:Ag}{q:Rat}(h:Fk f q)(c:Mt 4000 q):Fk (Abf f) (-q):=by
 have a:=Mt.bM h c;have b:=Xz (k:=4000) h.n ae ae<|Yv h.n a.1;exact⟨b.1,h.d,by show zf (Du f.1)=_;rw[IT,h.vn,jh],by show zf f.2=_;rw[h.vd,ji]⟩
theorem Mt.neg{k:Nat}{q:Rat}(h:Mt k q):Mt k (-q):=by
 unfold Mt;rw[jh,ji,Jv];exact h
theorem Fk.mul{f g:Ag}{p q:Rat}(e:Fk f p)(c:Fk g q)(sp:Mt 4000 p)(i:Mt 4000 q):Fk (GF f g) (p*q):=by
 have a:=Mt.bM e sp;have b:=Mt.bM c i;have h:=Mb (n:=FN f.1 g.1) (d:=FN f.2 g.2) (N3 a.1 b.1) (N3 a.2 b.2) (by rw[DQ];exact yf<|qv e.den_pos c.den_pos);rw[DQ,DQ, <-Rat.divInt_mul_divInt,e.eqd,c.eqd]at h;exact h
theorem Fk.add{f g:Ag}{p q:Rat}(i:Fk f p)(e:Fk g q)(sp:Mt 4000 p)(s:Mt 4000 q):Fk (Cd f g) (p+q):=by
 have a:=Mt.bM i sp;have b:=Mt.bM e s;have m:=Fc<|GQ i.n a.1;have t:=Fc<|GQ e.n b.1;unfold Cd;split
 ·next c=>
  obtain⟨j,k⟩:=c;unfold C8 at j k;rw[zd,w5,w5]at j k;have o:(p.den:Int)=1:=by rw[<-i.vd,Br j.1];exact j.2
  have l:(q.den:Int)=1:=by rw[<-e.vd,Br k.1];exact k.2
  have r:z6 p.num 1=p:=by have:=zr p;rw[o]at this;exact this
  have eq:z6 q.num 1=q:=by have:=zr q;rw[l]at this;exact this
  have es:p+q=z6 (p.num+q.num) 1:=by
   have h:=qc p.num q.num (d₁:=1) (d₂:=1) af af;rw[r,eq,qw,qw,qw]at h;exact h
  refine⟨T0 m.1 t.1,by show ke (1,Co 1)=true;rw[OC];rfl,?_,?_⟩
  ·show zf (ES f.1 g.1)=_;rw[Xg,i.vn,e.vn,es,qo];simp
  ·show zf (1,Co 1)=_;rw[OC,CL,es,qp];simp
 ·have h:=Mb (n:=ES (FN f.1 g.2)<|FN g.1 f.2) (d:=FN f.2 g.2) (Adc (N3 a.1 b.2) (N3 b.1 a.2)<|by rw[DQ,DQ];exact nI (MD a.1 b.2)<|MD b.1 a.2) (N3 a.2 b.2) (by rw[DQ];exact yf<|qv i.den_pos e.den_pos);rw[Xg,DQ,DQ,DQ, <-qc _ _ (yf i.den_pos) (yf e.den_pos),i.eqd,e.eqd]at h;exact h
theorem Fk.sub{f g:Ag}{p q:Rat}(c:Fk f p)(b:Fk g q)(sp:Mt 4000 p)(a:Mt 4000 q):Fk (Gu f g) (p-q):=by
 rw[Rat.sub_eq_add_neg];exact c.add (b.neg a) sp a.neg
theorem Fk.inv{f:Ag}{p:Rat}(b:Fk f p)(sp:Mt 4000 p)(h0:p≠0):Fk (WC f) p⁻¹:=by
 have a:=Mt.bM b sp;have c:=Fc<|GQ b.n a.1;have e:=Fc<|GQ b.d a.2;have h:=Mb e.1 c.1 (by rw[b.vn];exact fun h=>h0<|qg.mp h);rw[<-Rat.inv_divInt,b.eqd]at h;exact h
end Go.Pe
namespace Go.Sp
open Go.Lib
theorem OU{P:Nat->Z->Prop}(c:∀d,d<10->P d [zw<|48+d])(b:∀a d,0<a->d<10->P a (decDigits a)->P (10*a+d) (decDigits a++[zw<|48+d]))(n:Nat):P n (decDigits n):=by
 induction n using Nat.strongRecOn with
 |_ n f=>
  by_cases h:n<10
  ·rw[decDigits_one h];exact c n h
  ·have e:n=10*(n/10)+n % 10:=ae
   have:=b (n/10) (n % 10) ae (Nat.mod_lt _ af) (f (n/10) ae);rw[<-Gk _ _ ae (Nat.mod_lt _ af), <-e]at this;exact this
theorem KX:∀d:Fin 10,(zw<|48+d.1).toNat=48+d.1:=af
theorem Ln{d:Nat}(h:d<10):B4 (zw<|48+d)=true/\H6 (zw<|48+d)=d:=by
 have e:(zw<|48+d).toNat=48+d:=KX ⟨d,h⟩;unfold B4 H6;rw[e];refine⟨?_,by omega⟩;rw[w4 ae,w4 ae];rfl
theorem mL{c:UInt8}(h:B4 c=true):c=zw (48+(H6 c).toNat)/\(H6 c).toNat<10:=by
 obtain⟨d,b⟩:=Dg h;have a:(H6 c).toNat<10:=ae
 refine⟨yr.1 ?_,a⟩;rw[KX ⟨(H6 c).toNat,a⟩];show c.toNat=48+(H6 c).toNat;unfold H6 at*;omega
theorem Tu(n:Nat):decDigits n≠[]:=OU (P:=fun _ l=>l≠[]) (fun _ _=>by simp) (fun _ _ _ _ _=>by simp) n
theorem Ec(n:Nat):Aq (decDigits n)=true:=by
 refine OU (P:=fun _ l=>Aq l=true) (fun d h=>?_) (fun a d _ h b=>?_) n
 ·unfold Aq;rw[zz,(Ln h).1];rfl
 ·unfold Aq at*;rw[List.all_append,b,zz,(Ln h).1];rfl
theorem HR(n:Nat):AF 0 (decDigits n)=n:=by
 refine OU (P:=fun n l=>AF 0 l=n) (fun d h=>?_) (fun a d _ h b=>?_) n
 ·show 10*0+H6 (zw<|48+d)=d;rw[(Ln h).2];omega
 ·rw[C6,b];show 10*(a:Int)+H6 (zw<|48+d)=_;rw[(Ln h).2];omega
theorem mW(n:Nat)(h0:0<n):(decDigits n).getD 0 0≠48:=by
 refine OU (P:=fun n l=>0<n->l.getD 0 0≠48) (fun d h h0=>?_) (fun a d i _ j _=>?_) n h0
 ·show zw (48+d)≠48;intro e;have:=KX ⟨d,h⟩;have g:=wi yb e;rw[show(zw<|48+d).toNat=48+d from this]at g;have:(48:UInt8).toNat=48:=rfl;omega
 ·have b:=j i;cases f:decDigits a with
  |nil=>exact wh f<|Tu a
  |cons c r=>rw[f]at b;exact b
theorem Wh(n:Nat):AX (decDigits n)=true:=by
 unfold AX;rw[Ec,w4<|Tu n];rcases yq n with rfl|h
 ·rw[decDigits_one af];rfl
 ·rw[w4<|mW n h];rfl
theorem Gq{s:Z}(h:AX s=true):s≠[]/\Aq s=true/\(s.getD 0 0≠48\/s=[48]):=by
 unfold AX at h;rw[zd,zd,w5,Bool.or_eq_true,w5,w5]at h;exact⟨h.1.1,h.1.2,h.2⟩
theorem IS{s:Z}(h:AX s=true)(h0:s≠[48]):0<AF 0 s:=by
 obtain⟨e,a,b⟩:=Gq h;cases s with
 |nil=>exact wh rfl e
 |cons c r=>
  have f:(c::r).getD 0 0=c:=rfl;rw[f]at b;have j:c≠48:=by
   rcases b with x|x
   ·exact x
   ·exact wh x h0
  unfold Aq at a;rw[zz,zd]at a;have i:=Dg a.1;have hr:Aq r=true:=a.2;have l:=Bl hr;show 0<AF (10*0+H6 c) r;rw[E7];have hp:(0:Int)<10^r.length:=Int.pow_pos af;have k:c.toNat≠48:=fun x=>j<|yr.1 x
  have d:0<10*0+H6 c:=by show 0<10*0+((c.toNat:Int)-48);have g:0<=((c.toNat:Int)-48):=i.1;omega
  have:=qv d hp;omega
theorem QJ{s:Z}(h:AX s=true):s=decDigits (AF 0 s).toNat:=by
 generalize d:s.length=n;induction n generalizing s with
 |zero=>exact wh (yc.1 d) (Gq h).1
 |succ n p=>
  obtain⟨l,b,o⟩:=Gq h;obtain⟨t,c,rfl⟩:∃t c,s=t++[c]:=⟨_,_,(List.dropLast_concat_getLast l).symm⟩;unfold Aq at b;rw[List.all_append,zd,zz,zd]at b;obtain⟨h4,h5,_⟩:=b;obtain⟨b1,b2⟩:=mL h5;obtain⟨d1,_⟩:=Dg h5;rw[C6];show t++[c]=decDigits (10*AF 0 t+H6 c).toNat;by_cases a:t=[]
  ·subst a;show[c]=decDigits (10*0+H6 c).toNat;rw[show(10*0+H6 c).toNat=(H6 c).toNat by omega,decDigits_one b2, <-b1]
  ·have g:(t++[c]).getD 0 0=t.getD 0 0:=by
    cases t with
    |nil=>exact wh rfl a
    |cons x r=>rfl
   have f:t.getD 0 0≠48:=by
    rcases o with x|x
    ·rw[g]at x;exact x
    ·have j:=wi yz x;rw[zl]at j;have q:t.length+1=1:=j;exact wh (yc.1 ae) a
   have i:AX t=true:=by
    unfold AX Aq;rw[w4 a,h4,w4 f];rfl
   have hp:=IS i (fun k=>f (by rw[k];rfl));have m:=p i (by rw[zl]at d;simpa using d);have e:(10*AF 0 t+H6 c).toNat=10*(AF 0 t).toNat+(H6 c).toNat:=ae
   rw[e,Gk _ _ ae b2, <-m, <-b1]
theorem AaK:∀ {a:Z},(∀c∈a,c≠47)->AB a=a/\AV a=[]/\Bs a=false:=by
 intro a h;have b:Bs a=false:=by
  unfold Bs;rw[List.any_eq_false];intro x d;simpa using h x d
 exact⟨((Go.Pe.BW a).2.2 b).1,((Go.Pe.BW a).2.2 b).2,b⟩
theorem tS:∀ {a:Z} (b:Z),(∀c∈a,c≠47)->AB (a++47::b)=a/\AV (a++47::b)=b/\Bs (a++47::b)=true:=by
 intro a b h;have d:Bs (a++47::b)=true:=by
  unfold Bs;rw[List.any_eq_true];exact⟨47,by simp,rfl⟩
 have f:∀ {a:Z},(∀c∈a,c≠47)->AB (a++47::b)=a:=by
  intro a;induction a with
  |nil=>intro _;show AB (47::b)=[];rw[Go.Pe.Er,wd rfl]
  |cons x r g=>
   intro h;show AB (x::(r++47::b))=_;rw[Go.Pe.Er,wc (h x (by simp)),g<|fun c d=>h c<|List.mem_cons_of_mem _ d]
 have e:=f h;refine⟨e,?_,d⟩;rw[((Go.Pe.BW _).2.1 d).2,e];simp
theorem SC{s:Z}(h:Aq s=true):∀c∈s,c≠47:=by
 intro c a e;unfold Aq at h;rw[qy]at h;have:=h c a;rw[e]at this;exact wh this af
theorem F8{s:Z}(h:Aq s=true):s.getD 0 0≠45:=by
 cases s with
 |nil=>decide
 |cons c r=>
  unfold Aq at h;rw[zz,zd]at h;show c≠45;intro e;rw[e]at h;exact wh h.1 af
def AP(q:Rat):Z:=if q.den=1 then itoa q.num else itoa q.num++47::decDigits q.den
def Au(s:Z):Rat:=z6 (Bf s)<|AN s
theorem DA(n:Int):(∀c∈itoa n,c≠47)/\A9 (itoa n)=decDigits n.natAbs/\preB (itoa n)=decide (n<0)/\BO (itoa n)=n:=by
 unfold itoa;by_cases h:n<0
 ·rw[wd h];refine⟨fun c a=>?_,rfl,(w4 h).symm,?_⟩
  ·rcases List.mem_cons.1 a with rfl|a
   ·decide
   ·exact SC (Ec _) c a
  ·show -AF 0 (decDigits n.natAbs)=n;rw[HR];omega
 ·rw[wc h];have b:=F8<|Ec n.toNat;have e:n.toNat=n.natAbs:=ae
  refine⟨SC<|Ec _,?_,?_,?_⟩
  ·unfold A9;rw[wc b,e]
  ·unfold preB;rw[w8 b,w8 h]
  ·unfold BO;rw[wc b,HR];omega
theorem Fj(q:Rat):AB (AP q)=itoa q.num/\AV (AP q)=(if q.den=1 then[]else decDigits q.den)/\Bs (AP q)=decide (q.den≠1):=by
 unfold AP;have h:=(DA q.num).1;by_cases a:q.den=1
 ·rw[wd a,wd a,w8<|not_not_intro a];exact AaK h
 ·rw[wc a,wc a,w4 a];exact tS _ h
theorem K5(q:Rat):Bf (AP q)=q.num/\AN (AP q)=q.den:=by
 obtain⟨c,b,d⟩:=Fj q;unfold Bf AN;rw[c,b,d];refine⟨(DA q.num).2.2.2,?_⟩;by_cases a:q.den=1
 ·rw[wc (by simpa using a),a];rfl
 ·rw[wd<|w4 a,wc a];unfold BO;rw[wc<|F8<|Ec _,HR]
theorem DI(q:Rat):Au (AP q)=q:=by
 unfold Au;rw[(K5 q).1,(K5 q).2];exact zr q
theorem dL{p q:Rat}(h:AP p=AP q):p=q:=by
 rw[<-DI p,h,DI]
theorem TA(a:Z):AB (A9 a)=A9 (AB a)/\AV (A9 a)=AV a/\Bs (A9 a)=Bs a/\preB (AB a)=preB a:=by
 unfold A9 preB;cases a with
 |nil=>exact⟨rfl,rfl,rfl,rfl⟩
 |cons c r=>
  have g:(c::r).getD 0 0=c:=rfl;rw[g,Go.Pe.Er];by_cases b:c=45
  ·subst b;have e:AV (45::r)=AV r:=by
    unfold AV;rw[ql];cases r.findIdx? (fun x=>x==47)<;>rfl
   exact⟨rfl,e.symm,rfl,rfl⟩
  ·rw[wc b];by_cases d:c=47
   ·subst d;exact⟨(Go.Pe.Er _ _),rfl,rfl,rfl⟩
   ·rw[wc d];have f:(c::AB r).getD 0 0=c:=rfl;rw[f,wc b];exact⟨by rw[Go.Pe.Er,wc d],rfl,rfl,rfl⟩
theorem X6{a:Z}(h:Ao a=0):G0 a=true/\(AB<|A9 a).length<=600/\(AV<|A9 a).length<=600/\(Bs (A9 a)=true->gI (wB a) (xQ a)=1):=by
 unfold Ao at h;cases b:G0 a with
 |false=>rw[wd b]at h;exact wh h af
 |true=>
  rw[wc<|by rw[b];decide]at h;split at h
  ·exact wh h af
  ·next c=>
   split at h
   ·exact wh h af
   ·next d=>exact⟨rfl,by omega,by omega,fun k=>qu fun g=>d ⟨k,g⟩⟩
def HJ(k:Nat)(q:Rat):Prop:=q.num.natAbs<10^k/\q.den<10^k
theorem Qe{n d:Int}(a:0<d)(h:qe n d=1):(z6 n d).num=n/\((z6 n d).den:Int)=d:=by
 have b:d.sign=1:=jc a;rw[qo,qp,wc<|yf a,b,Int.one_mul,j7,h];refine⟨j8 _,?_⟩;rw[Nat.div_one,Int.natAbs_of_nonneg<|zx a]
theorem O1{s:Z}(h:Aq s=true){k:Nat}(a:s.length<=k):(AF 0 s).toNat<10^k:=by
 have c:=Bl h;have b:(10:Int)^s.length<=10^k:=AQ af a;have d:((10^k:Nat):Int)=(10:Int)^k:=by simp
 omega
theorem KK(k:Nat)(h:k≠0):(1:Int).toNat<10^k:=Nat.one_lt_pow h af
theorem tB:decDigits (yv 1)=[49]:=by rw[show yv 1=1 from rfl,decDigits_one af];rfl
theorem MT{s:Z}(h:Ao s=0):AP (Au s)=s/\(Au s).num=Bf s/\((Au s).den:Int)=AN s/\HJ 600 (Au s):=by
 obtain⟨q,l1,D,d⟩:=X6 h;obtain⟨p1,p2,p3,p4⟩:=TA s;unfold G0 at q;rw[zd,zd]at q;obtain⟨⟨fa,fm⟩,b⟩:=q;unfold wB xQ at d;obtain⟨A,hA⟩:∃A,A=AB (A9 s):=⟨_,rfl⟩;obtain⟨B,hB⟩:∃B,B=AV (A9 s):=⟨_,rfl⟩;rw[<-hA]at fa fm l1 d;rw[<-hB]at b D d;rw[p3]at b d;have y:=(Gq fa).2.1;have v:=QJ fa;have v0:=Bl y;have j:Bf s=(if preB s=true then -AF 0 A else AF 0 A)/\AB s=(if preB s=true then 45::A else A):=by
  have S:A=A9 (AB s):=by rw[hA,p1]
  unfold Bf BO;rw[<-p4];unfold preB;rw[S];unfold A9;by_cases a:(AB s).getD 0 0=45
  ·rw[wd a,wd<|w4 a,wd a,wd<|w4 a];refine⟨rfl,?_⟩;cases x:AB s with
   |nil=>rw[x]at a;exact wh a af
   |cons c r=>
    rw[x]at a;have a:c=45:=a;rw[a];rfl
  ·rw[wc a,wc (by rw[w8 a];decide),wc a,wc<|by rw[w8 a];decide];exact⟨rfl,rfl⟩
 have p:(Bf s).natAbs=(AF 0 A).toNat:=by rw[j.1];split<;>omega
 have U:0<AN s/\(AN s).toNat<10^600/\qe (Bf s) (AN s)=1/\(Bs s=true->B=decDigits (AN s).toNat/\AN s≠1)/\(Bs s=false->AN s=1):=by
  unfold AN;rw[<-p2, <-hB];cases a:Bs s with
  |false=>
   rw[wc af];exact⟨by decide,KK 600 af,Int.gcd_one,(fun k=>by cases k),fun _=>rfl⟩
  |true=>
   rw[a]at b;have b:(AX B&&decide (B≠[48])&&decide (B≠[49]))=true:=b;rw[zd,zd,w5,w5]at b;obtain⟨⟨l,L⟩,M⟩:=b;have C:=(Gq l).2.1;have hp:=IS l L;have F:BO B=AF 0 B:=by unfold BO;rw[wc<|F8 C]
   rw[wd rfl,F];refine⟨hp,O1 (k:=600) C D,?_,fun _=>⟨QJ l,?_⟩,(fun k=>by cases k)⟩
   ·have g:=d a;rw[Gx]at g;have g:qe (AF 0 A) (AF 0 B)=1:=ae
    rw[j.1];split
    ·rw[Int.neg_gcd];exact g
    ·exact g
   ·intro e;have:=QJ l;rw[e]at this;exact M<|this.trans tB
 obtain⟨J,E,K,H,T⟩:=U;obtain⟨i,o⟩:=Qe (n:=Bf s) J K;have i:(Au s).num=Bf s:=i;have o:((Au s).den:Int)=AN s:=o;have z:(Au s).den=(AN s).toNat:=ae
 refine⟨?_,i,o,?_,?_⟩
 ·have G:itoa (Bf s)=AB s:=by
   rw[j.2];unfold itoa;by_cases f:preB s=true
   ·have u:A≠[48]:=by
     have m:preB s=true:=f;rw[m]at fm;simpa using fm
    have:=IS fa u;rw[j.1,wd f,wd f,wd ae,Int.natAbs_neg];rw[show(AF 0 A).natAbs=(AF 0 A).toNat by omega, <-v]
   ·rw[j.1,wc f,wc f,wc ae, <-v]
  unfold AP;rw[i,z,G];obtain⟨w,V,I⟩:=Go.Pe.BW s;cases a:Bs s with
  |false=>
   rw[T a,wd<|show yv 1=1 from rfl];exact(I a).1
  |true=>
   obtain⟨P,W⟩:=H a;obtain⟨m1,m2⟩:=V a;rw[wc ae, <-P,hB,p2,m2];have R:s.drop (AB s).length=47::s.drop ((AB s).length+1):=by
    have h0:∀t:Z,Bs t=true->t.drop (AB t).length=47::t.drop ((AB t).length+1):=by
     intro t;induction t with
     |nil=>intro h;cases h
     |cons c r N=>
      intro h;rw[Go.Pe.Er];by_cases e:c=47
      ·rw[wd e,e];rfl
      ·rw[wc e];have O:Bs r=true:=by
        unfold Bs at h ⊢;rw[List.any_cons]at h;simpa [e]using h
       exact N O
    exact h0 s a
   rw[<-R];conv=>lhs;rw[w]
   have:=List.take_append_drop (AB s).length s;rw[<-w]at this ⊢;exact this
 ·rw[i,p];exact O1 (k:=600) y l1
 ·rw[z];exact E
def AY(n:Int):Z:=z7 n
def Ri(s:Z)(n:Int):Z:=Lib.repeatL s n.toNat
end Go.Sp
namespace Go.Pe
open Go.Det
def gY:Am:=⟨[i64],fun n=>Sp.Cn n,[.str],fun n=>Sp.AY n,false⟩
def Wq:Am:=⟨[u64,i64],fun i=>decide (0<=i.1)&&decide (i.1<1000000000000000000)&&decide (i.2=10),[.str],fun i=>Sp.AY i.1,false⟩
def Tz:Am:=⟨[.str,i64],fun i=>decide (0<=i.2)&&decide (i.2<=1000)&&decide (i.1.length<=1000),[.str],fun i=>Sp.Ri i.1 i.2,false⟩
def Acq:Am:=⟨[A4],fun a=>Sp.Bh a,[.str],fun a=>Sp.AY<|zf a,false⟩
def RD:AT:=X7 [(211,gY),(179,Q0),(212,G5),(213,Wq),(214,Tz)]
open Sp
section
open List Int Prod
namespace T185
def T(a:AK):Tr:=tree RD false 9 185<|Ae ([A4]) a
def L1(v3:Bool)(v4:List Int)(a:Nat)(b:List Int):Tr:=re ((T (0,[])).R.L)<|Aw 69 [(3,.dat Sh.bool v3),(4,.dat (Sh.list<|Sh.int jj) v4),(5,.sl 0 1 0 a none),(6,.nil)] [(0,.arr false 216 (Sh.int jj) b)] 1
theorem Aj(a:AK):T a=.ite (!decide (0<length (snd a))) (.ck (Cn<|fst a)<|.leaf (.dat Sh.str<|AY<|fst a) []) (.ck (ke a)<|L1 (decide (zf a<0)) (BC<|Ah<|zf a) 1<|[1000000000000000000]):=by kernel_rfl
def L2(v3:Bool)(v4:List Int)(b a:Nat)(o1:List Z)(c:List Int):Tr:=re ((stepT RD<|L1 false [] 0 []).L.L.L.L.L.L.L.L.L)<|Aw 69 [(3,.dat Sh.bool v3),(4,.dat (Sh.list<|Sh.int jj) v4),(5,.sl 0 1 0 b none),(6,.sl 1 1 0 a none)] [(1,.arr false 9 Sh.str o1),(0,.arr true 216 (Sh.int jj) c)] 2
def L3(b:Int)(o1:List Int)(a:Nat):Tr:=re ((stepT RD<|L1 false [] 0 []).R.L.L.L)<|Aw 69 [(6,.nil),(10,.ptr 0 0),(11,.dat i64 b)] [(1,.arr false 5 (Sh.int IntKind.u8) o1),(0,jk 253 [.ptr 0 0,.sl 1 1 0 a none])] 2
def L4(a:Int):Tr:=re ((stepT RD<|L1 false [] 0 []).R.L.R)<|Aw 69 [(6,.nil),(10,.ptr 0 0),(11,.dat i64 a)] [(0,jk 253 [.ptr 0 0,.nil])] 1
def L5(a:Int):Tr:=re ((stepT RD<|L1 false [] 0 []).R.R)<|Aw 69 [(6,.nil),(10,.ptr 0 0),(11,.dat i64 a)] [(0,jk 253 [PV.nilp,.nil])] 1
theorem Al(v3:Bool)(v4:List Int)(a:Nat)(c:List Int):stepT RD (L1 v3 v4 a c)=let d:=BC<|At v4 % At (take a c);let b':=BC<|At v4/At (take a c);let g:=aa 16;let f:=zg .i64<|0-1;let h:=AY<|getD d 0 0;let e:=18-(↑(length h):Int);.di ((length v4:Int)>0) (.ck (decide (0+a<=length c)&&true&&UA v4 (take a c))<|.di ((↑(length d):Int)>0) (.cd (0<(↑(length d):Int))<|.ck (decide ((0:Sh.T u64)<=getD d 0 0)&&decide (getD d 0 0<(1000000000000000000:Sh.T u64))&&decide (10=10))<|.di ((↑(length b'):Int)>0) (.ck (decide (0<=zg .i64 e)&&decide (zg .i64 e<=1000)&&decide (1<=1000))<|.cd (length (Ri [(48:UInt8)]<|zg .i64 e)+length h<=4611686018427387904)<|.ck g<|L2 v3 b' a 1 ([Ri [(48:UInt8)] (zg .i64 e)++AY (getD d 0 0)]) c)<|.ck g<|L2 v3 b' a 1 ([AY<|getD d 0 0]) c)<|.di ((↑(length b'):Int)>0) (.ck true<|.ck true<|.ck true<|L2 v3 b' a 1 ([Ri [(48:UInt8)] (zg .i64<|18-1)++[(48:UInt8)]]) c)<|.ck true<|L2 v3 b' a 1 ([[(48:UInt8)]]) c) (.ite v3 (.ite true (.ck true<|L3 f (yo (fun b=>(↑(yb b):Int)) [(45:UInt8)]) 1)<|L4 f)<|L5 f):=by kernel_rfl
def L6(a:Nat)(c:Int)(d:List Int)(b:Nat)(e:List Z):Tr:=re ((stepT RD<|L2 false [] 0 0 [] []).R.L.L.L)<|Aw 69 [(6,.sl 0 1 0 a none),(10,.ptr 1 0),(11,.dat i64 c)] [(2,.arr false 5 (Sh.int IntKind.u8) d),(1,jk 253 [.ptr 1 0,.sl 2 1 0 b none]),(0,.arr false 9 Sh.str e)] 3
def L7(a:Nat)(b:Int)(c:List Z):Tr:=re ((stepT RD<|L2 false [] 0 0 [] []).R.L.R)<|Aw 69 [(6,.sl 0 1 0 a none),(10,.ptr 1 0),(11,.dat i64 b)] [(1,jk 253 [.ptr 1 0,.nil]),(0,.arr false 9 Sh.str c)] 2
def L8(a:Nat)(b:Int)(c:List Z):Tr:=re ((stepT RD<|L2 false [] 0 0 [] []).R.R)<|Aw 69 [(6,.sl 0 1 0 a none),(10,.ptr 1 0),(11,.dat i64 b)] [(1,jk 253 [PV.nilp,.nil]),(0,.arr false 9 Sh.str c)] 2
theorem AG(v3:Bool)(v4:List Int)(a c:Nat)(o1:List Z)(d:List Int):stepT RD (L2 v3 v4 a c o1 d)=let e:=BC<|At v4 % At (take a d);let b':=BC<|At v4/At (take a d);let i:=decide ((3*(c+1)+2000)*16<=562949953421312);let j:=zg .i64<|(↑c:Int)-1;let h:=decide (c=length o1);let f:=Nat.add c 1;let h':=decide (1<=1)&&true&&h&&i;let k:=AY<|getD e 0 0;let g:=18-(↑(length k):Int);.di ((length v4:Int)>0) (.ck (decide (0+a<=length d)&&true&&UA v4 (take a d))<|.di ((↑(length e):Int)>0) (.cd (0<(↑(length e):Int))<|.ck (decide ((0:Sh.T u64)<=getD e 0 0)&&decide (getD e 0 0<(1000000000000000000:Sh.T u64))&&decide (10=10))<|.di ((↑(length b'):Int)>0) (.ck (decide (0<=zg .i64 g)&&decide (zg .i64 g<=1000)&&decide (1<=1000))<|.cd (length (Ri [(48:UInt8)]<|zg .i64 g)+length k<=4611686018427387904)<|.ck h'<|L2 v3 b' a f (o1++[Ri [(48:UInt8)] (zg .i64 g)++AY (getD e 0 0)]) d)<|.ck h'<|L2 v3 b' a f (o1++[AY<|getD e 0 0]) d)<|.di ((↑(length b'):Int)>0) (.ck true<|.ck true<|.ck (h&&i)<|L2 v3 b' a f (o1++[Ri [(48:UInt8)] (zg .i64<|18-1)++[(48:UInt8)]]) d)<|.ck (h&&i)<|L2 v3 b' a f (o1++[[(48:UInt8)]]) d) (.ite v3 (.ite true (.ck true<|L6 c j (yo (fun b=>(↑(yb b):Int)) [(45:UInt8)]) 1 o1)<|L7 c j o1)<|L8 c j o1):=by kernel_rfl
theorem EX(d:Nat)(c:Int)(e:List Int)(a:Nat)(f:List Z):stepT RD (L6 d c e a f)=let g:=getD f (toNat c) [];.di (c>=0) (.ck (decide (0<=c)&&decide (c<(↑d:Int)))<|.cd (toNat c<length f)<|.ck (decide (a=length e)&&decide ((3*(a+length (yo (fun b=>(↑(yb b):Int)) g))+2000)*1<=562949953421312))<|L6 d (zg .i64<|c-1) (e++yo (fun b=>(↑(yb b):Int)) g) (Nat.add a<|length<|yo (fun b=>(↑(yb b):Int)) g) f) (.cd (0<a)<|.ck (decide (0<(↑a:Int))&&decide (toNat (↑a:Int)<=length e)&&decide (toNat (↑a:Int)<=9223372036854775807)&&List.all e fun x=>decide (0<=x)&&decide (x<256))<|.leaf (.dat Sh.str<|yo (fun x=>zw<|toNat x)<|take (toNat (↑a:Int)) e) []):=by kernel_rfl
theorem Ho(c:Nat)(a:Int)(d:List Z):stepT RD (L8 c a d)=let e:=getD d (toNat a) [];let b':=zg .i64<|a-1;.cd (a>=0) (.ck (decide (0<=a)&&decide (a<(↑c:Int)))<|.cd (toNat a<length d)<|.di (0<length (yo (fun b=>(↑(yb b):Int)) e)) (.cd ((3*length (yo (fun b=>(↑(yb b):Int)) e)+2000)*1<=562949953421312)<|L6 c b' (yo (fun b=>(↑(yb b):Int)) e) (length<|yo (fun b=>(↑(yb b):Int)) e) d)<|L7 c b' d):=by kernel_rfl
end T185
end
theorem Nh{f:FuncId}{sp:Am}{q:List V->H->Option (V×H)}(hp:A8.prim f=none)(g:∃i,A8.fn f=some i)(n:A8.spec f=some q)
  (b:∀(F:Fz) (h:H) (args:List V) (i:(BB sp.ins).T),Gh h->M0 F (Ae sp.ins i) args->sp.pre i=true->∃v,q args h=some (v,h)/\PC F (one<|Ae sp.outs<|sp.f i) v):Af A8 f sp:=by
 refine .of0 ⟨hp,g,fun F h args i e j d a c=>?_⟩;obtain⟨v,o,l⟩:=b F h args i d a c;refine⟨[(v,h)],1,fun m r=>?_,fun _=>⟨_,rfl⟩,fun x p=>?_⟩
 ·obtain⟨k,rfl⟩:∃k,m=k+1:=⟨m-1,by omega⟩;rw[Bp];simp only[n,o]
 ·cases yx.1 p;exact⟨yg _,fun _ _=>rfl,j,F,fun _ _ h=>h,fun _ _ h=>.inl h,e,l⟩
theorem Ac4:∃cs t fz,(5,O.cells cs t fz)∈GB/\eqU cs Lib.pow10Tab=true:=⟨_,_,_,List.mem_cons_self ..,by kernel_rfl⟩
theorem Z3{h:H}(b:Gh h):TP h=true:=by
 obtain⟨cs,t,fz,d,c⟩:=Ac4;have a:=b _ d;unfold TP;rw[a];exact c
theorem xL:Af A8 211 gY:=by
 refine Nh (q:=YO) ag (Bd ag) rfl fun F h args (n:Int) hg a hp=>?_
 have hp:Sp.Cn n=true:=hp;have a:args=[.int .i64 n]:=by
  have:=a (fun _=>none) 0;simp only[Ae,gY,Bi]at this;obtain⟨v,vs,rfl,b,rfl⟩:=this;obtain rfl:=C2 b;rfl
 subst a;refine⟨.str<|z7 n,?_,fun ρ N=>KW _⟩;have:=EG hp;have d:decide (-9223372036854775808<=n)=true:=w4 ae;have c:decide (n<=9223372036854775807)=true:=w4 ae;simp only[YO,Z3 hg,d,c,Bool.and_self,we]
theorem cI:Af A8 214 Tz:=by
 refine Nh (q:=Uk) ag (Bd ag) rfl fun F h args (i:Z×Int) hg a hp=>?_
 obtain⟨s,n⟩:=i;have hp:(decide (0<=n)&&decide (n<=1000)&&decide (s.length<=1000))=true:=hp;rw[zd,zd,w5,w5,w5]at hp;obtain⟨⟨h0,h1⟩,h2⟩:=hp;obtain⟨c,rfl⟩:=yn h0;have a:args=[.str s,.int .i64 (c:Int)]:=by
  have:=a (fun _=>none) 0;simp only[Ae,Tz,Bi]at this;obtain⟨v,vs,rfl,e,w,ws,rfl,d,rfl⟩:=this;obtain rfl:=FL e;obtain rfl:=C2 d;rfl
 subst a;refine⟨.str<|Sp.Ri s (c:Int),?_,fun ρ N=>KW _⟩;have b:j9 c 9223372036854775807=true:=qd ae;have f:j9 (ET s*c) 140737488355328=true:=qd (by
  rw[Da];have:s.length*c<=1000*1000:=Nat.mul_le_mul h2 ae;omega)
 show(bif j9 c 9223372036854775807&&j9 (ET s*c) 140737488355328 then some (V.str<|Lib.repeatL s c,h)else none)=_;rw[b,f];rfl
theorem pC:Af A8 213 Wq:=by
 refine Nh (q:=fmtQ) ag (Bd ag) rfl fun F h args (i:Int×Int) hg a hp=>?_
 obtain⟨u,b⟩:=i;have hp:(decide (0<=u)&&decide (u<1000000000000000000)&&decide (b=10))=true:=hp;rw[zd,zd,w5,w5,w5]at hp;obtain⟨⟨h0,h1⟩,rfl⟩:=hp;obtain⟨c,rfl⟩:=yn h0;have a:args=[.int .u64 (c:Int),.int .i64 10]:=by
  have:=a (fun _=>none) 0;simp only[Ae,Wq,Bi]at this;obtain⟨v,vs,rfl,g,w,ws,rfl,f,rfl⟩:=this;obtain rfl:=C2 g;obtain rfl:=C2 f;rfl
 subst a;refine⟨.str<|Sp.AY (c:Int),?_,fun ρ N=>KW _⟩;have d:j9 c 18446744073709551615=true:=qd ae;have e:Sp.AY (c:Int)=zh c:=Lib.itoa_nonneg _;rw[e];show(bif TP h&&(j9 c 18446744073709551615&&Nat.beq 10 10)then some (V.str<|zh c,h)else none)=_;rw[Z3 hg,d];rfl
namespace T185
abbrev qT(s:Z):List Int:=yo (fun b=>(↑(yb b):Int)) s
theorem Vb:∀s:Z,yo (fun x:Int=>zw<|yv x) (qT s)=s
 |[]=>rfl
 |b::s=>by
  have:=Vb s;simp only[qT,List.map_cons]at this ⊢;rw[this];simp
theorem Zo:∀s:Z,(List.all (qT s) fun x=>decide ((0:Int)<=x)&&decide (x<(256:Int)))=true
 |[]=>rfl
 |b::s=>by
  have a:=Zo s;have c:=b.toNat_lt;simp only[qT,List.map_cons,zz]at a ⊢;rw[a,Bool.and_true,zd,w5,w5];omega
theorem uL(a b:Z):qT a++qT b=qT (a++b):=by simp[qT]
theorem Fa(c:List Z)(T:Z)(l:T.length<=1000000)(q:c.length<=1000000)(h:∀ob,Q (.dat .str T) ob):∀(i:Nat) (a:Z) (b:Int) (n:Nat),i<=c.length->b=(i:Int)-1->n=a.length->0<a.length->a++(c.take i).reverse.flatten=T->
  Ends RD (L6 c.length b (qT a) n c) Q
 |0,a,b,n,_,p,g,h0,d=>by
  have d:a=T:=by simpa using d
  subst d g;refine zk (EX ..) (zq (w8 ae)<|zc (w4 h0)<|zc (Ab (Ab (Ab (w4 ae)<|w4<|by simp)<|w4<|by simp;omega)<|Zo a)<|ze ?_);have e:yo (fun x:Int=>zw<|yv x) (jl (yv (a.length:Int))<|qT a)=a:=by
   rw[zi,yd (by simp),Vb]
  rw[e];exact h _
 |i+1,a,b,n,k,p,g,h0,d=>by
  have m:List.getD c (yv b) []=c[i]:=by
   rw[show yv b=i from by omega];simp[show i<c.length from k]
  have j:a++c[i]++(c.take i).reverse.flatten=T:=by
   have o:c.take (i+1)=c.take i++[c[i]]:=y8 k;rw[<-d,o,List.reverse_append,je,List.singleton_append,List.flatten_cons,y9]
  have f:=wi yz j;simp only[zl]at f;refine zk (EX ..) (zc (w4 ae)<|zc (ad ae ae)<|zc (w4 ae) ?_);rw[m];refine zc (Ab (w4<|by simp[g])<|w4<|by rw[yw];omega) ?_;rw[uL,wr (b-1) ae ae];exact Fa c T l q h i (a++c[i]) (b-1) _ ae ae (by rw[zl,yw,g];rfl) (by rw[zl];omega) j
theorem FX(a:List Z)(T:Z)(h:T.length<=1000000)(k:a.length<=1000000)(l:∀ob,Q (.dat .str T) ob)(i:Nat)(j:i+1=a.length)(b:Int)(o:b=(i:Int))(c:0<(a[i]'ae).length)(n:a.reverse.flatten=T):
  Ends RD (L8 a.length b a) Q:=by
 have d:i<a.length:=ae
 have m:List.getD a (yv b) []=a[i]:=by
  rw[show yv b=i from by omega];simp[d]
 have g:a[i]++(a.take i).reverse.flatten=T:=by
  have f:a.take (i+1)=a.take i++[a[i]]:=y8 d;rw[j,yk]at f;rw[<-n];conv=>rhs;rw[f]
  rw[List.reverse_append,je,List.singleton_append,List.flatten_cons]
 have e:=wi yz g;simp only[zl]at e;refine zk (Ho ..) (zc (w4 ae)<|zc (ad ae ae)<|zc (w4 ae) ?_);rw[m];refine zc (w4<|by rw[yw];exact c) (zc (w4<|by rw[yw];omega) ?_);rw[wr (b-1) ae ae];exact Fa a T h k l i a[i] (b-1) _ ae ae (by rw[yw]) c g
end T185
theorem VB{r:Int}(h0:0<r)(d:r<18446744073709551616):BC r=[r]:=by
 have c:Az Ap [r]:=by
  intro x a;rw[yx]at a;subst a;exact⟨by omega,d⟩
 have f:Sp.nz [r]:=by
  unfold Sp.nz;simp;omega
 have:=Jt (b:=Ap) af c f;have e:kc Ap [r]=r:=by simp[kc]
 rw[e]at this;exact this.symm
theorem Lc:BC 0=[]:=by
 unfold BC;rfl
theorem Pq:At [1000000000000000000]=1000000000000000000:=by simp[At,kc]
theorem eS(n:Nat):Ri [48] (n:Int)=List.replicate n 48:=by
 unfold Ri;rw[zi];induction n with
 |zero=>rfl
 |succ n a=>rw[Lib.repeatL,a];rfl
theorem SO(V:Nat):At (BC (V:Int))=(V:Int):=Db (b:=Ap) af ae
theorem iC{V:Nat}(a:(V:Int)<(Ap:Int)^9000):UA (BC (V:Int)) [1000000000000000000]=true:=by
 obtain⟨n1,d,c⟩:=Dj (n:=(V:Int)) ae a ae;have b:=KJ (n:=(V:Int)) ae a;unfold UA;refine Ab (Ab (Ab (Ab n1 ?_)<|w4 b)<|w4 af) (w4<|by rw[Pq];decide);decide
theorem Wi(V:Nat):BC (At (BC (V:Int))/At (jl 1 [1000000000000000000]))=BC ((V/10^18:Nat):Int):=by
 rw[SO,show jl 1 [(1000000000000000000:Int)]=[1000000000000000000]from rfl,Pq];congr 1
theorem WA(V:Nat):BC (At (BC (V:Int)) % At (jl 1 [1000000000000000000]))=BC ((V % 10^18:Nat):Int):=by
 rw[SO,show jl 1 [(1000000000000000000:Int)]=[1000000000000000000]from rfl,Pq];congr 1
theorem JZ{V:Nat}(h:0<V):0<(BC (V:Int)).length:=by
 rcases yq (BC (V:Int)).length with e|e
 ·have a:=SO V;rw[yc.1 e]at a;have b:At []=0:=rfl;rw[b]at a;omega
 ·exact e
theorem Oj:∀(k u:Nat),u<10^(k+1)->Lib.nDigits u<=k+1
 |0,u,h=>by rw[Lib.nDigits_small ae];omega
 |k+1,u,h=>by
  by_cases c:u<10
  ·rw[Lib.nDigits_small c];omega
  ·rw[Lib.nDigits_big c];have:u/10<10^(k+1):=by rw[qj]at h;omega
   have:=Oj k (u/10) this;omega
theorem UG{r:Nat}(h:r<10^18):(zh r).length<=18:=by
 rw[yi];exact Oj 17 r h
theorem MG(r:Nat):AY (r:Int)=zh r:=Lib.itoa_nonneg r
theorem TL(r:Nat)(h:r<10^18):Ri [48] ((18:Int)-((zh r).length:Int))++zh r=GH 18 r:=by
 have:=UG h;rw[show(18:Int)-((zh r).length:Int)=((18-(zh r).length:Nat):Int)from by omega,eS,yi];rfl
structure Small(V:Nat):Prop where
 h:(V:Int)<(Ap:Int)^9000
theorem Small.le{a b:Nat}(h:Small b)(c:a<=b):Small a:=⟨zy (Int.ofNat_le.mpr c) h.h⟩
theorem Small.div{V:Nat}(h:Small V):UA (BC (V:Int)) [1000000000000000000]=true:=iC h.h
namespace T185
def Exit(neg:Bool)(G:List Z)(Q:PV->Ob->Prop):Prop:=Ends RD (.ite neg (.ite true (.ite true (L6 G.length (zg IntKind.i64<|(G.length:Int)-1) (yo (fun b=>(↑(yb b):Int)) [(45:UInt8)]) 1 G) .fail)<|L7 G.length (zg IntKind.i64<|(G.length:Int)-1) G)<|L8 G.length (zg IntKind.i64<|(G.length:Int)-1) G) Q
theorem A2(neg:Bool)(G:List Z)(hG:G.length<=1000000)(b:Exit neg G Q):∀(f V:Nat) (o1:List Z),V<f->Small V->o1++(if V=0 then[]else CB f V)=G->Ends RD (L2 neg (BC (V:Int)) 1 o1.length o1 [1000000000000000000]) Q
 |0,V,o1,h,_,_=>by omega
 |f+1,V,o1,h,l,d=>by
  rcases yq V with h0|h0
  ·subst h0;have d:o1=G:=by simpa using d
   subst d;refine zk (AG ..) (zq (by rw[show((0:Nat):Int)=0 from rfl,Lc];rfl) ?_);exact b
  have g:V % 10^18<10^18:=Nat.mod_lt _ af;rw[wc ae]at d;have k:∀s,s=(if V/10^18=0 then zh (V % 10^18)else GH 18<|V % 10^18)->(o1++[s])++(if V/10^18=0 then[]else CB f<|V/10^18)=G:=by
   rintro s rfl;rw[<-d,y9];congr 1;have o:CB (f+1) V=if V<10^18 then[zh V]else GH 18 (V % 10^18)::CB f (V/10^18):=rfl
   rw[o];by_cases c:V<10^18
   ·rw[wd c,wd ae,wd ae,Nat.mod_eq_of_lt c];rfl
   ·rw[wc c,wc ae,wc ae];rfl
  have n:o1.length+1<=1000000:=by
   have:=wi yz<|k _ rfl;simp only[zl,List.length_singleton]at this;omega
  have next:∀s,s=(if V/10^18=0 then zh (V % 10^18)else GH 18<|V % 10^18)->Ends RD (L2 neg (BC ((V/10^18:Nat):Int)) 1 (Nat.add o1.length 1) (o1++[s]) [1000000000000000000]) Q:=by
   intro s m;have:=A2 neg G hG b f (V/10^18) (o1++[s]) ae (l.le<|Nat.div_le_self _ _)<|k s m;rw[zl]at this;exact this
  refine zk (AG ..) (zc (w4 (by have:=JZ h0;omega))<|zc (Ab rfl l.div) ?_);rw[Wi,WA];rcases yq (V % 10^18)with j|j
  ·have q0:V/10^18≠0:=ae
   rw[j,show((0:Nat):Int)=0 from rfl,Lc];refine zq rfl (zc (w4 (by have:=JZ (V:=V/10^18) ae;omega))<|zc rfl (zc rfl (zc (Ab (w4 rfl)<|w4 ae)<|next _ ?_)));have hp:=TL 0 af;rw[qx ae]at hp;rw[wc q0,j, <-hp];rfl
  ·rw[VB (r:=((V % 10^18:Nat):Int)) ae ae];have i:List.getD [((V % 10^18:Nat):Int)] 0 0=((V % 10^18:Nat):Int):=rfl;rw[i,MG];have q:=UG g;have e:((V % 10^18:Nat):Int)<1000000000000000000:=ae
   have p:0<(zh<|V % 10^18).length:=by
    rw[yi,Lib.nDigits];split<;>omega
   refine zc rfl (zc rfl (zc (Ab (Ab (w4<|Int.natCast_nonneg _)<|w4 e) rfl) ?_));rw[wr _ ae ae];by_cases q0:V/10^18=0
   ·rw[q0];refine zq (by rw[show((0:Nat):Int)=0 from rfl,Lc];rfl) (zc (Ab (Ab rfl (w4 rfl))<|w4 ae) ?_);have:=next _ rfl;rw[wd q0,q0]at this;exact this
   ·have a:=TL _ g;refine zc (w4 (by have:=JZ (V:=V/10^18) ae;omega)) (zc (Ab (ad ae ae) rfl)<|zc (w4 ?_) (zc (Ab (Ab rfl (w4 rfl))<|w4 ae)<|next _ ?_))
    ·rw[<-zl,a];unfold GH;rw[zl,List.length_replicate];omega
    ·rw[wc q0];exact a
end T185
end Go.Pe
namespace Go.Sp
theorem Ga{n d:Int}(a:d≠0):(z6 n d).num.natAbs<=n.natAbs/\(z6 n d).den<=d.natAbs:=by
 rw[qo,qp,wc a];refine⟨?_,Nat.div_le_self _ _⟩;refine qz (qt _ _) ?_;rw[yu,Int.natAbs_sign_of_ne_zero a,Nat.one_mul];exact yg _
theorem Ip{n d:Int}{k:Nat}(a:d≠0)(c:n.natAbs<10^k)(b:d.natAbs<10^k):HJ k (z6 n d):=
 ⟨yy (Ga a).1 c,yy (Ga a).2 b⟩
theorem HJ.mono{j k:Nat}{q:Rat}(h:HJ j q)(a:j<=k):HJ k q:=
 ⟨qq h.1 (qf af a),qq h.2<|qf af a⟩
theorem D1{a b i j:Nat}(c:a<10^i)(d:b<10^j):a*b<10^(i+j):=by
 rw[Nat.pow_add];exact yy (Nat.mul_le_mul_left _<|Nat.le_of_lt d) ((Nat.mul_lt_mul_right<|Nat.pow_pos af).2 c)
theorem I3(q:Rat):(q.den:Int)≠0:=by have:=q.den_pos;omega
theorem HJ.mul{p q:Rat}{i j:Nat}(hp:HJ i p)(a:HJ j q):HJ (i+j) (p*q):=by
 have h:=Rat.divInt_mul_divInt p.num q.num (d₁:=p.den) (d₂:=q.den);rw[zr,zr]at h;rw[h];refine Ip ?_ ?_ ?_
 ·exact Int.mul_ne_zero (I3 p)<|I3 q
 ·rw[yu];exact D1 hp.1 a.1
 ·rw[yu,zm,zm];exact D1 hp.2 a.2
theorem HJ.add{p q:Rat}{i j:Nat}(hp:HJ i p)(a:HJ j q):HJ (i+j+1) (p+q):=by
 have h:=qc p.num q.num (I3 p)<|I3 q;rw[zr,zr]at h;rw[h];have a1:=D1 hp.1 a.2;have a2:=D1 a.1 hp.2;have a3:=D1 hp.2 a.2;rw[Nat.add_comm]at a2;refine Ip (Int.mul_ne_zero (I3 p)<|I3 q) ?_ ?_
 ·refine yy (Int.natAbs_add_le _ _) ?_;rw[yu,yu,zm,zm,qj];omega
 ·rw[yu,zm,zm,qj];omega
theorem HJ.neg{q:Rat}{k:Nat}(h:HJ k q):HJ k (-q):=by
 unfold HJ at*;rw[jh,ji,Int.natAbs_neg];exact h
theorem HJ.sub{p q:Rat}{i j:Nat}(hp:HJ i p)(a:HJ j q):HJ (i+j+1) (p-q):=by
 rw[Rat.sub_eq_add_neg];exact hp.add a.neg
theorem HJ.inv{q:Rat}{k:Nat}(h:HJ k q)(h0:q≠0):HJ k q⁻¹:=by
 have e:=Rat.inv_divInt q.num q.den;rw[zr]at e;rw[e];exact Ip (fun x=>h0<|qg.mp x) (by rw[zm];exact h.2) h.1
theorem HJ.div{p q:Rat}{i j:Nat}(hp:HJ i p)(a:HJ j q)(h0:q≠0):HJ (i+j) (p/q):=by
 rw[Rat.div_def];exact hp.mul<|a.inv h0
def NX(n:Int):Bool:=decide (600<(zh n.natAbs).length)
def Ke(q:Rat):Bool:=NX q.num||NX q.den
theorem En{u k:Nat}(h:u<10^k)(a:1<=k):(zh u).length<=k:=by
 rw[yi];obtain⟨j,rfl⟩:∃j,k=j+1:=⟨k-1,by omega⟩;exact Go.Pe.Oj j u h
theorem Cj(u:Nat){k:Nat}(h:(zh u).length<=k):u<10^k:=by
 rw[yi]at h;exact qq (Lib.lt_pow_nDigits u) (qf af h)
theorem Xr{q:Rat}:Ke q=false↔HJ 600 q:=by
 unfold Ke NX HJ;rw[Bool.or_eq_false_iff,w9,w9];refine⟨fun h=>⟨Cj (k:=600) _ ae,?_⟩,fun h=>⟨?_,?_⟩⟩
 ·have:=Cj (q.den:Int).natAbs (k:=600) ae;rw[zm]at this;exact this
 ·have:=En h.1 af;omega
 ·have:=En h.2 af;rw[zm];omega
theorem QT{q:Rat}{k:Nat}(h:HJ k q)(a:1<=k):(AP q).length<=2*k+2:=by
 have c:=En h.1 a;have b:=En h.2 a;have d:(z7 q.num).length<=k+1:=by
  unfold z7;split
  ·rw[zu];omega
  ·rw[show q.num.toNat=q.num.natAbs by omega];omega
 unfold AP;split
 ·omega
 ·rw[zl,zu];omega
def Be(s:Z):Bool:=decide (AP (Au s)=s)&&decide (s.length<=4000)
theorem F5{s:Z}(h:Be s=true):AP (Au s)=s/\s.length<=4000:=by
 unfold Be at h;rwa [zd,w5,w5]at h
theorem Sv{q:Rat}{k:Nat}(h:HJ k q)(a:k<=1999):Be (AP q)=true:=by
 have b:=QT (h.mono a) af;unfold Be;rw[DI,w4 rfl,w4 ae];rfl
theorem CU{s:Z}(h:Ao s=0):Be s=true/\HJ 600 (Au s):=by
 obtain⟨b,_,_,a⟩:=MT h;exact⟨by rw[<-b];exact Sv a af,a⟩
theorem Tx{s:Z}(h:Be s=true):HJ 4000 (Au s):=by
 obtain⟨f,d⟩:=F5 h;have e:(AP<|Au s).length<=4000:=by rw[f];exact d
 generalize Au s=q at*;have a:=Cj q.num.natAbs<|yg _;have b:=Cj q.den<|yg _;have g:(zh q.num.natAbs).length<=(z7 q.num).length:=by
  unfold z7;split
  ·rw[zu];omega
  ·rw[show q.num.toNat=q.num.natAbs by omega];exact yg _
 unfold AP at e;split at e
 ·next c=>exact⟨Cj (k:=4000) _ ae,by rw[c];exact KK 4000 af⟩
 ·rw[zl,zu]at e;exact⟨Cj (k:=4000) _ ae,Cj (k:=4000) _ ae⟩
theorem Yz{q:Rat}:Ao (AP q)=if Ke q=true then 4 else 0:=by
 obtain⟨f,p,l⟩:=Fj q;obtain⟨p1,p2,p3,p4⟩:=TA<|AP q;obtain⟨i1,i2,i3,i4⟩:=DA q.num;have c:AB (A9<|AP q)=zh q.num.natAbs:=by rw[p1,f,i2]
 have d:AV (A9<|AP q)=if q.den=1 then[]else zh q.den:=by rw[p2,p]
 have g:Bs (A9<|AP q)=decide (q.den≠1):=by rw[p3,l]
 have m:preB (AP q)=decide (q.num<0):=by rw[<-p4,f,i3]
 have a:∀n:Nat,zh n=[48]->n=0:=fun n h=>by
  have:=HR n;rw[h]at this;have:(0:Int)=n:=this;omega
 have e:∀n:Nat,zh n=[49]->n=1:=fun n h=>by
  have:=HR n;rw[h]at this;have:(1:Int)=n:=this;omega
 have r:=q.den_pos;have o:G0 (AP q)=true:=by
  unfold G0;rw[c,d,g,m,Wh,yt,zd];refine⟨?_,?_⟩
  ·by_cases h:q.num<0
   ·have z:zh q.num.natAbs≠[48]:=fun k=>by have:=a _ k;omega
    rw[w4 h,w4 z];rfl
   ·rw[w8 h];rfl
  ·by_cases h:q.den=1
   ·rw[w8<|not_not_intro h];rfl
   ·have z:zh q.den≠[48]:=fun k=>by have:=a _ k;omega
    have y:zh q.den≠[49]:=fun k=>h<|e _ k
    rw[w4 h,wc h,Wh,w4 z,w4 y];rfl
 unfold Ao;rw[wc (by rw[o];decide),c,d,g];have i:Ke q=true↔600<(zh q.num.natAbs).length\/600<(if q.den=1 then([]:Z)else zh q.den).length:=by
  unfold Ke NX;rw[Bool.or_eq_true,w5,w5,zm];by_cases h:q.den=1
  ·rw[wd h,h,qx<|show 1<10 by decide];simp
  ·rw[wc h]
 by_cases h:Ke q=true
 ·rw[wd<|i.1 h,wd h]
 ·rw[wc<|fun k=>h<|i.2 k,wc h];refine wc fun k=>?_
  obtain⟨b,j⟩:=k;have b:q.den≠1:=w6 b;apply j;unfold wB xQ;rw[c,d,wc b,HR,HR,Gx];have hr:=q.reduced;have:qe ((q.num.natAbs:Nat):Int) (q.den:Int)=1:=hr;rw[this];rfl
theorem No(q:Rat):FT (AP q)=NQ q.num:=by
 have h0:AP q=[48]↔q=0:=by
  have:AP (0:Rat)=[48]:=by
   unfold AP;rw[wd<|show Rat.den 0=1 from rfl];show z7 0=[48];unfold z7;rw[wc af,show(0:Int).toNat=0 from rfl,qx af];rfl
  rw[<-this];exact⟨dL,fun h=>by rw[h]⟩
 unfold FT NQ;by_cases a:q=0
 ·rw[wd<|h0.2 a,a];rfl
 ·rw[wc<|fun h=>a<|h0.1 h];have e:q.num≠0:=fun h=>a<|qg.mp h
  have d:(AP q).getD 0 0=(z7 q.num).getD 0 0:=by
   unfold AP;split
   ·rfl
   ·have:z7 q.num≠[]:=by unfold z7;split;exact List.cons_ne_nil _ _;exact Tu _
    cases b:z7 q.num with
    |nil=>exact wh b this
    |cons c r=>rfl
  rw[d];unfold z7;by_cases h:q.num<0
  ·rw[wd h,wd h];rfl
  ·rw[wc h,wc h,wc<|F8<|Ec _,wd ae]
theorem UT(n:Int)(h:n≠0):z7 (-n)=if n<0 then(z7 n).drop 1 else 45::z7 n:=by
 unfold z7;by_cases c:n<0
 ·rw[wc ae,wd c,wd c,show(-n).toNat=n.natAbs by omega];rfl
 ·rw[wd ae,wc c,wc c,show(-n).natAbs=n.toNat by omega]
theorem iS(q:Rat):Lx (AP q)=AP (-q):=by
 have a:=No q;unfold FT at a;unfold Lx;by_cases h0:AP q=[48]
 ·rw[wd h0]at a ⊢;have:q.num=0:=by
   unfold NQ at a;split at a
   ·exact wh a af
   ·split at a
    ·exact wh a af
    ·omega
  have:q=0:=qg.mp this;rw[this];rfl
 ·rw[wc h0]at a ⊢;have b:q.num≠0:=by
   intro h;rw[h]at a;split at a<;>exact wh a af
  have e:AP (-q)=if q.num<0 then(AP q).drop 1 else 45::AP q:=by
   unfold AP;rw[jh,ji,UT _ b];by_cases c:q.num<0
   ·rw[wd c,wd c];have:z7 q.num=45::zh q.num.natAbs:=by unfold z7;rw[wd c]
    rw[this];split<;>rfl
   ·rw[wc c,wc c];split<;>rfl
  rw[e];unfold NQ at a;by_cases c:q.num<0
  ·rw[wd c]at a ⊢;split at a
   ·next k=>rw[wd k]
   ·exact wh a af
  ·rw[wc c,wd<|show q.num>0 by omega]at a;rw[wc c];split at a
   ·exact wh a af
   ·next k=>rw[wc k]
open Go.Lib
theorem MJ:∀(f n l:Nat) (a:Z),l<=a.length->n<10^f->HO f n l a=if n=0 then a else decDigits n++a
 |0,n,l,a,_,b=>by rw[Nat.pow_zero]at b;rw[wd ae];rfl
 |f+1,n,l,a,d,b=>by
  rw[qj]at b;unfold HO;by_cases h:n=0
  ·rw[wd ⟨h,d⟩,wd h]
  ·rw[wc<|fun k=>h k.1,wc h,MJ f (n/10) l _ (by rw[zu];omega) ae];by_cases c:n/10=0
   ·rw[wd c,decDigits_one ae,show n % 10=n by omega];rfl
   ·have e:=Gk (n/10) (n % 10) ae ae;rw[show 10*(n/10)+n % 10=n by omega]at e;rw[wc c,e,y9];rfl
theorem mA{d:Nat}(h:d<10):GH 1 d=[zw<|48+d]:=by
 unfold GH;rw[nDigits_small h,decDigits_one h];rfl
theorem Vw:∀(k f n l:Nat) (a:Z),a.length+(k+1)=l->n<10^(k+1)->k+1<=f->HO f n l a=GH (k+1) n++a
 |k,0,n,l,a,_,_,h=>by omega
 |0,f+1,n,l,a,c,b,_=>by
  unfold HO;rw[wc ae,mA ae,MJ f (n/10) l _ (by rw[zu];omega) (by rw[show n/10=0 by omega];exact Nat.pow_pos af),wd ae,show n % 10=n by omega];rfl
 |k+1,f+1,n,l,a,c,b,d=>by
  rw[qj]at b;have e:=Sf (k+1) (n/10) (n % 10) ae ae;rw[show 10*(n/10)+n % 10=n by omega]at e;unfold HO;rw[wc ae,Vw k f (n/10) l _ (by rw[zu];omega) ae ae,e,y9];rfl
theorem QK{n:Int}(h0:0<=n)(a:n<9223372036854775808):IG n 1=decDigits n.toNat:=by
 show HO 64 n.toNat 1 []=_;unfold HO;rw[wc<|by simp];rw[MJ 63 (n.toNat/10) 1 _ (by simp) ae];by_cases h:n.toNat<10
 ·rw[wd ae,decDigits_one h,show n.toNat % 10=n.toNat by omega]
 ·have e:=Gk (n.toNat/10) (n.toNat % 10) ae ae;rw[show 10*(n.toNat/10)+n.toNat % 10=n.toNat by omega]at e;rw[wc ae,e]
theorem eO{n:Int}(h0:0<=n)(a:n<1000000000):IG n 9=GH 9 n.toNat:=by
 show HO 64 n.toNat 9 []=_;rw[Vw 8 64 n.toNat 9 [] rfl ae af,List.append_nil]
def CT(n d:Int):Z:=AP<|z6 n d
theorem aW(n:Int):itoa n=(if n<0 then[45]else[])++decDigits n.natAbs:=by
 unfold itoa;split
 ·rfl
 ·rw[show n.toNat=n.natAbs by omega];rfl
def vR(a:Bool×List Int):Int:=if a.1=true then -An a.2 else An a.2
def CA(a:Bool×List Int):Bool:=Bb a.2&&decide (a.2.length<=3000)&&(!a.1||decide (a.2≠[]))
def IB(l:List Int)(i:Int):Int:=l.getD i.toNat 0
def kR(a b:List Int):Bool:=Bb a&&Bb b&&decide (a.length<=9000)&&decide (b.length<=9000)
def Io(a b:List Int):List Int:=BS<|An a+An b
def I5(a b:List Int):List Int:=BS<|An a-An b
def Nx(a b:Bool×List Int):Bool:=rN<|vR a+vR b
def NW(a b:Bool×List Int):List Int:=rW<|vR a+vR b
def HQ(a b:Bool×List Int):Bool:=rN<|vR a*vR b
def H3(a b:Bool×List Int):List Int:=rW<|vR a*vR b
def UH(a:Bool×List Int):Bool:=rN<| -vR a
def SL(a:Bool×List Int):List Int:=rW<| -vR a
def Ju(a b:Bool×List Int):Bool:=rN<|vR a/vR b
def Jo(a b:Bool×List Int):List Int:=rW<|vR a/vR b
def FQ(a:Bool×List Int):Z:=AY<|vR a
def IA(n d:Bool×List Int):Z:=CT (vR n)<|vR d
def gX(a:Z):Int:=if Eo a=true then Ji a else 0
def UW(a:Z):Int:=if Eo a=true then TO a else 0
def CC(a b:Z):Z:=AP<|Au a+Au b
def G7(a b:Z):Z:=AP<|Au a-Au b
def FH(a b:Z):Z:=AP<|Au a*Au b
def RJ(a:Z):Z:=AP (Au a)⁻¹
def K0(a b:Z):Z:=AP<|Au a/Au b
def EI(a b:Z):Int:=if Au a<Au b then -1 else if Au b<Au a then 1 else 0
def Ab5(a:Z):Z:=AY (Au a).floor
def KL(a:Z):Bool:= !Bs a
def FM(a:Z):Int:=if 600<(A9<|AB a).length\/600<(T1 a).length then 4 else 0
def Df(a:Z):Bool:=Be a&&decide (a.length<=3000)
def aE(a:Z):Bool:=Df a&&decide (Au a≠0)
end Go.Sp
namespace Go.Pe
open Sp
open Go.Det
def Xs:Am:=⟨[li,i64],fun i=>decide (0<=(i.2:Int)),[i64],fun i=>IB i.1 i.2,false⟩
def Xl:Am:=⟨[li,li],fun i=>kR i.1 i.2,[li],fun i=>Io i.1 i.2,false⟩
def Xb:Am:=⟨[li,li],fun i=>kR i.1 i.2&&decide (An i.2<=An i.1),[li],fun i=>I5 i.1 i.2,false⟩
def mZ:Am:=⟨[Ig,Ig],fun i=>CA i.1&&CA i.2,[Ig],fun i=>(Nx i.1 i.2,NW i.1 i.2),false⟩
def ZF:Am:=⟨[Ig,Ig],fun i=>CA i.1&&CA i.2,[Ig],fun i=>(HQ i.1 i.2,H3 i.1 i.2),false⟩
def aD:Am:=⟨[Ig],fun a=>CA a,[Ig],fun a=>(UH a,SL a),false⟩
def Zy:Am:=⟨[Ig,Ig],fun i=>CA i.1&&CA i.2&&decide (0<Sp.vR i.2),[Ig],fun i=>(Ju i.1 i.2,Jo i.1 i.2),false⟩
def Rh:Am:=⟨[Ig],fun a=>CA a,[.str],fun a=>FQ a,false⟩
def Nk:Am:=⟨[Ig,Ig],fun i=>CA i.1&&CA i.2&&decide (Sp.vR i.2≠0),[.str],fun i=>IA i.1 i.2,false⟩
def YU:Am:=⟨[i64,i64],fun i=>Cn i.1&&Cn i.2&&decide ((i.2:Int)≠0),[.str],fun i=>CT i.1 i.2,false⟩
def Ow:Am:=⟨[.str],fun s=>Be s,[i64,i64,.bool],fun s=>(gX s,UW s,Eo s),false⟩
def LN:Am:=⟨[.str,.str],fun i=>Be i.1&&Be i.2,[.str],fun i=>CC i.1 i.2,false⟩
def ZP:Am:=⟨[.str,.str],fun i=>Be i.1&&Df i.2,[.str],fun i=>G7 i.1 i.2,false⟩
def Pz:Am:=⟨[.str,.str],fun i=>Be i.1&&Be i.2,[.str],fun i=>FH i.1 i.2,false⟩
def zU:Am:=⟨[.str],fun s=>aE s,[.str],fun s=>RJ s,false⟩
def mF:Am:=⟨[.str,.str],fun i=>Be i.1&&aE i.2,[.str],fun i=>K0 i.1 i.2,false⟩
def Qr:Am:=⟨[.str,.str],fun i=>Be i.1&&Df i.2,[i64],fun i=>EI i.1 i.2,false⟩
def ZI:Am:=⟨[.str],fun s=>Be s,[.str],fun s=>Ab5 s,false⟩
def T8:Am:=⟨[.str],fun s=>decide (s.length<=1000000),[.bool],fun s=>KL s,false⟩
def T7:Am:=⟨[.str],fun s=>decide (s.length<=1000000),[i64],fun s=>FM s,false⟩
def XR0:AT:=X7 []
def WR:AT:=X7 [(195,Xs),(193,SV)]
def XR2:AT:=X7 [(155,Ja),(156,Xl),(157,ZQ),(158,Xb),(159,Zm),(154,SG)]
def XR3:AT:=X7 [(99,Pg)]
def qU:AT:=SS [(93,[3,7,9])] [] [(93,[(3,[2,3]),(7,[8,10]),(9,[8,10])])] [(153,aD),(130,Me),(154,SG),(155,Ja),(96,Rh)]
def fC:AT:=SS [(40,[3,5,7,11])] [] [(40,[(3,[0,1]),(5,[0,1]),(7,[0,1]),(11,[1,6])])] [(97,HN),(93,Nk),(98,zY),(99,Pg)]
def yS:AT:=SS [(33,[5]),(34,[5])] [] [(33,[(5,[0,1])]),(34,[(5,[0,1])])] [(91,Ow),(40,YU),(92,On),(94,mZ),(95,ZF),(93,Nk)]
def XR7:AT:=X7 [(147,zU),(34,Pz),(33,LN),(84,ZL)]
def XR8:AT:=X7 [(37,ZP),(38,M6),(128,Pf),(144,lG),(145,zB),(146,lP)]
def XR9:AT:=X7 [(92,On),(150,Zy),(96,Rh),(148,T8)]
def YD:Am:=⟨[],fun _=>true,[.bool],fun _=>true,false⟩
theorem oR:Af A8 8 YD:=by
 refine .of0 ⟨by kernel_rfl,Bd ag,fun F h args i c d b a _=>?_⟩;have j:args=[]:=by
  have:=a (fun _=>none) 0;simpa [Ae,YD]using this
 subst j;refine⟨[(.bool true,h)],1,fun m k=>?_,fun _=>⟨_,rfl⟩,fun x g=>?_⟩
 ·obtain⟨e,rfl⟩:∃e,m=e+1:=⟨m-1,by omega⟩;have f:A8.spec 8=some fun args h=>bif yC h GB then(match Jl A7 8 args with|some v=>some (v,h)|none=>none)else none:=rfl
  rw[Bp];simp only[f,AaD b,we];rfl
 ·cases yx.1 g;exact⟨yg _,fun _ _=>rfl,d,F,fun _ _ h=>h,fun _ _ h=>.inl h,c,fun ρ N=>D9 _⟩
end Go.Pe
namespace Go.Sp
def Ro(a:AK):Int:=if BC (Ah<|vI a)=[]then 0 else 64*((BC<|Ah<|vI a).length-1)+FC ((BC<|Ah<|vI a).getD ((BC<|Ah<|vI a).length-1) 0)
def EP(a:AK):Bool:=NX<|vI a
def I1(a:Ag):Bool:=EP a.1||EP a.2
def Ku(a:Ag):Z:=if C8 a.2=true then AY (vI a.1)else AY (vI a.1)++47::AY (vI a.2)
def Pn(a:Ag):Z:=if I1 a=true then[]else Ku a
def PL(a:Ag):Int:=if I1 a=true then 4 else 0
def EY:List Z->Int
 |[]=>0
 |s::l=>if Ao s≠0 then Ao s else EY l
def Pp(a:Ag):Int:=NQ<|vI a.1
def NZ(a b:Z):Int:=EY [a,b]
def fD(e:Int)(q:Rat):Z:=if e≠0 then[]else if Ke q=true then[]else AP q
def fG(e:Int)(q:Rat):Int:=if e≠0 then e else if Ke q=true then 4 else 0
def EV(a:Z)(e:Int)(w:Z)(bad:Int):Bool:=if (if bad=0 then FM w else bad)≠0 then decide (a=[])&&decide (e=(if bad=0 then FM w else bad))else decide (e=0)&&decide (a=w)
end Go.Sp
namespace Go.Pe
open Sp
open Go.Det
def qB:Am:=⟨[A4],fun a=>Bh a,[i64],fun a=>Ro a,false⟩
def aM:Am:=⟨[A4],fun a=>Bh a,[.bool],fun a=>EP a,false⟩
def TZ:Am:=⟨[.str,.str],fun i=>Ur i.1 i.2,[.str],fun i=>A9 i.1,false⟩
def Zv:Am:=⟨[Av],fun a=>Sp.Cw (a:Ag),[.bool],fun a=>I1 a,false⟩
def lF:Am:=⟨[Av],fun a=>Sp.Cw (a:Ag),[.str],fun a=>Ku a,false⟩
def YP:Am:=⟨[Av],fun a=>Sp.Cw (a:Ag),[.str,i64],fun a=>(Pn a,PL a),false⟩
def ZN:Am:=⟨[.list .str],fun l=>decide (yz (α:=Z) l<=1000)&&List.all (α:=Z) l (fun s=>decide (s.length<=1000000)),[i64],fun l=>EY l,false⟩
def jQ:Am:=⟨[Av],fun a=>ke (a:Ag).1,[i64],fun a=>Pp a,false⟩
def XX0:AT:=X7 []
def XX1:AT:=X7 [(179,Q0),(228,Xu)]
def AdZ:AT:=X7 [(210,qB),(185,Acq),(174,TZ)]
def XX2:AT:=X7 [(184,aM),(138,QH),(185,Acq)]
def XX3:AT:=X7 [(122,Fg),(161,Kw)]
end Go.Pe
namespace Go.Sp
abbrev A1:=Z×Z
def DM:Option A1->List A1->Int
 |_,[]=>0
 |o,p::l=>if NZ p.1 p.2≠0 then NZ p.1 p.2 else match o with
  |some q=>if EI p.1 q.1<=0 then 11 else DM (some p) l
  |none=>DM (some p) l
def BH(t:List A1):Int:=if t=[]then 12 else if 64<t.length then 5 else DM none t
def Cs(s:Z):Ag:=((RI s,RC s),(Re s,Rg s))
def ED(p:A1):Ag×Ag:=(Cs p.1,Cs p.2)
def Wa(t:List A1):List (Ag×Ag):=if BH t≠0 then[]else t.map ED
def Rw:Option (Rat×Rat)->List (Rat×Rat)->Rat->Rat
 |none,[],_=>0
 |some p,[],_=>p.2
 |o,b::l,x=>if b.1<x then Rw (some b) l x else match o with
  |none=>b.2
  |some a=>a.2+(b.2-a.2)*(x-a.1)/(b.1-a.1)
def LH(t:List A1)(x:Z):Rat:=Rw none (t.map fun p=>(Au p.1,Au p.2))<|Au x
def XD(t:List A1)(x:Z):Int:=if BH t≠0 then BH t else Ao x
def kT(t:List A1)(x:Z):Z:=AP<|LH t x
def GC(k:Nat)(t:List A1):Bool:=t.all fun p=>decide (p.1.length<=k)&&decide (p.2.length<=k)
end Go.Sp
namespace Go.Pe
open Sp
open Go.Det
abbrev B5:Sh:=.pair .str .str
abbrev Z5:Sh:=.pair Av Av
def ZE:Am:=⟨[.list B5],fun l=>decide (yz (α:=A1) l<=1000)&&GC 1000000 l,[.list Z5,i64],fun l=>(Wa l,BH l),false⟩
def Lv:Am:=⟨[.list B5],fun l=>decide (yz (α:=A1) l<=1000)&&GC 1000000 l,[i64],fun l=>BH l,false⟩
def XT1:AT:=X7 [(168,Hb),(169,G1),(171,ZN),(55,MC),(56,Rj)]
def XT2:AT:=X7 [(123,ZE)]
def XT4:AT:=X7 [(62,Fg),(36,Qr)]
def XT5:AT:=X7 [(36,Qr),(82,mF),(37,ZP),(34,Pz),(33,LN)]
end Go.Pe
