import Derived.Test.YtlohiljbghionaaGreatDoorX12
/- A part of a proof; no law is stated here. -/
noncomputable section
open Go.Pe.Ends renaming tt -> zc, leaf -> ze, ite -> zj, Ah -> zk, ff -> zp, eq -> yc
open Bool renaming and_eq_true -> zd, true_and -> yt
open Go.Sp renaming vI -> zf, AS -> zq, B9 -> qi, gI -> jg, CP -> jt, first -> jz, preB -> j0, C5 -> j6, val -> kc
open Go.IntKind renaming wrap -> zg, u64 -> jk
open Go.Lib renaming decDigits -> zh, itoa -> z7, decDigits_length -> yk, decDigits_one -> qc
open Int renaming toNat_natCast -> zi, natAbs_natCast -> zm, mul_le_mul_of_nonneg_left -> zn, lt_of_lt_of_le -> zo, le_of_lt -> zx, lt_of_le_of_lt -> zy, mul_le_mul_of_nonneg_right -> z8, ne_of_gt -> yf, eq_ofNat_of_zero_le -> yo, natAbs_mul -> yu, toNat -> yv, pow_succ -> y7, gcd -> qf, le_trans -> qj, mul_nonneg -> ql, tdiv_eq_ediv_of_nonneg -> qo, tmod_eq_emod_of_nonneg -> qp, natAbs_ediv_le_natAbs -> qv, mul_pos -> qx, mul_one -> qy, ediv_eq_iff_of_pos -> jc, sign_eq_one_of_pos -> je, le_refl -> jh, mul_comm -> j5, gcd_comm -> j7, ediv_one -> j8
open List renaming length_append -> zl, length_drop -> zt, length_cons -> zu, all_cons -> zz, length_take -> ya, length_eq_zero_iff -> yd, take_of_length_le -> ye, take_length -> yh, getD_eq_getElem?_getD -> yi, getElem?_eq_getElem -> ym, map -> yp, length_map -> yw, mem_singleton -> yx, length -> yz, take_succ_eq_append_getElem -> y8, append_assoc -> y9, findIdx?_cons -> qn, all_eq_true -> qz, reverse_singleton -> jf, take -> jo
open Rat renaming num_divInt_den -> zr, divInt -> z6, divInt_add_divInt -> qd, num_eq_zero -> qh, num_divInt -> qq, den_divInt -> qt, neg_num -> ji, neg_den -> jj
open UInt8 renaming ofNat -> zw, toNat -> yb, toNat_inj -> yj
open Nat renaming le_refl -> yg, zero_le -> yq, eq_zero_or_pos -> yr, lt_of_le_of_lt -> yy, ble_eq_true_of_le -> qe, pow_le_pow_right -> qg, pow_succ -> qk, add_sub_cancel -> qm, lt_of_lt_of_le -> qu, le_trans -> q9, sub -> jm, ble -> j9
open Go.Pe.Ad renaming of -> yn
open Classical renaming byContradiction -> qw
open Go.Pe.Obj renaming tbox -> jl
variable {Q:Go.Pe.PV->Go.Pe.Ob->Prop}
namespace Go.Pe
open Sp
open Go.Det
theorem rX:Dg Q5:=
 Aa T106n.ok (Aa T176.ok<|Aa T127.ok<|Aa T139.ok<|Aa T143.ok<|Aa (Hr ag<|Be ag)<|Aa (Hr ag<|Be ag) AI)
theorem SQ(k:Nat):EZ 18 (k:Int)=((min 18 k:Nat):Int):=by unfold EZ;split<;>omega
theorem yT(n:Int):zg .u8 n=n % 256:=by simp[zg,IntKind.bits,IntKind.signed]
theorem fZ(k:Nat):(10:Int)^k<=(Ao:Int)^k:=by
 induction k with
 |zero=>exact jh _
 |succ k d=>
  rw[y7,y7];have a:=z8 d (show(0:Int)<=10 by decide);have c:=zn (show(10:Int)<=(Ao:Int)by decide) (zx<|AR (b:=Ao) af k);exact qj a c
theorem Gx{n:Int}(h0:0<=n)(h:n<(10:Int)^(6000:Nat)):Bb (C8 n)=true:=by
 refine D1 ?_;have a:=fZ 6000;have c:(Ao:Int)^6000<=(Ao:Int)^9000:=AM af af;have b:Ag n=n:=by rw[Ai];omega
 rw[b];exact zo h<|qj a c
theorem NP(m n:Int):Fx (C0 m,CZ m) (C0 n,CZ n)=C0 (m*n)/\Fv (C0 m,CZ m) (C0 n,CZ n)=CZ (m*n):=by
 constructor
 ·show C0 (zf (C8 _)*zf (C8 _))=_;rw[CH,CH]
 ·show CZ (zf (C8 _)*zf (C8 _))=_;rw[CH,CH]
theorem uK{a b:AG}(h:0<=zf a+zf b):EO a b=C8 (zf a+zf b):=by
 unfold EO;split
 ·next c=>
  have:=Et c.2.2;rw[Bo c.1,Bo c.2.1]at h ⊢;exact(Cb ae).symm
 ·rfl
theorem Ol{m v:Int}(f:0<=m)(e:0<=v):J7 (C0 m,CZ m) (v,CT v)=C0 (m+v)/\JZ (C0 m,CZ m) (v,CT v)=CZ (m+v):=by
 have c:zf (C0 m,CZ m)=m:=CH m;have d:zf (v,CT v)=v:=by rw[EA,EW]
 have:=uK (a:=(C0 m,CZ m)) (b:=(v,CT v)) (by rw[c,d];omega);rw[c,d]at this;exact⟨wi Prod.fst this,wi Prod.snd this⟩
theorem Of(n:Nat):VE ((10:Int),CT (10:Int)) (n:Int)=C0 (10^n)/\Wf ((10:Int),CT (10:Int)) (n:Int)=CZ (10^n):=by
 have e:Sp.pI (zf ((10:Int),CT (10:Int))) (n:Int)=10^n:=by rw[R8,EA,EW,zi]
 unfold VE Wf;rw[e];exact⟨rfl,rfl⟩
theorem jY:Bb ((10:Int),CT (10:Int))=true:=by rw[EA];decide
theorem jC{n:Nat}(h:n<=18):iI (zf ((10:Int),CT (10:Int))) (n:Int)=true:=by
 unfold iI;have e:Sp.pI (zf ((10:Int),CT (10:Int))) (n:Int)=10^n:=by rw[R8,EA,EW,zi]
 rw[e];have a:(10:Int)^n<=10^18:=AM af h;have h0:(0:Int)<10^n:=AR af n;have d:(10:Int)^18<18446744073709551616^1:=af
 have b:(18446744073709551616:Int)^(1:Nat)<=18446744073709551616^(4000:Nat):=AM af af;have c:Ag ((10:Int)^n)=10^n:=by rw[Ai];omega
 rw[c];exact Ab (ad ae ae)<|w4<|zy a<|zo d b
theorem Vm{v:Int}(h0:0<=v)(h:v<1000000000000000000):Bb (v,CT v)=true:=by
 rw[EA];unfold Bb;exact Ab (Lb<|DZ ae ae)<|w4<|yq _
theorem YP{w:Z}(a:Ap w=true)(h:w.length<=18):0<=AE 0 w/\AE 0 w<1000000000000000000:=by
 have:=Bi a;have c:(10:Int)^w.length<=10^18:=AM af h;have b:(10:Int)^18=1000000000000000000:=af
 omega
namespace T126
theorem Cz(W:Z)(neg:Bool)(x:Int)(k:List Int)(A:Int)(w:Z)(n:Nat)(g:w=W.take n)(hW:Ap W=true)(y:n=min 18 W.length)(C:1<=W.length)(a f:Int)(a0:0<=a)(B:Bb (C8 a)=true)(h:Bb (C8<|a*10^n)=true)
  (o:Ends Q5 (L5 (W.drop n) neg (C0<|a*10^n+AE 0 w) (CZ<|a*10^n+AE 0 w) f) Q):
  ∀(r:Z) (j:Nat),w.drop j=r->j<=w.length->Ends Q5 (L7 W neg x k A w (AE 0<|w.take j) w.length w.length j (w.map fun b=>(b.toNat:Int)) (C0 a) (CZ a) f) Q
 |[],j,hr,l=>by
  have e:Ap w=true:=by rw[g];exact Bg hW n
  have m:w.length=n:=by rw[g,ya];omega
  have M:j=w.length:=drop_nil hr l;subst M;have p:=YP e ae;obtain⟨c,t,N⟩:∃c t,w=c::t:=by
   cases w with
   |nil=>simp at m;omega
   |cons c t=>exact⟨c,t,rfl⟩
  have v:((((w.getD 0 0).toNat:Int)==(45:Int))=false):=by
   rw[N]at e ⊢;unfold Ap at e;rw[zz,zd]at e;have:=Dd e.1;unfold HM at this;show(((c.toNat:Int)==(45:Int))=false);simp;omega
  have I:(W.drop n).take (jm W.length n)=W.drop n:=ye (by rw[zt];exact yg _);have p0:0<=a*10^n:=ql a0 (zx<|AR af n);have H:Bb (C0<|10^n,CZ<|10^n)=true:=by
   refine Ga (Gx (n:=(10:Int)^n) (zx<|AR af n) ?_);have R:(10:Int)^n<=10^18:=AM af ae;have G:(10:Int)^18<10^19:=af
   have S:(10:Int)^19<=10^(6000:Nat):=AM af af;exact zy R<|zo G S
  refine zk (DT ..) (zp (by simp)<|zc (w4 ae) ?_);rw[v,SQ, <-y,(Of n).1,(Of n).2,yh];refine zp rfl (zc rfl (zc (Ab jY<|jC ae)<|zc (Ab B H)<|zc rfl ?_));rw[(NP _ _).1,(NP _ _).2,(Ol p0 p.1).1,(Ol p0 p.1).2,zi,I];exact zc (Ab h<|Vm p.1 p.2) (zc (by simp;omega) o)
 |c::r,j,hr,l=>by
  have e:Ap w=true:=by rw[g];exact Bg hW n
  have m:w.length=n:=by rw[g,ya];omega
  obtain⟨u,L,T⟩:=drop_cons (d:=0) hr;have q:BW c=true:=by
   unfold Ap at e;rw[qz]at e;exact e c<|OQ hr
  have J:=Dd q;have s:(w.take j).length=j:=by rw[ya];omega
  have E:=Bi<|Bg e j;rw[s]at E;have hp:(10:Int)^j<=10^17:=AM af ae;have z:(10:Int)^17=100000000000000000:=af
  have K:(w.map fun b=>(b.toNat:Int)).getD j 0=(c.toNat:Int):=by
   rw[yi,List.getElem?_map,ym u];have:w[j]=c:=by rw[<-L,yi,ym u];rfl
   rw[this];rfl
  have O:zg .u8 ((c.toNat:Int)-48)=HM c:=by
   rw[yT];unfold HM at J ⊢;omega
  have P:zg .i64 (zg .i64 (AE 0 (w.take j)*10)+zg .i64 (HM c))=AE 0 (w.take<|j+1):=by
   rw[ME hr,C2];show _=10*AE 0 (w.take j)+HM c;generalize AE 0 (w.take j)=D at*;rw[wr (D*10) ae ae,wr (HM c) ae ae,wr _ ae ae];omega
  have F:=wn (i:=j) ae;refine zk (DT ..) (zc (by simp;omega) ?_);rw[zi,K,O,P,F];refine zc (by simp;omega) (zc (by simp;omega)<|zp (w8 ae) ?_);exact Cz W neg x k A w n g hW y C a f a0 B h o r (j+1) T u
theorem Dl(W:Z)(neg:Bool)(x:Int)(A:Int)(w:Z)(n:Nat)(g:w=W.take n)(hW:Ap W=true)(y:n=min 18 W.length)(B:1<=W.length)(a f:Int)(q:a=0)(a0:0<=a)(T:Bb (C8 a)=true)(h:Bb (C8<|a*10^n)=true)
  (m:Ends Q5 (L5 (W.drop n) neg (C0<|a*10^n+AE 0 w) (CZ<|a*10^n+AE 0 w) f) Q):
  ∀(r:Z) (j:Nat),w.drop j=r->j<=w.length->Ends Q5 (L3 W neg x A w (AE 0<|w.take j) w.length w.length j (w.map fun b=>(b.toNat:Int)) 0 f) Q
 |[],j,hr,k=>by
  have e:Ap w=true:=by rw[g];exact Bg hW n
  have l:w.length=n:=by rw[g,ya];omega
  have L:j=w.length:=drop_nil hr k;subst L;have o:=YP e ae;obtain⟨c,t,M⟩:∃c t,w=c::t:=by
   cases w with
   |nil=>simp at l;omega
   |cons c t=>exact⟨c,t,rfl⟩
  have v:((((w.getD 0 0).toNat:Int)==(45:Int))=false):=by
   rw[M]at e ⊢;unfold Ap at e;rw[zz,zd]at e;have:=Dd e.1;unfold HM at this;show(((c.toNat:Int)==(45:Int))=false);simp;omega
  have H:(W.drop n).take (jm W.length n)=W.drop n:=ye (by rw[zt];exact yg _);have p0:0<=a*10^n:=ql a0 (zx<|AR af n);have G:Bb (C0<|10^n,CZ<|10^n)=true:=by
   refine Ga (Gx (n:=(10:Int)^n) (zx<|AR af n) ?_);have P:(10:Int)^n<=10^18:=AM af ae;have F:(10:Int)^18<10^19:=af
   have R:(10:Int)^19<=10^(6000:Nat):=AM af af;exact zy P<|zo F R
  refine zk (Ca ..) (zp (by simp) (zc (w4 ae) ?_));rw[v,SQ, <-y,(Of n).1,(Of n).2,yh];refine zp rfl (zc rfl (zc (Ab jY<|jC ae)<|zc (Ab (show Bb ((0:Int),[])=true by decide) G)<|zc rfl ?_));rw[show Fx ((0:Int),[]) (C0<|10^n,CZ<|10^n)=C0 (a*10^n)by rw[q];exact(NP 0 _).1,show Fv ((0:Int),[]) (C0<|10^n,CZ<|10^n)=CZ (a*10^n)by rw[q];exact(NP 0 _).2,(Ol p0 o.1).1,(Ol p0 o.1).2,zi,H];exact zc (Ab h<|Vm o.1 o.2) (zc (by simp;omega) m)
 |c::r,j,hr,k=>by
  have e:Ap w=true:=by rw[g];exact Bg hW n
  have l:w.length=n:=by rw[g,ya];omega
  obtain⟨u,K,S⟩:=drop_cons (d:=0) hr;have p:BW c=true:=by
   unfold Ap at e;rw[qz]at e;exact e c<|OQ hr
  have I:=Dd p;have s:(w.take j).length=j:=by rw[ya];omega
  have C:=Bi<|Bg e j;rw[s]at C;have hp:(10:Int)^j<=10^17:=AM af ae;have z:(10:Int)^17=100000000000000000:=af
  have J:(w.map fun b=>(b.toNat:Int)).getD j 0=(c.toNat:Int):=by
   rw[yi,List.getElem?_map,ym u];have:w[j]=c:=by rw[<-K,yi,ym u];rfl
   rw[this];rfl
  have N:zg .u8 ((c.toNat:Int)-48)=HM c:=by
   rw[yT];unfold HM at I ⊢;omega
  have O:zg .i64 (zg .i64 (AE 0 (w.take j)*10)+zg .i64 (HM c))=AE 0 (w.take<|j+1):=by
   rw[ME hr,C2];show _=10*AE 0 (w.take j)+HM c;generalize AE 0 (w.take j)=D at*;rw[wr (D*10) ae ae,wr (HM c) ae ae,wr _ ae ae];omega
  have E:=wn (i:=j) ae;refine zk (Ca ..) (zc (by simp;omega) ?_);rw[zi,J,N,O,E];refine zc (by simp;omega) (zc (by simp;omega) (zp (w8 ae) ?_));exact Dl W neg x A w n g hW y B a f q a0 T h m r (j+1) S u
theorem xB(W:Z)(neg:Bool)(o1:Int)(d:List Int)(f:Int)(hW:Ap W=true)(k:1<=W.length)(n:Nat)(j:n=min 18 W.length)
  (h:Ends Q5 (L7 W neg o1 d f (W.take n) 0 (W.take n).length (W.take n).length 0 ((W.take n).map fun b=>(b.toNat:Int)) o1 d f) Q):Ends Q5 (L5 W neg o1 d f) Q:=by
 have e:(W.take n).length=n:=by rw[ya];omega
 have a:=Bg hW n;have i:((((W.take n).getD 0 0).toNat:Int)==(45:Int))=false/\((((W.take n).getD 0 0).toNat:Int)==(43:Int))=false:=by
  cases g:W.take n with
  |nil=>rw[g]at e;simp at e;omega
  |cons c t=>
   rw[g]at a;unfold Ap at a;rw[zz,zd]at a;have:=Dd a.1;unfold HM at this;show(((c.toNat:Int)==(45:Int))=false)/\(((c.toNat:Int)==(43:Int))=false);constructor<;>(simp;omega)
 refine zk (Eu ..) (zc (by simp;omega) ?_);rw[SQ, <-j,zi,i.1,i.2];exact zc (by simp;omega) (zc (w4 ae) (zc (w4 ae)<|zc (w4 ae) (zp rfl (zc (w4 ae)<|zp rfl h))))
theorem rV(W:Z)(neg:Bool)(o1:Int)(e:Int)(hW:Ap W=true)(j:1<=W.length)(n:Nat)(i:n=min 18 W.length)
  (h:Ends Q5 (L3 W neg o1 e (W.take n) 0 (W.take n).length (W.take n).length 0 ((W.take n).map fun b=>(b.toNat:Int)) o1 e) Q):Ends Q5 (L1 W neg o1 e) Q:=by
 have d:(W.take n).length=n:=by rw[ya];omega
 have a:=Bg hW n;have f:((((W.take n).getD 0 0).toNat:Int)==(45:Int))=false/\((((W.take n).getD 0 0).toNat:Int)==(43:Int))=false:=by
  cases g:W.take n with
  |nil=>rw[g]at d;simp at d;omega
  |cons c t=>
   rw[g]at a;unfold Ap at a;rw[zz,zd]at a;have:=Dd a.1;unfold HM at this;show(((c.toNat:Int)==(45:Int))=false)/\(((c.toNat:Int)==(43:Int))=false);constructor<;>(simp;omega)
 refine zk (Al ..) (zc (by simp;omega) ?_);rw[SQ, <-i,zi,f.1,f.2];exact zc (by simp;omega) (zc (w4 ae)<|zc (w4 ae) (zc (w4 ae)<|zp rfl (zc (w4 ae)<|zp rfl h)))
theorem Abf(n:Int)(h:0<=n):(Ef (C0 n,CZ n),Eg (C0 n,CZ n))=C8 (-n):=by
 show Ck (C8 n)=_;unfold Ck;split
 ·next c=>
  have:=CH n;rw[Bo c.1]at this;rw[this,Cb (n:= -n)];by_cases a: -9223372036854775808<n/\n<9223372036854775808
  ·omega
  ·exfalso;have e:C8 n=(1,Bv<|Ag n):=by unfold C8;rw[wc a,wc ae]
   rw[e]at this;have:(1:Int)=n:=this;omega
 ·rw[CH]
theorem Zw{a D:Int}{W:Z}{n:Nat}(b:0<=a)(hW:Ap W=true)(f:n<=W.length)(h:a*10^W.length+AE 0 W=D):(a*10^n+AE 0 (W.take n))*10^(W.drop n).length+AE 0 (W.drop n)=D/\a<=D/\a*10^n<=D:=by
 have i:AE 0 W=AE 0 (W.take n)*10^(W.drop n).length+AE 0 (W.drop n):=by
  conv=>lhs;rw[<-List.take_append_drop n W]
  rw[C2,ER]
 have d:W.length=n+(W.drop n).length:=by rw[zt];omega
 have hp:(10:Int)^W.length=10^n*10^(W.drop n).length:=by rw[<-Int.pow_add, <-d]
 have g:=(Bi hW).1;have c:a*10^W.length=a*10^n*10^(W.drop n).length:=by rw[hp,Int.mul_assoc]
 have one:∀k:Nat,(1:Int)<=10^k:=fun k=>by have:=AR (show(0:Int)<10 by decide) k;omega
 have l1:a<=a*10^W.length:=by have:=zn (one W.length) b;omega
 have e:a*10^n<=a*10^n*10^(W.drop n).length:=by
  have:=zn (one (W.drop n).length) (ql b (show(0:Int)<=10^n by have:=one n;omega));omega
 refine⟨?_,by omega,by omega⟩;rw[Int.add_mul, <-c];omega
theorem CN(neg:Bool)(g D:Int)(b:D<(10:Int)^(6000:Nat))(h:∀ob,Q (.agg [.dat i64<|C0<|if neg=true then -D else D,.dat (.nlist u64)<|CZ<|if neg=true then -D else D]) ob):∀(f:Nat) (W:Z) (a:Int),W.length<f->W.length<=6000->0<=a->Ap W=true->a*10^W.length+AE 0 W=D->Ends Q5 (L5 W neg (C0 a) (CZ a) g) Q
 |0,W,a,m,_,_,_,_=>by omega
 |f+1,W,a,m,r,e,hW,i=>by
  cases d:W with
  |nil=>
   subst d;have i:a=D:=by rw[<-i];simp[AE]
   subst i;have j:=Gx e b;refine zk (Eu ..) (zp (by simp)<|zj (fun c=>zc (BU j).1<|ze ?_)<|fun c=>ze ?_)
   ·have:=Abf a e;rw[c,wd rfl]at h;have q:Ef (C0 a,CZ a)=C0 (-a):=wi Prod.fst this;have s:Eg (C0 a,CZ a)=CZ (-a):=wi Prod.snd this;rw[q,s];exact h _
   ·rw[c,wc af]at h;exact h _
  |cons c t=>
   rw[<-d];have k:1<=W.length:=by rw[d];simp
   obtain⟨o,p,l⟩:=Zw (n:=min 18 W.length) e hW ae i;have u:=(Bi<|Bg hW<|min 18 W.length).1;have hp:0<=a*10^(min 18 W.length):=ql e (zx<|AR af _);refine xB W neg _ _ g hW k _ rfl (Cz W neg _ _ g _ _ rfl hW rfl k a g e (Gx e<|zy p b) (Gx hp<|zy l b) ?_ _ 0 rfl (yq _));exact CN neg g D b h f (W.drop<|min 18 W.length) _ (by rw[zt];omega) (by rw[zt];omega) ae (B2 hW _) o
theorem Aq(neg:Bool)(W:Z)(h:W.length<=5999)(hW:Ap W=true)(i:∀ob,Q (.agg [.dat i64<|C0<|if neg=true then -AE 0 W else AE 0 W,.dat (.nlist u64)<|CZ<|if neg=true then -AE 0 W else AE 0 W]) ob)(d:W=[]->∀ob v,(v=.agg [.dat i64 0,.nil]\/v=.agg [.dat i64<|Ef ((0:Int),[]),.dat (.nlist u64)<|Eg ((0:Int),[])])->Q v ob):Ends Q5 (L1 W neg 0 0) Q:=by
 cases b:W with
 |nil=>
  refine zk (Al ..) (zp (by simp) (zj (fun c=>zc af<|ze<|d b _ _<|.inr rfl)<|fun c=>ze<|d b _ _<|.inl rfl))
 |cons c t=>
  rw[<-b];have f:1<=W.length:=by rw[b];simp
  have e:AE 0 W<(10:Int)^(6000:Nat):=zo (Bi hW).2 (AM af ae);obtain⟨g,l,k⟩:=Zw (a:=0) (n:=min 18 W.length) (D:=AE 0 W) (jh _) hW ae (by rw[Int.zero_mul,Int.zero_add]);have j:=(Bi<|Bg hW<|min 18 W.length).1;refine rV W neg 0 0 hW f _ rfl (Dl W neg 0 0 _ _ rfl hW rfl f 0 0 rfl (jh _) af (by rw[Int.zero_mul];decide) ?_ _ 0 rfl (yq _));exact CN neg 0 _ e i (W.length+1) (W.drop<|min 18 W.length) _ (by rw[zt];omega) (by rw[zt];omega) ae (B2 hW _) g
theorem ok:Af A9 126 Ov:=by
 refine BN rX<|fun(s:Z) a=>?_;have a:(decide (s.length<=5999)&&(if s.getD 0 0=45 then Ap (s.drop 1)else Ap s))=true:=a;rw[zd,w5]at a;obtain⟨j,a⟩:=a;have fin:∀D,Cr s=D->∀ob,Ad Ov s (.agg [.dat i64<|C0 D,.dat (.nlist u64)<|CZ D]) ob:=by
  rintro D rfl ob;exact yn rfl rfl rfl
 have b:Cr s=0->∀ob v,(v=.agg [.dat i64 0,.nil]\/v=.agg [.dat i64<|Ef ((0:Int),[]),.dat (.nlist u64)<|Eg ((0:Int),[])])->Ad Ov s v ob:=by
  rintro h ob v (rfl|rfl)
  ·refine yn rfl rfl ?_;show((0:Int),([]:List Int))=(C0<|Cr s,CZ<|Cr s);rw[h];rfl
  ·refine yn rfl rfl ?_;show Ck ((0:Int),([]:List Int))=(C0<|Cr s,CZ<|Cr s);rw[h];rfl
 refine yc (Ak s) ?_;conv=>zeta
 cases s with
 |nil=>
  refine zp af (zp af (zk (AJ ..)<|zp af<|ze<|b rfl _ _ (.inl rfl)))
 |cons c r=>
  have l:(c::r).take 1=[c]:=rfl;have g:(c::r).getD 0 0=c:=rfl;rw[g]at a;have e:(List.drop 1 (c::r)).take (jm (c::r).length 1)=r:=by show r.take ((r.length+1)-1)=r;rw[qm];exact yh
  have i:decide (((c::r).length:Int)>=1)=true:=w4 (by simp;omega);have k:decide (1<=(c::r).length)=true:=w4 (by simp);rw[l,e];refine zc i<|zc k<|zc i<|zc k<|zj (fun d=>?_)<|fun d=>?_
  ·have f:c=45:=by simpa using d
   rw[wd f]at a;rw[d];have hr:Cr (c::r)= -AE 0 r:=by unfold Cr;rw[g,wd f];rfl
   refine zc (by simp) (Aq true r (by simp at j;omega) a (fin _<|by rw[hr,wd rfl])<|fun h0=>b<|by rw[hr,h0];rfl)
  ·have f:c≠45:=by rintro rfl;exact wh d af
   rw[wc f]at a;rw[d];have hr:Cr (c::r)=AE 0 (c::r):=by unfold Cr;rw[g,wc f]
   exact Aq false (c::r) j a (fin _<|by rw[hr,wc af]) (fun h0=>by cases h0)
end T126
namespace T168
theorem loop{Q:PV->Ob->Prop}(l:List Int)(g:l.length<=1000000):∀(r:List Int) (i:Nat),l.drop i=r->i<=l.length->Q (.dat i64<|jz r) []->Ends NQ (L1 l ((l.length:Int)) i) Q
 |[],i,h,k,a=>by
  refine zk (Al ..) ?_;conv=>zeta
  have:¬i<l.length:=by
   intro b;have:=List.drop_eq_getElem_cons b;rw[h]at this;cases this
  have j:i=l.length:=ae
  subst j;simpa [jz]using a
 |x::r,i,h,k,a=>by
  obtain⟨b,f,e⟩:=drop_cons (d:=0) h;refine zk (Al ..) ?_;conv=>zeta
  rw[Fk,wd (by simp;omega),Fk,wd (by simp;omega),Fk];simp only[zi,f];by_cases c:x=0
  ·subst c;rw[wc (by simp),wr _ ae ae];exact loop l g r (i+1) e b (by simpa [jz]using a)
  ·rw[wd<|by simpa using c];simpa [jz,c]using a
theorem ok:Af A9 168 GY:=by
 refine BN E4<|fun l a=>?_;refine yc (Ak l) ?_;conv=>zeta
 exact loop l (by simpa [GY]using a) l 0 rfl (yq _) (yn rfl rfl rfl)
end T168
theorem T169.ok:Af A9 169 Ib:=by
 refine BN E4<|fun⟨c,e⟩ _=>?_;refine yc (T169.Ak c e) ?_;conv=>zeta
 have key:∀x:Int,x=Cs c e->Ad Ib (c,e) (.dat i64 x) []:=fun x a=>yn rfl rfl a
 simp only[Fk,Hn];cases c
 ·exact key _ rfl
 ·exact key _ rfl
theorem sZ:Dg MJ:=
 Aa T168.ok (Aa T169.ok<|Aa T166.ok<|Aa T124.ok<|Aa T167.ok<|Aa T170.ok<|Aa T126.ok<|Aa T105.ok<|Aa T106n.ok AI)
theorem HE{s:Z}(h:AV s=true):s≠[]/\Ap s=true:=by
 unfold AV at h;rw[zd,zd,w5]at h;exact h.1
theorem L0{s:Z}(h:Ap s=true)(b:s.length<=5999):Es s=true/\Cr s=AE 0 s:=by
 have h0:s.getD 0 0≠45:=by
  cases s with
  |nil=>decide
  |cons c r=>
   unfold Ap at h;rw[zz,zd]at h;have:=Dd h.1;rintro a;have a:c=45:=a;subst a;exact wh this af
 unfold Es Cr;rw[wc h0,wc h0,h,Bool.and_true];exact⟨w4 b,rfl⟩
theorem yH{a b L:Int}(f:0<=a)(c:0<=b)(g:a<L)(d:b<L):0<=jg a b/\jg a b<L:=by
 rw[F8];obtain⟨x,rfl⟩:=yo f;obtain⟨y,rfl⟩:=yo c;have e:qf (x:Int) (y:Int)=Nat.gcd x y:=rfl;rw[e];refine⟨Int.natCast_nonneg _,?_⟩;rcases yr x with h|h
 ·subst h;rw[Nat.gcd_zero_left];exact d
 ·have:=Nat.gcd_le_left y h;omega
namespace T122
def E(A B:Z)(b a:Bool):Int:=if a=false then 1 else if 600<A.length\/600<B.length then 4 else if b=true/\jg (AE 0 A) (AE 0 B)≠1 then 1 else 0
theorem FG(A B:Z)(a:Bool)(l:Ap A=true)(b:a=true->Ap B=true)(z:A.length<=600)(y:B.length<=600)(d:∀ob,Q (.dat i64<|if a=true/\jg (AE 0 A) (AE 0 B)≠1 then 1 else 0) ob):Ends MJ (L8 A B a) Q:=by
 refine zk (Hu ..)<|zj (fun c=>?_)<|fun c=>?_
 ·have b:=b c;obtain⟨r,k⟩:=L0 l ae;obtain⟨r3,r4⟩:=L0 b ae;have e:=Bi l;have f:=Bi b;have j:AE 0 A<(10:Int)^(6000:Nat):=zo e.2 (AM af ae);have i:AE 0 B<(10:Int)^(6000:Nat):=zo f.2 (AM af ae);have x:DA A=C0 (AE 0 A):=by unfold DA;rw[k]
  have s:Dv A=CZ (AE 0 A):=by unfold Dv;rw[k]
  have p:DA B=C0 (AE 0 B):=by unfold DA;rw[r4]
  have u:Dv B=CZ (AE 0 B):=by unfold Dv;rw[r4]
  have v:Nx (C0<|AE 0 A,CZ<|AE 0 A) (C0<|AE 0 B,CZ<|AE 0 B)=C0 (jg (AE 0 A)<|AE 0 B):=by
   unfold Nx;rw[LP,LP]
  have w:Nd (C0<|AE 0 A,CZ<|AE 0 A) (C0<|AE 0 B,CZ<|AE 0 B)=CZ (jg (AE 0 A)<|AE 0 B):=by
   unfold Nd;rw[LP,LP]
  obtain⟨l1,m⟩:=yH e.1 f.1 j i;have n:dE (C0<|jg (AE 0 A)<|AE 0 B,CZ<|jg (AE 0 A)<|AE 0 B) ((1:Int),CT (1:Int))=Cg (jg (AE 0 A)<|AE 0 B) 1:=by
   unfold dE;rw[LP,EA,EW]
  rw[x,s,p,u,v,w,n];have o:Bb ((1:Int),CT (1:Int))=true:=by rw[EA];decide
  refine zc r<|zc r3<|zc (Ab (Ga<|Gx e.1 j)<|Ga<|Gx f.1 i)<|zc rfl (zc (Ab (Ga<|Gx l1 m) o) ?_);refine zk (lH ..)<|zc rfl (ze ?_);generalize jg (AE 0 A) (AE 0 B)=g at*;have:Cs (Cg g 1 !=0) 1=if a=true/\g≠1 then 1 else 0:=by
   unfold Cg Cs;by_cases h:g=1
   ·subst h;rw[c];rfl
   ·have t:(if a=true/\g≠1 then(1:Int)else 0)=1:=wd ⟨c,h⟩;rw[t];rcases Int.lt_or_gt_of_ne h with q|q
    ·rw[wd q];rfl
    ·rw[wc ae,wd q];rfl
  rw[this];exact d _
 ·refine zk TV<|zc rfl (ze ?_);rw[wc<|by rw[c];simp]at d;exact d _
theorem Cz(A B:Z)(e a c d:Bool)(l:c= !a)(f:d=true↔600<A.length\/600<B.length)(j:a=true->Ap A=true/\(e=true->Ap B=true))(b:∀ob,Q (.dat i64<|E A B e a) ob):Ends MJ (L7 A B e<|jz [Cs c 1,Cs d 4]) Q:=by
 subst l;unfold E at b;cases a with
 |false=>
  refine zk (DT ..)<|zc ?_<|ze<|b _;cases d<;>rfl
 |true=>
  rw[wc af]at b;cases d with
  |true=>
   rw[wd<|f.1 rfl]at b;exact zk (DT ..)<|zc rfl (ze<|b _)
  |false=>
   have i:¬(600<A.length\/600<B.length):=fun h=>by have:=f.2 h;cases this
   rw[wc i]at b;obtain⟨k,g⟩:=j rfl;exact zk (DT ..) (zp rfl (FG A B e k g ae ae b))
theorem B0(A B:Z)(b a:Bool)(d:a=true->Ap A=true/\(b=true->Ap B=true))(e:∀ob,Q (.dat i64<|E A B b a) ob):Ends MJ (L4 A B b a) Q:=by
 refine zk (CD ..)<|zc rfl (zj (fun c=>zc rfl (zc rfl ?_))<|fun c=>zc rfl (zc rfl ?_))
 ·have c:=w6 c;exact Cz A B b a _ _ rfl ⟨fun _=>.inl ae,fun _=>rfl⟩ d e
 ·have c:=w7 c;exact Cz A B b a _ _ rfl ⟨fun h=>.inr (by have:=w6 h;omega),fun h=>w4 ae⟩ d e
theorem CN(A B:Z)(a:Bool)(b:∀ob,Q (.dat i64<|E A B a false) ob):Ends MJ (L5 A B a) Q:=by
 refine zk (Eu ..)<|zc rfl (zj (fun c=>zc rfl (zc rfl ?_))<|fun c=>zc rfl (zc rfl ?_))
 ·have c:=w6 c;exact Cz A B a false _ _ rfl ⟨fun _=>.inl ae,fun _=>rfl⟩ (fun h=>by cases h) b
 ·have c:=w7 c;exact Cz A B a false _ _ rfl ⟨fun h=>.inr (by have:=w6 h;omega),fun h=>w4 ae⟩ (fun h=>by cases h) b
theorem E5(A B:Z)(a:Bool)(b:Ap A=true/\(a=true->Ap B=true))(d:∀ob,Q (.dat i64<|E A B a true) ob):Ends MJ (L6 A B a) Q:=by
 refine zk (EP ..)<|zc rfl (zj (fun c=>zc rfl (zc rfl ?_))<|fun c=>zc rfl (zc rfl ?_))
 ·have c:=w6 c;exact Cz A B a true _ _ rfl ⟨fun _=>.inl ae,fun _=>rfl⟩ (fun _=>b) d
 ·have c:=w7 c;exact Cz A B a true _ _ rfl ⟨fun h=>.inr (by have:=w6 h;omega),fun h=>w4 ae⟩ (fun _=>b) d
theorem Uk{F:Tr}(A B:Z)(f:Bool)(j:B.length<=1000000)(k:Ap A=true)(b:Bool)(a:b=(!f||(AV B&&decide (B≠[48])&&decide (B≠[49]))))(g:∀ob,Q (.dat i64<|E A B f b) ob)
  (h:(f=true->Ends MJ (.ite (decide (B.length<=1000000)) (.ite (AV B) (.ite (!B==[(48:UInt8)]) (L4 A B f<|!B==[(49:UInt8)])<|L5 A B f)<|L5 A B f) .fail) Q)->(f=false->b=true)->Ends MJ F Q):Ends MJ F Q:=by
 refine h (fun i=>zc (w4 j) ?_) (fun i=>by rw[a,i];rfl);rw[i]at a;refine zj (fun c=>zj (fun d=>?_)<|fun d=>?_)<|fun c=>?_
 ·have d:B≠[48]:=by simpa using d
  have e:b=(!B==[(49:UInt8)]):=by
   rw[a,c,w4 d];by_cases h:B=[49]
   ·rw[h];rfl
   ·rw[w4 h];simp[h]
  rw[<-e];exact B0 A B f b (fun _=>⟨k,fun _=>(HE c).2⟩) g
 ·have d:B=[48]:=by simpa using d
  have e:b=false:=by rw[a,w8<|fun h=>h d];simp
  rw[e]at g;exact CN A B f g
 ·have e:b=false:=by rw[a,c];simp
  rw[e]at g;exact CN A B f g
theorem DB(s:Z):(AA s).length<=s.length/\(zq s).length<=s.length:=by
 unfold AA zq;cases s.findIdx? (fun x=>x==47)with
 |none=>simp
 |some i=>simp;omega
theorem Zc(s:Z):(A2 s).length<=s.length:=by
 unfold A2;split
 ·simp
 ·exact yg _
theorem ok:Af A9 122 EH:=by
 refine BN sZ<|fun(a:Z) o=>?_;have o:a.length<=1000000:=w6 o;have l1:=Zc a;obtain⟨r,s⟩:=DB<|A2 a;have j:∀b,b=Gt a->∀ob,Ad EH a (.dat i64<|E (AA<|A2 a) (zq<|A2 a) (Bq<|A2 a) b) ob:=by
  rintro b rfl ob;exact yn rfl rfl rfl
 have g:Gt a=(AV (AA<|A2 a)&&(!j0 a||decide (AA (A2 a)≠[48]))&&(!Bq (A2 a)||(AV (zq<|A2 a)&&decide (zq (A2 a)≠[48])&&decide (zq (A2 a)≠[49])))):=rfl;refine yc (Ak a) (zc (Ab (w4 rfl)<|w4 o) (zc (Ab (w4 rfl)<|w4 ae)<|zc (w4 ae) ?_));generalize AA (A2 a)=A at*;generalize zq (A2 a)=B at*;generalize Bq (A2 a)=f at*;refine zj (fun c=>?_)<|fun c=>?_
 ·have k:=(HE c).2;refine zj (fun d=>?_)<|fun d=>?_
  ·have i:Gt a=(!f||(AV B&&decide (B≠[48])&&decide (B≠[49]))):=by rw[g,c,d];rfl
   refine Uk A B f ae k (Gt a) i (j _ rfl)<|fun m q=>zk (Al ..)<|zj m<|fun e=>?_;have p:=q e;exact E5 A B f ⟨k,fun h=>by rw[e]at h;cases h⟩<|j true p.symm
  ·by_cases l:A=[48]
   ·have i:Gt a=false:=by rw[g,d,w8<|fun h=>h l];simp
    have n:(!A==[(48:UInt8)])=false:=by rw[l];rfl
    rw[n];refine zk (AJ ..) (zj (fun e=>zp rfl (CN A B f<|j false i.symm)) (fun e=>B0 A B f false (fun h=>by cases h)<|j false i.symm))
   ·have n:(!A==[(48:UInt8)])=true:=by simp[l]
    have i:Gt a=(!f||(AV B&&decide (B≠[48])&&decide (B≠[49]))):=by rw[g,c,d,w4 l];rfl
    rw[n];refine Uk A B f ae k (Gt a) i (j _ rfl)<|fun m q=>zk (AJ ..)<|zj (fun e=>zc rfl (m e))<|fun e=>?_;have p:=q e;exact B0 A B f true (fun _=>⟨k,fun h=>by rw[e]at h;cases h⟩)<|j true p.symm
 ·have i:Gt a=false:=by rw[g,c];simp
  exact zk (Ca ..)<|zj (fun e=>CN A B f<|j false i.symm)<|fun e=>CN A B f<|j false i.symm
end T122
theorem Eh(c:UInt8)(r:Z):AA (c::r)=if c=47 then[]else c::AA r:=by
 unfold AA;rw[qn];by_cases h:c=47
 ·subst h;rfl
 ·rw[wc (by simpa using h),wc h];cases r.findIdx? (fun x=>x==47)<;>rfl
namespace T128
theorem Aq{Q:PV->Ob->Prop}(s:Z)(l:s.length<=9223372036854775807):∀(r:Z) (i:Nat),s.drop i=r->i<=s.length->(∀ob,Q (.dat i64 (((i+(AA r).length:Nat)):Int)) ob)->Ends NQ (L1 s i) Q
 |[],i,h,e,a=>by
  have m:i=s.length:=drop_nil h e;subst m;exact zk (Al ..) (zp (by simp)<|ze<|a _)
 |c::r,i,h,e,a=>by
  obtain⟨f,k,g⟩:=drop_cons (d:=0) h;have j:=wn (i:=i) ae;rw[Eh]at a;refine zk (Al ..) (zc (by simp;omega) ?_);rw[zi,k,j];refine zc (by simp;omega)<|zj (fun d=>?_)<|fun d=>?_
  ·have b:c=47:=by
    have:(c.toNat:Int)=47:=by simpa using d
    exact yj.1 (by show _=47;omega)
   rw[wd b]at a;exact ze<|a _
  ·have b:c≠47:=by rintro rfl;exact wh d af
   rw[wc b]at a;refine Aq s l r (i+1) g f<|fun ob=>?_;have:=a ob;rw[zu]at this;rw[show i+1+(AA r).length=i+((AA r).length+1)by omega];exact this
theorem ok:Af A9 128 PE:=by
 refine BN E4<|fun(s:Z) a=>?_;have a:s.length<=1000000:=w6 a;refine yc (Ak s) (Aq s ae s 0 rfl (yq _) (fun ob=>yn rfl rfl ?_));rw[Nat.zero_add];rfl
theorem pP:Af A9 128 YQ:=by
 refine BN E4<|fun(s:Z) a=>?_;have a:s.length<=9223372036854775807:=w6 a;refine yc (Ak s)<|Aq s a s 0 rfl (yq _) (fun ob=>yn rfl rfl ?_);rw[Nat.zero_add];rfl
end T128
namespace T129
theorem Up{s:Z}{r:Z}{c:UInt8}{i:Nat}(h:s.drop i=c::r):Ap (s.drop i)=(BW c&&Ap (s.drop<|i+1)):=by
 obtain⟨_,_,a⟩:=drop_cons (d:=0) h;rw[a,h];rfl
theorem Aq(s:Z)(n:s.length<=9223372036854775807):∀(r:Z) (i:Nat),s.drop i=r->i<=s.length->(∀ob,Q (.bl<|Ap<|s.drop i) ob)->Ends NQ (L1 s s i) Q
 |[],i,h,f,a=>by
  have m:i=s.length:=drop_nil h f;rw[h]at a;subst m;exact zk (Al ..) (zp (by simp)<|ze<|a _)
 |c::r,i,h,f,a=>by
  obtain⟨g,l,j⟩:=drop_cons (d:=0) h;have k:=wn (i:=i) ae;rw[Up h]at a;refine zk (Al ..) (zc (by simp;omega) ?_);rw[zi,l,k];refine zc (by simp;omega) (zj (fun d=>?_)<|fun d=>zc (by simp;omega)<|zj (fun e=>?_)<|fun e=>?_)
  ·have d:=w6 d;have b:BW c=false:=by unfold BW;rw[w8 ae];rfl
   rw[b]at a;exact ze<|a _
  ·have e:=w6 e;have b:BW c=false:=by unfold BW;rw[w8 (p:=c.toNat<=57) ae,Bool.and_false]
   rw[b]at a;exact ze<|a _
  ·have d:=w7 d;have e:=w7 e;have b:BW c=true:=by unfold BW;exact ad ae ae
   rw[b,yt]at a;exact Aq s n r (i+1) j g a
theorem A0(s:Z)(n:s.length<=9223372036854775807):∀(r:Z) (i:Nat),s.drop i=r->i<=s.length->(∀ob,Q (.bl<|Ap<|s.drop i) ob)->Ends NQ (L2 s s i) Q
 |[],i,h,f,a=>by
  have m:i=s.length:=drop_nil h f;rw[h]at a;subst m;exact zk (AJ ..) (zp (by simp)<|ze<|a _)
 |c::r,i,h,f,a=>by
  obtain⟨g,l,j⟩:=drop_cons (d:=0) h;have k:=wn (i:=i) ae;rw[Up h]at a;refine zk (AJ ..) (zc (by simp;omega) ?_);rw[zi,l,k];refine zc (by simp;omega) (zj (fun d=>?_)<|fun d=>zc (by simp;omega)<|zj (fun e=>?_)<|fun e=>?_)
  ·have d:=w6 d;have b:BW c=false:=by unfold BW;rw[w8 ae];rfl
   rw[b]at a;exact ze<|a _
  ·have e:=w6 e;have b:BW c=false:=by unfold BW;rw[w8 (p:=c.toNat<=57) ae,Bool.and_false]
   rw[b]at a;exact ze<|a _
  ·have d:=w7 d;have e:=w7 e;have b:BW c=true:=by unfold BW;exact ad ae ae
   rw[b,yt]at a;exact A0 s n r (i+1) j g a
theorem pP:Af A9 129 Sg:=by
 refine BN E4<|fun(s:Z) g=>?_;have g:s.length<=9223372036854775807:=w6 g;have i:∀b ob,b=AV s->Ad Sg s (.bl b) ob:=fun b ob j=>yn rfl rfl j
 refine yc (Ak s) ?_;conv=>zeta
 cases s with
 |nil=>exact zc rfl (ze<|i _ _ rfl)
 |cons c r=>
  have f:(c::r).getD 0 0=c:=rfl;rw[f];refine zp (by simp;omega) (zj (fun d=>zc (by simp)<|zj (fun e=>ze<|i _ _ ?_)<|fun e=>?_)<|fun d=>?_)
  ·have d:=w6 d;have a:c=48:=by
    have:(c.toNat:Int)=48:=by simpa using e
    exact yj.1 (by show _=48;omega)
   have hr:r≠[]:=by rintro rfl;simp at d
   unfold AV;rw[f,w8 (p:=c≠48)<|fun h=>h a,w8 (p:=c::r=[48])<|by intro h;simp at h;exact hr h.2];simp
  ·have a:c≠48:=by rintro rfl;exact wh e af
   refine Aq (c::r) g (c::r) 0 rfl (yq _) (fun ob=>i _ _ ?_);unfold AV;rw[f,w4 a];simp
  ·have d:=w7 d;have hr:r=[]:=by
    have:r.length=0:=by simp at d;omega
    exact yd.1 this
   subst hr;refine A0 [c] g [c] 0 rfl (yq _) (fun ob=>i _ _ ?_);unfold AV;rw[f];by_cases a:c=48
   ·subst a;rfl
   ·rw[w4 a];simp
end T129
theorem rO:Dg zB:=Aa T155.ok AI
namespace T97
theorem OY{v:Int}(a: -9223372036854775808<=v/\v<9223372036854775808):∃q d:Nat,Ag v=d+1000000000*q/\d<1000000000/\zg .i64 (Int.tdiv v 1000000000)=(if v<0 then -(q:Int)else q)/\Int.tmod v 1000000000=(if v<0 then -(d:Int)else d):=by
 refine⟨v.natAbs/1000000000,v.natAbs % 1000000000,by rw[Ai];omega,by omega,?_,?_⟩
 ·by_cases h:v<0
  ·have:=Int.neg_tdiv (-v) 1000000000;rw[Int.neg_neg]at this;rw[this,qo ae,wd h,wr _ ae ae];omega
  ·rw[qo ae,wc h,wr _ ae ae];omega
 ·by_cases h:v<0
  ·have:=Int.neg_tmod (-v) 1000000000;rw[Int.neg_neg]at this;rw[this,qp ae,wd h];omega
  ·rw[qp ae,wc h];omega
theorem A0(neg:Bool)(D:Int)(k:∀(w:List Int) ob,Aw qi w->kc qi w=D->Q (.agg [.dat .bool<|C1 neg w,.dat li<|Ax w]) ob):∀(f:Nat) (v:Int) (o1:List Int),Ag v<f->(-9223372036854775808<=v/\v<9223372036854775808)->o1.length<=100->(Ag v≠0->Ag v*1000000000^o1.length<=9223372036854775808)->Aw qi o1->kc qi o1+(qi:Int)^o1.length*Ag v=D->Ends zB (L2 v o1.length neg o1) Q
 |0,v,o1,n,m,o,j,h,b=>by
  have:=AK v;omega
 |f+1,v,o1,n,m,o,j,h,b=>by
  obtain⟨q,d,s1,s2,s3,s4⟩:=OY m;by_cases h0:v=0
  ·subst h0;have s:Ag 0=0:=rfl;rw[s,Int.mul_zero,Int.add_zero]at b;refine zk (AJ ..)<|zp rfl ?_;rw[yh];exact zc (by simp;omega)<|ze<|k _ _ h b
  ·have i:Ag v≠0:=by rw[Ai];omega
   have r:=j i;have l:o1.length<=10:=by
    rcases Nat.lt_or_ge 10 o1.length with g|g
    ·exfalso;have p:(1000000000:Int)^11<=1000000000^o1.length:=AM af g;have u:(9223372036854775808:Int)<1000000000^11:=af
     have t:=z8 (show 1<=Ag v by have:=AK v;omega) (show(0:Int)<=1000000000^o1.length by omega);omega
    ·exact g
   have eq:Ag (if v<0 then -(q:Int)else q)=q:=by rw[Ai];split<;>omega
   have go:Ends zB (L2 (if v<0 then -(q:Int)else q) (Nat.add o1.length 1) neg<|o1++[(d:Int)]) Q:=by
    have:=A0 neg D k f (if v<0 then -(q:Int)else q) (o1++[(d:Int)]) (by rw[eq];omega) (by have:=Ai v;split<;>omega) (by simp;omega) (fun _=>by
     rw[eq,zl];show(q:Int)*1000000000^(o1.length+1)<=_;rw[y7, <-Int.mul_assoc,Int.mul_right_comm];have p:=z8 (show(q:Int)*1000000000<=Ag v by omega) (show(0:Int)<=1000000000^o1.length from zx<|AR af _);omega) (FE h ae) (by
     rw[eq,Cp,zl];show kc qi o1+(qi:Int)^o1.length*(d:Int)+(qi:Int)^(o1.length+1)*(q:Int)=D;rw[Kc,Int.add_assoc, <-Int.mul_add, <-b,s1])
    rw[zl]at this;exact this
   refine zk (AJ ..) (zc (by simpa using h0)<|zc rfl ?_);rw[s3,s4];refine zj (fun c=>zc (by simp;omega)<|zc rfl ?_) (fun c=>zc (by simp;omega)<|zc rfl ?_)
   ·have c:=w6 c;have a:v<0:=by split at c<;>omega
    rw[wd a]at c;rw[wd a,wd a];rw[wd a]at go;have e:zg .i64 (0 - -(d:Int))=(d:Int):=by rw[wr _ ae ae];omega
    rw[e];exact go
   ·have c:=w7 c;have e:(if v<0 then -(d:Int)else(d:Int))=(d:Int):=by split at c<;>split<;>omega
    rw[e];exact go
theorem ok:Af A9 97 H3:=by
 refine BN rO<|fun(v:Int) g=>?_;have g:=Et (n:=v) g;have fin:∀(w:List Int) ob,Aw qi w->kc qi w=Ag v->Ad H3 v (.agg [.dat .bool<|C1 (decide (v<0)) w,.dat li<|Ax w]) ob:=by
  intro w ob j i;refine yn rfl rfl ?_;have:=MX (neg:=decide (v<0)) j i;have e:(if decide (v<0)=true then -Ag v else Ag v)=v:=by
   rw[Ai];by_cases h:v<0
   ·rw[wd<|w4 h];omega
   ·rw[wc<|by simpa using h];omega
  rw[e]at this;exact this
 obtain⟨q,d,s1,s2,s3,s4⟩:=OY g;have a:=AK v;refine yc (Ak v) ?_;conv=>zeta
 by_cases h0:v=0
 ·subst h0;exact zk (Al ..) (zp rfl (zc rfl (ze<|fin [] _ (fun x b=>by cases b) rfl)))
 ·have eq:Ag (if v<0 then -(q:Int)else q)=q:=by rw[Ai];split<;>omega
  have go:Ends zB (L2 (if v<0 then -(q:Int)else q) 1 (decide (v<0)) [(d:Int)]) (Ad H3 v):=by
   refine A0 (decide (v<0)) (Ag v) fin (q+1) _ [(d:Int)] (by rw[eq];omega) (by have:=Ai v;split<;>omega) (by simp) (fun _=>?_) (fun x b=>by rw[yx]at b;subst b;show 0<=_/\_<(1000000000:Int);omega) ?_
   ·rw[eq];show(q:Int)*1000000000^1<=_;have:=Ai v;omega
   ·rw[eq,EF,s1];show(d:Int)+(1000000000:Int)^1*(q:Int)=_;omega
  refine zk (Al ..) (zc (by simpa using h0)<|zc rfl ?_);rw[s3,s4];refine zj (fun c=>zc rfl (zc rfl ?_))<|fun c=>zc rfl (zc rfl ?_)
  ·have c:=w6 c;have a:v<0:=by split at c<;>omega
   rw[wd a]at c;rw[wd a,wd a];rw[wd a]at go;have f:zg .i64 (0 - -(d:Int))=(d:Int):=by rw[wr _ ae ae];omega
   rw[f];exact go
  ·have c:=w7 c;have f:(if v<0 then -(d:Int)else(d:Int))=(d:Int):=by split at c<;>split<;>omega
   rw[f];exact go
end T97
theorem vJ:Dg XK3:=Aa T128.ok<|Aa T149.ok<|Aa T97.ok AI
theorem BQ:∀(s:Z),AA s=s.take (AA s).length/\(Bq s=true->(AA s).length<s.length/\zq s=s.drop ((AA s).length+1))/\(Bq s=false->AA s=s/\zq s=[])
 |[]=>⟨rfl,(fun h=>(by cases h)),fun _=>⟨rfl,rfl⟩⟩
 |c::r=>by
  obtain⟨d,i,e⟩:=BQ r;have f:zq (c::r)=if c=47 then r else zq r:=by
   unfold zq;rw[qn];by_cases h:c=47
   ·subst h;rfl
   ·rw[wc (by simpa using h),wc h];cases r.findIdx? (fun x=>x==47)<;>rfl
  have j:Bq (c::r)=(decide (c=47)||Bq r):=by
   unfold Bq;rw[List.any_cons];congr 1
  rw[Eh,f,j];by_cases h:c=47
  ·rw[wd h,wd h,w4 h];exact⟨rfl,(fun _=>⟨by simp,rfl⟩),fun h=>by cases h⟩
  ·rw[wc h,wc h,w8 h];refine⟨?_,fun g=>?_,fun g=>?_⟩
   ·rw[zu,List.take_succ_cons, <-d]
   ·obtain⟨b,a⟩:=i g;refine⟨by simp;omega,?_⟩;rw[zu,List.drop_succ_cons];exact a
   ·obtain⟨b,a⟩:=e g;exact⟨by rw[b],a⟩
theorem T92.ok:Af A9 92 Sy:=by
 refine BN vJ<|fun(a:Z) d=>?_;have d:(Es (AA a)&&Es (zq a)&&decide (a.length<=5999))=true:=d;rw[zd,zd,w5]at d;obtain⟨⟨f,l⟩,n⟩:=d;obtain⟨c1,c2,c3⟩:=BQ a;have es:A3 a=((AA a).length:Int):=rfl;have m:(AA a).length<=a.length:=(T122.DB a).1;refine yc (T92.Ak a) (zc (w4 ae)<|zj (fun c=>?_)<|fun c=>?_)
 ·have c:(AA a).length=a.length:=by
   have:((AA a).length:Int)=(a.length:Int):=by simpa [es]using c
   omega
  have b:Bq a=false:=by
   cases h:Bq a with
   |false=>rfl
   |true=>have:=(c2 h).1;omega
  obtain⟨e,i⟩:=c3 b;rw[e]at f;refine zc f<|zc rfl (ze<|yn rfl rfl ?_);show((HB a,Hx a),(false,Sp.rW 1))=((BZ a,BO a),(BD a,Bt a));unfold BZ BO BD Bt Bc AN HB Hx;rw[e,b];rfl
 ·have g:(AA a).length<a.length:=by
   have:((AA a).length:Int)≠(a.length:Int):=by simpa [es]using c
   omega
  have b:Bq a=true:=by
   cases h:Bq a with
   |true=>rfl
   |false=>have:=(c3 h).1;rw[this]at g;omega
  obtain⟨e,i⟩:=c2 b;have j:zg .i64 (((AA a).length:Int)+1)=(((AA a).length+1:Nat):Int):=by rw[wr _ ae ae];omega
  have k:(a.drop<|(AA a).length+1).take (jm a.length<|(AA a).length+1)=a.drop ((AA a).length+1):=ye (by rw[zt];exact yg _);rw[es,j,zi,zi,k, <-c1, <-i];refine zc (by simp;omega) (zc (by simp;omega)<|zc f<|zc l<|ze<|yn rfl rfl ?_);show((HB<|AA a,Hx<|AA a),(HB<|zq a,Hx<|zq a))=((BZ a,BO a),(BD a,Bt a));unfold BZ BO BD Bt Bc AN HB Hx;rw[b];rfl
theorem Y1:Dg Uj:=Aa T128.pP<|Aa T129.pP<|Aa T92.ok<|Aa T130.ok AI
namespace T62
theorem vL{g:Int}(h0:0<=g):B5 g=[1]↔g=1:=by
 constructor
 ·intro h;have:=C9 (b:=qi) af h0;have h:Sp.dg qi g=[1]:=h;rw[h]at this;rw[<-this];rfl
 ·rintro rfl;rfl
theorem B0(s:Z)(r:Ap (AA s)=true)(l:Bq s=true->Ap (zq s)=true)(I:(AA s).length<=600)(B:(zq s).length<=600)(A:s.length<=5999)
  (a:∀ob,Q (.dat i64<|if Bq s=true/\jg (AE 0<|AA s) (AE 0<|zq s)≠1 then 1 else 0) ob):Ends Uj (L4 s<|A3 s) Q:=by
 obtain⟨J,y,D⟩:=BQ s;have es:A3 s=((AA s).length:Int):=rfl;refine zk (CD ..) ?_;conv=>zeta
 rw[es];refine zj (fun c=>?_)<|fun c=>?_
 ·have c:=w6 c;have i:Bq s=true:=by
   cases h:Bq s with
   |true=>rfl
   |false=>have:=(D h).1;rw[this]at c;omega
  have l:=l i;obtain⟨w,F⟩:=L0 r ae;obtain⟨r3,r4⟩:=L0 l ae;have n:=Bi r;have o:=Bi l;have p:∀k:Nat,(10:Int)^k<=(qi:Int)^k:=by
   intro k;induction k with
   |zero=>exact jh _
   |succ k z=>
    rw[y7,y7];have j:=z8 z (show(0:Int)<=10 by decide);have G:=zn (show(10:Int)<=(qi:Int)by decide) (zx<|AR (b:=qi) af k);exact qj j G
  have q:AE 0 (AA s)<(qi:Int)^600:=zo n.2 (qj (p _)<|AM af I);have t:AE 0 (zq s)<(qi:Int)^600:=zo o.2 (qj (p _) (AM af B));have C:BO s=B5 (AE 0<|AA s):=by
   unfold BO Bc Sp.rW;rw[F,show Ag (AE 0<|AA s)=AE 0 (AA s)by rw[Ai];omega]
  have E:Bt s=B5 (AE 0<|zq s):=by
   unfold Bt AN Sp.rW;rw[wd i,r4,show Ag (AE 0<|zq s)=AE 0 (zq s)by rw[Ai];omega]
  obtain⟨n1,_,v1,l1⟩:=Hk (k:=600) n.1 q af;obtain⟨n2,_,v2,l2⟩:=Hk (k:=600) o.1 t af;have rat:EB s=true:=by
   unfold EB;rw[w,r3];exact w4 A
  rw[C,E];refine zc rat (zk (Eu ..)<|zc (Ab (Ab (Ab n1 n2)<|w4 ae)<|w4 ae) ?_);have u:Cy (B5<|AE 0<|AA s) (B5<|AE 0<|zq s)=B5 (jg (AE 0<|AA s)<|AE 0<|zq s):=by
   unfold Cy;rw[v1,v2]
  rw[u];obtain⟨H,_⟩:=yH n.1 o.1 q t;generalize jg (AE 0<|AA s) (AE 0<|zq s)=g at*;have j:=vL H;by_cases h:g=1
  ·rw[wc<|fun x=>x.2 h]at a;rw[j.2 h];exact zk (EP ..)<|zp rfl (zc rfl (zp rfl (ze<|a _)))
  ·rw[wd ⟨i,h⟩]at a;have f:B5 g≠[1]:=fun x=>h<|j.1 x
   refine zk (EP ..)<|zj (fun d=>ze<|a _)<|fun d=>?_;have d:(B5 g).length=1:=by
    have:((B5 g).length:Int)=1:=by simpa using d
    omega
   obtain⟨x,v⟩:=List.length_eq_one_iff.1 d;rw[v]at f ⊢;have m:x≠1:=fun e=>f (by rw[e])
   exact zc rfl (zc (by simpa using m)<|ze<|a _)
 ·have c:=w7 c;have i:Bq s=false:=by
   cases h:Bq s with
   |false=>rfl
   |true=>have:=(y h).1;omega
  rw[wc<|fun x=>by rw[i]at x;cases x.1]at a;exact ze<|a _
theorem A0(s:Z)(v:Ap (AA s)=true)(x:s.length<=9223372036854775807)(a:∀ob,Q (.dat i64<|T122.E (AA s) (zq s) (Bq s)<|!Bq s||(AV (zq s)&&decide (zq s≠[48])&&decide (zq s≠[49]))) ob):Ends Uj (L2 s<|A3 s) Q:=by
 obtain⟨w,m,j⟩:=BQ s;have es:A3 s=((AA s).length:Int):=rfl;have r:=T122.DB s;have big:(Bq s=true->Ap (zq s)=true)->(∀ob,Q (.dat i64<|T122.E (AA s) (zq s) (Bq s) true) ob)->Ends Uj (L3 s<|A3 s) Q:=by
  intro n a;unfold T122.E at a;rw[wc af]at a;have b:s.length=(AA s).length+(if Bq s=true then 1+(zq s).length else 0):=by
   cases h:Bq s with
   |true=>obtain⟨k,i⟩:=m h;rw[wd rfl,i,zt];omega
   |false=>obtain⟨k,i⟩:=j h;rw[wc af,k];rfl
  have l:Bq s=false->(zq s).length=0:=fun h=>by rw[(j h).2];rfl
  refine zk (Ca ..) ?_;conv=>zeta
  rw[es,wr ((s.length:Int)-((AA s).length:Int)) ae ae,wr _ ae ae];refine zj (fun c=>?_)<|fun c=>zj (fun d=>?_)<|fun d=>?_
  ·have c:=w6 c;rw[wd<|.inl ae]at a;exact ze<|a _
  ·have c:=w7 c;have d:=w6 d;have:600<(zq s).length:=by split at b<;>omega
   rw[wd<|.inr this]at a;exact ze<|a _
  ·have c:=w7 c;have d:=w7 d;have q:(zq s).length<=600:=by
    cases h:Bq s with
    |true=>rw[h,wd rfl]at b;omega
    |false=>have:=l h;omega
   rw[wc ae]at a;exact B0 s v n ae q (by split at b<;>omega) a
 refine zk (AJ ..) ?_;conv=>zeta
 cases g:Bq s with
 |false=>
  rw[g]at a;have o:¬(A3 s<(s.length:Int)):=by rw[es,(j g).1];omega
  exact zp (w8 o) (big (fun h=>by rw[g]at h;cases h)<|by rw[g];exact a)
 |true=>
  rw[g]at a;obtain⟨k,i⟩:=m g;have u:zg .i64 (((AA s).length:Int)+1)=(((AA s).length+1:Nat):Int):=by rw[wr _ ae ae];omega
  have t:(s.drop<|(AA s).length+1).take (jm s.length<|(AA s).length+1)=s.drop ((AA s).length+1):=ye (by rw[zt];exact yg _);rw[es,u,zi,t, <-i];rw[es]at big;have bad:(!true||(AV (zq s)&&decide (zq s≠[48])&&decide (zq s≠[49])))=false->∀ob,Q (.dat i64 1) ob:=by
   intro h ob;have:=a ob;rw[h]at this;exact this
  refine zc (by simp;omega) (zc (by simp;omega)<|zc (w4 ae)<|zj (fun d=>ze<|bad ?_ _)<|fun d=>zc (by simp;omega)<|zj (fun e=>ze<|bad ?_ _)<|fun e=>zc (by simp;omega)<|zj (fun f=>ze<|bad ?_ _)<|fun f=>?_)
  ·have d:AV (zq s)=false:=by simpa using d
   rw[d];rfl
  ·have e:zq s=[48]:=by simpa using e
   rw[w8 (p:=zq s≠[48])<|fun h=>h e];simp
  ·have f:zq s=[49]:=by simpa using f
   rw[w8 (p:=zq s≠[49])<|fun h=>h f];simp
  ·have d:AV (zq s)=true:=by simpa using d
   have e:zq s≠[48]:=by simpa using e
   have f:zq s≠[49]:=by simpa using f
   rw[d,w4 e,w4 f]at a;exact big (fun _=>(HE d).2) (by rw[g];exact a)
theorem Aq(a s:Z)(c:s=A2 a)(q:a.length<=9223372036854775807)(b:∀ob,Q (.dat i64<|Am a) ob):Ends Uj (L1 a s) Q:=by
 obtain⟨l,o,n⟩:=BQ s;have es:A3 s=((AA s).length:Int):=rfl;have i:s.length<=a.length:=by rw[c];exact T122.Zc a
 have j:=T122.DB s;have k:Am a=T122.E (AA s) (zq s) (Bq s) (AV (AA s)&&(!j0 a||decide (AA s≠[48]))&&(!Bq s||(AV (zq s)&&decide (zq s≠[48])&&decide (zq s≠[49])))):=by rw[c];rfl
 rw[k]at b;have tk:s.take (AA s).length=AA s:=l.symm;refine zk (Al ..) ?_;conv=>zeta
 rw[show A3 s=((AA s).length:Int)from rfl,zi,tk];refine zc (w4 ae) (zc (by simp;omega) (zc (w4 ae)<|zj (fun d=>?_)<|fun d=>?_))
 ·have d:AV (AA s)=false:=by simpa using d
  rw[d]at b;exact ze<|b _
 ·have d:AV (AA s)=true:=by simpa using d
  have g:=(HE d).2;have m:a.length≠0:=by
   intro h;have h:=yd.1 h;have:s=[]:=by rw[c,h];rfl
   rw[this]at d;exact wh d af
  rw[d,yt]at b;refine zc (w4 ae) (zj (fun e=>zc (by simp;omega)<|zj (fun f=>?_)<|fun f=>?_)<|fun e=>?_)
  ·have hp:j0 a=true:=by
    unfold j0;refine w4<|yj.1 ?_;have:((a.getD 0 0).toNat:Int)=45:=by simpa using e
    show _=45;omega
   have f:AA s=[48]:=by simpa using f
   rw[hp,w8 (p:=AA s≠[48])<|fun h=>h f]at b;exact ze<|b _
  ·have f:AA s≠[48]:=by simpa using f
   rw[w4 f,Bool.or_true,yt]at b;exact A0 s g ae b
  ·have hp:j0 a=false:=by
    unfold j0;refine w8<|fun h=>?_;rw[h]at e;exact wh e af
   rw[hp,Bool.not_false,Bool.true_or,yt]at b;exact A0 s g ae b
theorem pP:Af A9 62 TU:=by
 refine BN Y1<|fun(a:Z) b=>?_;have b:a.length<=9223372036854775807:=w6 b;have g:∀ob,Ad TU a (.dat i64<|Am a) ob:=fun ob=>yn rfl rfl rfl
 refine yc (Ak a) ?_;conv=>zeta
 cases a with
 |nil=>exact zp rfl (Aq [] [] rfl b g)
 |cons c r=>
  have f:(c::r).getD 0 0=c:=rfl;rw[f];refine zc (by simp) (zc (by simp)<|zj (fun d=>zc (by simp) ?_)<|fun d=>?_)
  ·have h:c=45:=by
    have:(c.toNat:Int)=45:=by simpa using d
    exact yj.1 (by show _=45;omega)
   have e:(List.drop 1 (c::r)).take (jm (c::r).length 1)=r:=by show r.take ((r.length+1)-1)=r;rw[qm];exact yh
   rw[e];exact Aq (c::r) r (by unfold A2;rw[f,wd h];rfl) b g
  ·have h:c≠45:=by rintro rfl;exact wh d af
   exact Aq (c::r) (c::r) (by unfold A2;rw[f,wc h]) b g
theorem ok:Af A9 62 EH:=by
 refine BN Y1<|fun(a:Z) b=>?_;have b:a.length<=1000000:=w6 b;have g:∀ob,Ad EH a (.dat i64<|Am a) ob:=fun ob=>yn rfl rfl rfl
 refine yc (Ak a) ?_;conv=>zeta
 cases a with
 |nil=>exact zp rfl (Aq [] [] rfl (q9 b af) g)
 |cons c r=>
  have f:(c::r).getD 0 0=c:=rfl;rw[f];refine zc (by simp) (zc (by simp) (zj (fun d=>zc (by simp) ?_)<|fun d=>?_))
  ·have h:c=45:=by
    have:(c.toNat:Int)=45:=by simpa using d
    exact yj.1 (by show _=45;omega)
   have e:(List.drop 1 (c::r)).take (jm (c::r).length 1)=r:=by show r.take ((r.length+1)-1)=r;rw[qm];exact yh
   rw[e];exact Aq (c::r) r (by unfold A2;rw[f,wd h];rfl) (q9 b af) g
  ·have h:c≠45:=by rintro rfl;exact wh d af
   exact Aq (c::r) (c::r) (by unfold A2;rw[f,wc h]) (q9 b af) g
end T62
theorem GD:Dg pO:=
 Aa T161.ok (Aa T143.ok<|Aa T190.ok<|Aa T170.ok<|Aa T106n.ok<|Aa T139.ok<|Aa T127.ok<|Aa T105.ok<|Aa T124.ok<|Aa T126.ok AI)
theorem E7{a:AG}(h:NJ a=true):Bb a=true/\Ag (zf a)<(Ao:Int)^4000:=by
 unfold NJ at h;rw[zd,w5]at h;refine⟨?_,IT h.1 h.2 af⟩;unfold Bb;exact Ab h.1 (w4 ae)
theorem K9{x y:Int}(a:Ag x<(Ao:Int)^4000)(c:Ag y<(Ao:Int)^4000):Ag (x*y)<(Ao:Int)^8000:=by
 rw[Jj];have h0:=AK x;have hp:=AR (b:=Ao) af 4000;have a1:=zn (zx c) h0;have a2:=Int.mul_lt_mul_of_pos_right a hp;have a3:(Ao:Int)^4000*(Ao:Int)^4000=(Ao:Int)^8000:=(Int.pow_add _ 4000 4000).symm;rw[a3]at a2;exact zy a1 a2
theorem Aeg{x:Int}(h:x<(Ao:Int)^8000):x<(Ao:Int)^9000:=zo h (AM af af)
theorem Su{x y:Int}(a:Ag x<(Ao:Int)^4000)(b:Ag y<(Ao:Int)^4000):Bb (C8<|x*y)=true:=D1<|Aeg<|K9 a b
theorem Ado{a b:AG}(f:Bb a=true)(e:Bb b=true)(h:Ag (zf a+zf b)<(Ao:Int)^9000):Bb (EO a b)=true:=by
 have d:=TZ f e;unfold EO at d ⊢;split
 ·rename_i c;rw[wd c]at d;unfold Bb;exact Ab d rfl
 ·exact D1 h
theorem tA(n:Nat):(2:Int)*(Ao:Int)^n<=(Ao:Int)^(n+1):=by
 rw[y7,j5];exact zn af (zx (AR (b:=Ao) af n))
theorem eI{x y:Int}(b:Ag x<(Ao:Int)^8000)(d:Ag y<(Ao:Int)^8000):Ag (x+y)<(Ao:Int)^9000:=by
 have a:=tA 8000;have c:(Ao:Int)^8001<=(Ao:Int)^9000:=AM af af;have a:(2:Int)*(Ao:Int)^8000<=(Ao:Int)^8001:=a;generalize (Ao:Int)^8000=p at*;generalize (Ao:Int)^8001=q at*;generalize (Ao:Int)^9000=r at*;rw[Ai]at*;omega
theorem V8(a:AG):decide (Ic a<0)=decide (zf a<0):=by
 unfold Ic Sp.Mo;rw[Bool.eq_iff_iff,w5,w5];split
 ·omega
 ·split<;>omega
theorem Y2{n d:AG}(h:Mh n d=true):Bb n=true/\Bb d=true/\zf d≠0:=by
 unfold Mh at h;rw[zd,zd,w5]at h;exact⟨h.1.1,h.1.2,h.2⟩
theorem T55.ok:Af A9 55 Nj:=by
 refine BN GD<|fun(a:Z) b=>?_;have b:(Es (AA a)&&Es (zq a)&&decide (a.length<=5999))=true:=b;rw[zd,zd,w5]at b;obtain⟨⟨d,e⟩,f⟩:=b;refine yc (T55.Ak a) (zc (Ab (w4 rfl)<|w4 ae)<|zj (fun c=>zc d<|zc rfl (ze<|yn rfl rfl ?_))<|fun c=>zc d<|zc e<|ze<|yn rfl rfl ?_)
 ·have c:Bq a=false:=by simpa using c
  show((DA<|AA a,Dv<|AA a),((1:Int),CT 1))=((VQ a,Vx a),(TT a,Sv a));unfold TT Sv AN;rw[c,Og];rfl
 ·have c:Bq a=true:=by simpa using c
  show((DA<|AA a,Dv<|AA a),(DA<|zq a,Dv<|zq a))=((VQ a,Vx a),(TT a,Sv a));unfold TT Sv AN;rw[c];rfl
theorem T189.ok:Af A9 189 cIQ:=by
 refine BN GD<|fun(i:(Int×List Int)×(Int×List Int)) hi=>?_;obtain⟨a,b⟩:=i;obtain⟨ha,hb,h0⟩:=Y2 (n:=a) (d:=b) hi;refine yc (T189.Ak a b)<|zc (BU hb).1 ?_;rw[V8];refine zj (fun c=>zc (BU ha).1<|zc (BU hb).1<|zk (T189.Al ..)<|zc ?_<|ze<|yn rfl rfl ?_)<|fun c=>zk (T189.Al ..)<|zc ?_<|ze<|yn rfl rfl ?_
 ·have c:zf b<0:=w6 c;have:=HH b;exact Ab (Ab (UA ha)<|UA hb) (w4<|by show 0<zf (Ck b);omega)
 ·have c:zf b<0:=w6 c;show El (Ck a) (Ck b)=Sp.iQ a b;unfold Sp.iQ;rw[wd c]
 ·have c:¬zf b<0:=w7 c;exact Ab (Ab ha hb) (w4 (by show 0<zf b;omega))
 ·have c:¬zf b<0:=w7 c;show El a b=Sp.iQ a b;unfold Sp.iQ;rw[wc c]
theorem tW:Dg XA1:=Aa T161.ok<|Aa T143.ok<|Aa T170.ok<|Aa T189.ok AI
theorem zD{n d:AG}(b:Bb d=true)(h0:zf d≠0):Bb (Sp.gR n d)=true/\zf (Sp.gR n d)=(qf (zf n) (zf d):Int)/\0<zf (Sp.gR n d):=by
 have e:zf (Sp.gR n d)=(qf (zf n) (zf d):Int):=by
  show zf (C0 _,CZ _)=_;rw[LP,F8]
 have hp:0<qf (zf n) (zf d):=Int.gcd_pos_of_ne_zero_right _ h0;refine⟨Ga<|D1 ?_,e,by rw[e];omega⟩;rw[F8,Ai,zm];have a:=bounds b;rw[Ai]at a;have c:qf (zf n) (zf d)<=(zf d).natAbs:=Nat.gcd_le_right _ ae;omega
namespace T140
theorem Aq(g z2:Int)(n d:AG)(f:Bb n=true)(b:Bb d=true)(h0:zf d≠0)(a:∀ob,Q (.agg [.dat i64 (ND n d).1.1,.dat (.nlist u64) (ND n d).1.2,.dat i64 (ND n d).2.1,.dat (.nlist u64) (ND n d).2.2]) ob):
  Ends XA1 (L1 g z2 d.1 d.2 n.1 n.2) Q:=by
 obtain⟨j,_,l⟩:=zD (n:=n) b h0;have next:C4 d=false->Ends XA1 (.ite (Bb (n.1,n.2)&&Bb (d.1,d.2)) (L2 (Nx (n.1,n.2) (d.1,d.2)) (Nd (n.1,n.2) (d.1,d.2)) g z2 d.1 d.2 n.1 n.2) .fail) Q:=by
  intro i;unfold ND at a;rw[wc<|by rw[i];decide]at a;have k:∀x:AG,Bb x=true->Mh x (Sp.gR n d)=true:=fun x h=>by unfold Mh;exact Ab (Ab h j) (w4 ae)
  exact zc (Ab f b)<|zk (AJ ..)<|zc (k n f)<|zc (k d b)<|ze<|a _
 refine zk (Al ..)<|zj (fun c=>zj (fun e=>ze ?_)<|fun e=>next ?_)<|fun c=>next ?_
 ·have c:d.2=[]:=by simpa using c
  have e:d.1=1:=by simpa using e
  unfold ND at a;rw[wd<|by unfold C4;simp[c,e]]at a;exact a _
 ·unfold C4;rw[Bool.and_eq_false_iff];right;simpa using e
 ·unfold C4;rw[Bool.and_eq_false_iff];left;have:d.2≠[]:=by rintro k;rw[k]at c;simp at c
  simpa using this
theorem ok:Af A9 140 yX:=by
 refine BN tW<|fun(i:(Int×List Int)×(Int×List Int)) hi=>?_;obtain⟨n,d⟩:=i;obtain⟨hn,hd,h0⟩:=Y2 (n:=n) (d:=d) hi;have vn:=HH d;refine yc (Ak n d)<|zc (BU hd).1 ?_;rw[V8];refine zj (fun c=>zc (BU hn).1<|zc (BU hd).1<|Aq 0 0 (Ck n) (Ck d) (UA hn) (UA hd) ae<|fun ob=>yn rfl rfl ?_)<|fun c=>Aq 0 0 n d hn hd h0<|fun ob=>yn rfl rfl ?_
 ·have c:zf d<0:=w6 c;show ND (Ck n) (Ck d)=YO n d;unfold YO;rw[wd c]
 ·have c:¬zf d<0:=w7 c;show ND n d=YO n d;unfold YO;rw[wc c]
end T140
theorem T138.ok:Af A9 138 Ou:=by
 refine BN GD<|fun(a:(Int×List Int)×(Int×List Int)) _=>?_;refine yc (T138.Ak a)<|zj (fun c=>ze<|yn rfl rfl ?_)<|fun c=>ze<|yn rfl rfl ?_
 ·have c:a.2.2=[]:=by simpa using c
  show(a.2.1==(1:Int))=C4 a.2;unfold C4;rw[w4 c,yt];rfl
 ·have c:a.2.2≠[]:=by rintro k;rw[k]at c;simp at c
  show false=C4 a.2;unfold C4;rw[w8 c,Bool.false_and]
theorem T125.ok:Af A9 125 jL:=by
 refine BN GD<|fun(a:Int×List Int) _=>?_;exact yc (T125.Ak a)<|zc rfl (ze<|yn rfl rfl rfl)
theorem T137.ok:Af A9 137 fV:=by
 refine BN GD<|fun(a:(Int×List Int)×(Int×List Int)) h=>?_;exact yc (T137.Ak a)<|zc h<|ze<|yn rfl rfl rfl
theorem T56.ok:Af A9 56 Uo:=by
 refine BN GD<|fun(i:((Int×List Int)×(Int×List Int))×((Int×List Int)×(Int×List Int))) c=>?_;obtain⟨a,b⟩:=i;have c:((NJ a.1&&NJ a.2)&&(NJ b.1&&NJ b.2))=true:=c;rw[zd,zd,zd]at c;obtain⟨⟨a1,a2⟩,b1,b2⟩:=c;obtain⟨a1,la1⟩:=E7 a1;obtain⟨a2,la2⟩:=E7 a2;obtain⟨b1,lb1⟩:=E7 b1;obtain⟨b2,lb2⟩:=E7 b2;refine yc (T56.Ak a b)<|zc (Ab a1 b2)<|zc (Ab b1 a2)<|zc (Ab (Su la1 lb2)<|Su lb1 la2)<|ze<|yn rfl rfl ?_;show Cg (zf<|FB a.1 b.2) (zf<|FB b.1 a.2)=Cg _ _;rw[DK,DK]
theorem E3{a:Aj}(h:jt a=true):Bb a.1=true/\Bb a.2=true/\Ag (zf a.1)<(Ao:Int)^4000/\Ag (zf a.2)<(Ao:Int)^4000/\0<zf a.2:=by
 unfold jt Sp.De at h;rw[zd,zd,w5]at h;obtain⟨a1,b⟩:=E7 h.1.1;obtain⟨a2,b2⟩:=E7 h.1.2;exact⟨a1,a2,b,b2,h.2⟩
theorem Tc:Dg XA2:=Aa T138.ok<|Aa T125.ok<|Aa T139.ok<|Aa T127.ok<|Aa T140.ok AI
theorem Sn{n d:AG}(b:Bb n=true)(a:Bb d=true)(h0:zf d≠0):Mh n d=true:=by
 unfold Mh;exact Ab (Ab b a)<|w4 h0
theorem NG{a b:AG}(d:Ag (zf a)<(Ao:Int)^4000)(c:Ag (zf b)<(Ao:Int)^4000):Bb (FB a b)=true:=Su d c
theorem T102.ok:Af A9 102 pA:=by
 refine BN Tc<|fun(i:((Int×List Int)×(Int×List Int))×((Int×List Int)×(Int×List Int))) c=>?_;obtain⟨a,b⟩:=i;have c:(jt a&&jt b)=true:=c;rw[zd]at c;obtain⟨a1,a2,la1,la2,a0⟩:=E3 c.1;obtain⟨b1,b2,lb1,lb2,b0⟩:=E3 c.2;have d:zf (FB a.2 b.2)≠0:=by rw[DK];exact yf<|qx a0 b0
 exact yc (T102.Ak a b)<|zc (Ab a1 b1)<|zc (Ab a2 b2)<|zc (Sn (NG la1 lb1) (NG la2 lb2) d)<|ze<|yn rfl rfl rfl
namespace T75
theorem Aq(h z2:Int)(a b:Aj)(k:jt a=true)(e:jt b=true)(i:∀ob f,f=YO (EO (FB a.1 b.2)<|FB b.1 a.2) (FB a.2 b.2)->Q (.agg [.dat i64 f.1.1,.dat (.nlist u64) f.1.2,.dat i64 f.2.1,.dat (.nlist u64) f.2.2]) ob):
  Ends XA2 (L1 h z2 b.1.1 b.1.2 b.2.1 b.2.2 a.1.1 a.1.2 a.2.1 a.2.2) Q:=by
 obtain⟨a1,a2,d,c,a0⟩:=E3 k;obtain⟨b1,b2,lb1,lb2,b0⟩:=E3 e;have j:zf (FB a.2 b.2)≠0:=by rw[DK];exact yf<|qx a0 b0
 have g:Bb (EO (FB a.1 b.2)<|FB b.1 a.2)=true:=Ado (NG d lb2) (NG lb1 c) (by rw[DK,DK];exact eI (K9 d lb2)<|K9 lb1 c);exact zk (Al ..)<|zc (Ab a1 b2)<|zc (Ab b1 a2)<|zc (Ab (NG d lb2)<|NG lb1 c)<|zc (Ab a2 b2)<|zc (Sn g (NG c lb2) j)<|ze<|i _ _ rfl
theorem ok:Af A9 75 R4:=by
 refine BN Tc<|fun(i:((Int×List Int)×(Int×List Int))×((Int×List Int)×(Int×List Int))) e=>?_;obtain⟨a,b⟩:=i;have e:(jt a&&jt b)=true:=e;rw[zd]at e;obtain⟨a1,a2,la1,la2,a0⟩:=E3 e.1;obtain⟨b1,b2,lb1,lb2,b0⟩:=E3 e.2;have g:¬(C4 a.2=true/\C4 b.2=true)->Ends XA2 (L1 0 0 b.1.1 b.1.2 b.2.1 b.2.2 a.1.1 a.1.2 a.2.1 a.2.2) (Ad R4 (a,b)):=fun h=>
  Aq 0 0 a b e.1 e.2 (fun ob f j=>yn rfl rfl (by
   show f=Cf a b;unfold Cf;rw[wc h];exact j))
 refine yc (Ak a b) (zc rfl (zj (fun c=>zc rfl (zj (fun d=>zc (Ab a1 b1)<|zc rfl (ze<|yn rfl rfl ?_))<|fun d=>g (fun k=>by have:=k.2;rw[show C4 b.2=false from d]at this;cases this)))<|fun c=>g (fun k=>by have:=k.1;rw[show C4 a.2=false from c]at this;cases this)));show Sp.fWh (EO a.1 b.1)=Cf a b;unfold Cf;rw[wd ⟨c,d⟩]
end T75
theorem T141.ok:Af A9 141 zH:=by
 refine BN Tc<|fun(a:(Int×List Int)×(Int×List Int)) b=>?_;have b:(jt a&&decide (zf a.1≠0))=true:=b;rw[zd,w5]at b;obtain⟨a1,a2,c,d,a0⟩:=E3 b.1;exact yc (T141.Ak a)<|zc (Sn a2 a1 b.2)<|ze<|yn rfl rfl rfl
theorem SW{a:AG}(h:j6 a=true){k:Nat}(c:Ag (zf a)<(Ao:Int)^k):a.2.length<=k:=by
 rcases OG h with⟨b,_⟩|b
 ·rw[b];exact yq _
 ·rw[<-b];exact Kt (AK _) c
theorem GS{a:AG}(h:j6 a=true)(b:Ag (zf a)<(Ao:Int)^4000):NJ a=true:=by
 unfold NJ;exact Ab h<|w4<|SW h b
theorem Yl{a:AG}(h:j6 a=true)(b:Ag (zf a)<(Ao:Int)^9000):Bb a=true:=by
 unfold Bb;exact Ab h<|w4<|SW h b
structure EX(f:Aj)(q:Rat):Prop where
 n:j6 f.1=true
 d:j6 f.2=true
 vn:zf f.1=q.num
 vd:zf f.2=(q.den:Int)
def KS(k:Nat)(q:Rat):Prop:=Ag q.num<(Ao:Int)^k/\(q.den:Int)<(Ao:Int)^k
theorem EX.den_pos{f:Aj}{q:Rat}(h:EX f q):0<zf f.2:=by
 rw[h.vd];have:=q.den_pos;omega
theorem EX.CP{f:Aj}{q:Rat}(h:EX f q)(a:KS 4000 q):jt f=true:=by
 unfold jt Sp.De;have b:Ag (zf f.2)=(q.den:Int):=by rw[h.vd,Ai,zm]
 exact Ab (Ab (GS h.n<|by rw[h.vn];exact a.1)<|GS h.d<|by rw[b];exact a.2)<|w4 h.den_pos
theorem XV{x y:Int}:Ag (x/y)<=Ag x:=by
 rw[Ai,Ai];have a:=qv x y;omega
theorem lL{a b:AG}(d:0<zf b):zf (El a b)=zf a/zf b:=by
 unfold El;generalize k:zf a=x;generalize zf b=y at d;have f:=Int.mul_ediv_add_emod (Ag x) y;have j:=Int.emod_nonneg (Ag x)<|yf d;have i:=Int.emod_lt_of_pos (Ag x) d;split
 ·next c=>
  rw[lO,CH,EW];obtain⟨l,g⟩:=c;symm;rw[jc d];have e:Ag x= -x:=by rw[Ai];omega
  rw[e]at f j i g ⊢;generalize -x/y=q at*;generalize -x % y=r at*;rw[Int.sub_mul,Int.neg_mul,j5 q y];generalize y*q=t at*;omega
 ·next c=>
  rw[CH];unfold Sp.sg;split
  ·next n=>
   have n:x<0:=w6 n;have g:Ag x % y=0:=qw fun h=>c ⟨n,h⟩
   symm;rw[jc d];have e:Ag x= -x:=by rw[Ai];omega
   rw[g]at f;rw[e]at f ⊢;generalize -x/y=q at*;rw[Int.neg_mul,j5 q y];generalize y*q=t at*;omega
  ·next n=>
   have n:¬x<0:=fun h=>n<|w4 h
   have e:Ag x=x:=by rw[Ai];omega
   rw[e]
theorem Te{a b:AG}(f:Bb a=true)(e:0<zf b):j6 (El a b)=true:=by
 have c:=bounds f;have h:Ag (zf a)/zf b<=Ag (zf a):=Int.ediv_le_self _<|AK _;have g:0<=Ag (zf a)/zf b:=Int.ediv_nonneg (AK _)<|zx e;unfold El;generalize Ag (zf a)/zf b=q at*;have d:Ag q<(Ao:Int)^9000:=by
  refine zy ?_ c;rw[Ai];omega
 split
 ·exact TZ (D1<|by rw[II];exact d) af
 ·refine(NZ (k:=9000) ?_ ae).1;unfold Sp.sg;split
  ·rw[II];exact d
  ·exact d
theorem yZ{a b:AG}(c:0<zf b):zf (Sp.iQ a b)=zf a/zf b:=by
 unfold Sp.iQ;rw[wc ae];exact lL c
theorem hZ{a b:AG}(d:Bb a=true)(c:0<zf b):j6 (Sp.iQ a b)=true:=by
 unfold Sp.iQ;rw[wc ae];exact Te d c
theorem Va{n d:AG}(f:Bb n=true)(b:Bb d=true)(h0:0<zf d):EX (ND n d) (z6 (zf n)<|zf d):=by
 have j:(zf d).sign=1:=je h0;have i:(z6 (zf n)<|zf d).num=zf n/(qf (zf n) (zf d):Int):=by
  rw[qq,j,Int.one_mul,j7]
 have g:((z6 (zf n)<|zf d).den:Int)=zf d/(qf (zf n) (zf d):Int):=by
  rw[qt,wc<|yf h0,j7,Int.natCast_ediv];rw[Int.natAbs_of_nonneg<|zx h0]
 obtain⟨k,h,a⟩:=zD (n:=n) b<|yf h0;unfold ND;split
 ·next c=>
  unfold C4 at c;rw[zd,w5,w5]at c;have e:zf d=1:=by rw[Bo c.1];exact c.2
  refine⟨(BU f).1,(BU b).1,?_,?_⟩
  ·rw[i,e,Int.gcd_one];exact(j8 _).symm
  ·rw[g,e,Int.gcd_one];exact(j8 _).symm
 ·refine⟨hZ f a,hZ b a,?_,?_⟩
  ·rw[yZ a,i,h]
  ·rw[yZ a,g,h]
theorem Om{n d:AG}(f:Bb n=true)(b:Bb d=true)(h0:zf d≠0):EX (YO n d) (z6 (zf n)<|zf d):=by
 unfold YO;split
 ·next c=>
  have h:=Va (UA f) (UA b) (by rw[HH];omega);rw[HH,HH]at h;have e:=Rat.divInt_mul_right (n:=zf n) (d:=zf d) (a:= -1) af;rw[Int.mul_neg,qy,Int.mul_neg,qy]at e;rw[e]at h;exact h
 ·exact Va f b ae
theorem KS.Z2{k:Nat}{f:Aj}{q:Rat}(h:EX f q)(a:KS k q):Ag (zf f.1)<(Ao:Int)^k/\Ag (zf f.2)<(Ao:Int)^k:=by
 rw[h.vn,h.vd];refine⟨a.1,?_⟩;rw[Ai,zm];exact a.2
theorem EX.eqd{f:Aj}{q:Rat}(h:EX f q):z6 (zf f.1) (zf f.2)=q:=by
 rw[h.vn,h.vd];exact zr q
theorem EX.neg{f:Aj}{q:Rat}(h:EX f q)(a:KS 4000 q):EX (uR f) (-q):=by
 have c:=KS.Z2 h a;have b:=Sl (k:=4000) h.n ae ae<|SW h.n c.1;exact⟨b.1,h.d,by show zf (Ck f.1)=_;rw[HH,h.vn,ji],by show zf f.2=_;rw[h.vd,jj]⟩
theorem KS.neg{k:Nat}{q:Rat}(h:KS k q):KS k (-q):=by
 unfold KS;rw[ji,jj,II];exact h
theorem EX.mul{f g:Aj}{p q:Rat}(c:EX f p)(e:EX g q)(sp:KS 4000 p)(i:KS 4000 q):EX (Lh f g) (p*q):=by
 have a:=KS.Z2 c sp;have b:=KS.Z2 e i;have h:=Om (n:=FB f.1 g.1) (d:=FB f.2 g.2) (NG a.1 b.1) (NG a.2 b.2) (by rw[DK];exact yf<|qx c.den_pos e.den_pos);rw[DK,DK, <-Rat.divInt_mul_divInt,c.eqd,e.eqd]at h;exact h
theorem EX.add{f g:Aj}{p q:Rat}(e:EX f p)(i:EX g q)(sp:KS 4000 p)(m:KS 4000 q):EX (Cf f g) (p+q):=by
 have a:=KS.Z2 e sp;have b:=KS.Z2 i m;have r:=E7<|GS e.n a.1;have t:=E7<|GS i.n b.1;unfold Cf;split
 ·next c=>
  obtain⟨k,j⟩:=c;unfold C4 at k j;rw[zd,w5,w5]at k j;have s:(p.den:Int)=1:=by rw[<-e.vd,Bo k.1];exact k.2
  have l:(q.den:Int)=1:=by rw[<-i.vd,Bo j.1];exact j.2
  have o:z6 p.num 1=p:=by have:=zr p;rw[s]at this;exact this
  have eq:z6 q.num 1=q:=by have:=zr q;rw[l]at this;exact this
  have es:p+q=z6 (p.num+q.num) 1:=by
   have h:=qd p.num q.num (d₁:=1) (d₂:=1) af af;rw[o,eq,qy,qy,qy]at h;exact h
  refine⟨TZ r.1 t.1,by show j6 (1,CT 1)=true;rw[Og];rfl,?_,?_⟩
  ·show zf (EO f.1 g.1)=_;rw[WW,e.vn,i.vn,es,qq];simp
  ·show zf (1,CT 1)=_;rw[Og,CH,es,qt];simp
 ·have h:=Om (n:=EO (FB f.1 g.2)<|FB g.1 f.2) (d:=FB f.2 g.2) (Ado (NG a.1 b.2) (NG b.1 a.2)<|by rw[DK,DK];exact eI (K9 a.1 b.2)<|K9 b.1 a.2) (NG a.2 b.2) (by rw[DK];exact yf<|qx e.den_pos i.den_pos);rw[WW,DK,DK,DK, <-qd _ _ (yf e.den_pos) (yf i.den_pos),e.eqd,i.eqd]at h;exact h
theorem EX.sub{f g:Aj}{p q:Rat}(b:EX f p)(c:EX g q)(sp:KS 4000 p)(a:KS 4000 q):EX (NB f g) (p-q):=by
 rw[Rat.sub_eq_add_neg];exact b.add (c.neg a) sp a.neg
theorem EX.inv{f:Aj}{p:Rat}(b:EX f p)(sp:KS 4000 p)(h0:p≠0):EX (We f) p⁻¹:=by
 have a:=KS.Z2 b sp;have e:=E7<|GS b.n a.1;have c:=E7<|GS b.d a.2;have h:=Om c.1 e.1 (by rw[b.vn];exact fun h=>h0<|qh.mp h);rw[<-Rat.inv_divInt,b.eqd]at h;exact h
end Go.Pe
namespace Go.Sp
open Go.Lib
theorem NR{P:Nat->Z->Prop}(b:∀d,d<10->P d [zw<|48+d])(f:∀a d,0<a->d<10->P a (decDigits a)->P (10*a+d) (decDigits a++[zw<|48+d]))(n:Nat):P n (decDigits n):=by
 induction n using Nat.strongRecOn with
 |_ n c=>
  by_cases h:n<10
  ·rw[decDigits_one h];exact b n h
  ·have e:n=10*(n/10)+n % 10:=ae
   have:=f (n/10) (n % 10) ae (Nat.mod_lt _ af) (c (n/10) ae);rw[<-Gk _ _ ae (Nat.mod_lt _ af), <-e]at this;exact this
theorem KL:∀d:Fin 10,(zw<|48+d.1).toNat=48+d.1:=af
theorem KV{d:Nat}(h:d<10):BW (zw<|48+d)=true/\HM (zw<|48+d)=d:=by
 have e:(zw<|48+d).toNat=48+d:=KL ⟨d,h⟩;unfold BW HM;rw[e];refine⟨?_,by omega⟩;rw[w4 ae,w4 ae];rfl
theorem fR{c:UInt8}(h:BW c=true):c=zw (48+(HM c).toNat)/\(HM c).toNat<10:=by
 obtain⟨b,d⟩:=Dd h;have a:(HM c).toNat<10:=ae
 refine⟨yj.1 ?_,a⟩;rw[KL ⟨(HM c).toNat,a⟩];show c.toNat=48+(HM c).toNat;unfold HM at*;omega
theorem Wy(n:Nat):decDigits n≠[]:=NR (P:=fun _ l=>l≠[]) (fun _ _=>by simp) (fun _ _ _ _ _=>by simp) n
theorem D0(n:Nat):Ap (decDigits n)=true:=by
 refine NR (P:=fun _ l=>Ap l=true) (fun d h=>?_) (fun a d _ h b=>?_) n
 ·unfold Ap;rw[zz,(KV h).1];rfl
 ·unfold Ap at*;rw[List.all_append,b,zz,(KV h).1];rfl
theorem HZ(n:Nat):AE 0 (decDigits n)=n:=by
 refine NR (P:=fun n l=>AE 0 l=n) (fun d h=>?_) (fun a d _ h b=>?_) n
 ·show 10*0+HM (zw<|48+d)=d;rw[(KV h).2];omega
 ·rw[C2,b];show 10*(a:Int)+HM (zw<|48+d)=_;rw[(KV h).2];omega
theorem eR(n:Nat)(h0:0<n):(decDigits n).getD 0 0≠48:=by
 refine NR (P:=fun n l=>0<n->l.getD 0 0≠48) (fun d h h0=>?_) (fun a d j _ g _=>?_) n h0
 ·show zw (48+d)≠48;intro e;have:=KL ⟨d,h⟩;have i:=wi yb e;rw[show(zw<|48+d).toNat=48+d from this]at i;have:(48:UInt8).toNat=48:=rfl;omega
 ·have b:=g j;cases f:decDigits a with
  |nil=>exact wh f<|Wy a
  |cons c r=>rw[f]at b;exact b
theorem U9(n:Nat):AV (decDigits n)=true:=by
 unfold AV;rw[D0,w4<|Wy n];rcases yr n with rfl|h
 ·rw[decDigits_one af];rfl
 ·rw[w4<|eR n h];rfl
theorem F6{s:Z}(h:AV s=true):s≠[]/\Ap s=true/\(s.getD 0 0≠48\/s=[48]):=by
 unfold AV at h;rw[zd,zd,w5,Bool.or_eq_true,w5,w5]at h;exact⟨h.1.1,h.1.2,h.2⟩
theorem IK{s:Z}(h:AV s=true)(h0:s≠[48]):0<AE 0 s:=by
 obtain⟨d,a,b⟩:=F6 h;cases s with
 |nil=>exact wh rfl d
 |cons c r=>
  have i:(c::r).getD 0 0=c:=rfl;rw[i]at b;have j:c≠48:=by
   rcases b with x|x
   ·exact x
   ·exact wh x h0
  unfold Ap at a;rw[zz,zd]at a;have g:=Dd a.1;have hr:Ap r=true:=a.2;have l:=Bi hr;show 0<AE (10*0+HM c) r;rw[ER];have hp:(0:Int)<10^r.length:=Int.pow_pos af;have k:c.toNat≠48:=fun x=>j<|yj.1 x
  have f:0<10*0+HM c:=by show 0<10*0+((c.toNat:Int)-48);have e:0<=((c.toNat:Int)-48):=g.1;omega
  have:=qx f hp;omega
theorem Qe{s:Z}(h:AV s=true):s=decDigits (AE 0 s).toNat:=by
 generalize b:s.length=n;induction n generalizing s with
 |zero=>exact wh (yd.1 b) (F6 h).1
 |succ n m=>
  obtain⟨l,d,p⟩:=F6 h;obtain⟨t,c,rfl⟩:∃t c,s=t++[c]:=⟨_,_,(List.dropLast_concat_getLast l).symm⟩;unfold Ap at d;rw[List.all_append,zd,zz,zd]at d;obtain⟨h4,h5,_⟩:=d;obtain⟨b1,b2⟩:=fR h5;obtain⟨d1,_⟩:=Dd h5;rw[C2];show t++[c]=decDigits (10*AE 0 t+HM c).toNat;by_cases a:t=[]
  ·subst a;show[c]=decDigits (10*0+HM c).toNat;rw[show(10*0+HM c).toNat=(HM c).toNat by omega,decDigits_one b2, <-b1]
  ·have g:(t++[c]).getD 0 0=t.getD 0 0:=by
    cases t with
    |nil=>exact wh rfl a
    |cons x r=>rfl
   have j:t.getD 0 0≠48:=by
    rcases p with x|x
    ·rw[g]at x;exact x
    ·have i:=wi yz x;rw[zl]at i;have q:t.length+1=1:=i;exact wh (yd.1 ae) a
   have f:AV t=true:=by
    unfold AV Ap;rw[w4 a,h4,w4 j];rfl
   have hp:=IK f (fun k=>j (by rw[k];rfl));have o:=m f (by rw[zl]at b;simpa using b);have e:(10*AE 0 t+HM c).toNat=10*(AE 0 t).toNat+(HM c).toNat:=ae
   rw[e,Gk _ _ ae b2, <-o, <-b1]
theorem AbD:∀ {a:Z},(∀c∈a,c≠47)->AA a=a/\AS a=[]/\Bq a=false:=by
 intro a h;have b:Bq a=false:=by
  unfold Bq;rw[List.any_eq_false];intro x d;simpa using h x d
 exact⟨((Go.Pe.BQ a).2.2 b).1,((Go.Pe.BQ a).2.2 b).2,b⟩
theorem rC:∀ {a:Z} (b:Z),(∀c∈a,c≠47)->AA (a++47::b)=a/\AS (a++47::b)=b/\Bq (a++47::b)=true:=by
 intro a b h;have d:Bq (a++47::b)=true:=by
  unfold Bq;rw[List.any_eq_true];exact⟨47,by simp,rfl⟩
 have f:∀ {a:Z},(∀c∈a,c≠47)->AA (a++47::b)=a:=by
  intro a;induction a with
  |nil=>intro _;show AA (47::b)=[];rw[Go.Pe.Eh,wd rfl]
  |cons x r g=>
   intro h;show AA (x::(r++47::b))=_;rw[Go.Pe.Eh,wc (h x (by simp)),g<|fun c d=>h c<|List.mem_cons_of_mem _ d]
 have e:=f h;refine⟨e,?_,d⟩;rw[((Go.Pe.BQ _).2.1 d).2,e];simp
theorem Rl{s:Z}(h:Ap s=true):∀c∈s,c≠47:=by
 intro c a e;unfold Ap at h;rw[qz]at h;have:=h c a;rw[e]at this;exact wh this af
theorem FV{s:Z}(h:Ap s=true):s.getD 0 0≠45:=by
 cases s with
 |nil=>decide
 |cons c r=>
  unfold Ap at h;rw[zz,zd]at h;show c≠45;intro e;rw[e]at h;exact wh h.1 af
def A6(q:Rat):Z:=if q.den=1 then itoa q.num else itoa q.num++47::decDigits q.den
def Az(s:Z):Rat:=z6 (Bc s)<|AN s
theorem Ea(n:Int):(∀c∈itoa n,c≠47)/\A2 (itoa n)=decDigits n.natAbs/\preB (itoa n)=decide (n<0)/\Cr (itoa n)=n:=by
 unfold itoa;by_cases h:n<0
 ·rw[wd h];refine⟨fun c b=>?_,rfl,(w4 h).symm,?_⟩
  ·rcases List.mem_cons.1 b with rfl|b
   ·decide
   ·exact Rl (D0 _) c b
  ·show -AE 0 (decDigits n.natAbs)=n;rw[HZ];omega
 ·rw[wc h];have a:=FV<|D0 n.toNat;have e:n.toNat=n.natAbs:=ae
  refine⟨Rl<|D0 _,?_,?_,?_⟩
  ·unfold A2;rw[wc a,e]
  ·unfold preB;rw[w8 a,w8 h]
  ·unfold Cr;rw[wc a,HZ];omega
theorem Hq(q:Rat):AA (A6 q)=itoa q.num/\AS (A6 q)=(if q.den=1 then[]else decDigits q.den)/\Bq (A6 q)=decide (q.den≠1):=by
 unfold A6;have h:=(Ea q.num).1;by_cases a:q.den=1
 ·rw[wd a,wd a,w8<|not_not_intro a];exact AbD h
 ·rw[wc a,wc a,w4 a];exact rC _ h
theorem Kr(q:Rat):Bc (A6 q)=q.num/\AN (A6 q)=q.den:=by
 obtain⟨b,d,c⟩:=Hq q;unfold Bc AN;rw[b,d,c];refine⟨(Ea q.num).2.2.2,?_⟩;by_cases a:q.den=1
 ·rw[wc (by simpa using a),a];rfl
 ·rw[wd<|w4 a,wc a];unfold Cr;rw[wc<|FV<|D0 _,HZ]
theorem FU(q:Rat):Az (A6 q)=q:=by
 unfold Az;rw[(Kr q).1,(Kr q).2];exact zr q
theorem cZ{p q:Rat}(h:A6 p=A6 q):p=q:=by
 rw[<-FU p,h,FU]
theorem TG(a:Z):AA (A2 a)=A2 (AA a)/\AS (A2 a)=AS a/\Bq (A2 a)=Bq a/\preB (AA a)=preB a:=by
 unfold A2 preB;cases a with
 |nil=>exact⟨rfl,rfl,rfl,rfl⟩
 |cons c r=>
  have f:(c::r).getD 0 0=c:=rfl;rw[f,Go.Pe.Eh];by_cases d:c=45
  ·subst d;have e:AS (45::r)=AS r:=by
    unfold AS;rw[qn];cases r.findIdx? (fun x=>x==47)<;>rfl
   exact⟨rfl,e.symm,rfl,rfl⟩
  ·rw[wc d];by_cases b:c=47
   ·subst b;exact⟨(Go.Pe.Eh _ _),rfl,rfl,rfl⟩
   ·rw[wc b];have g:(c::AA r).getD 0 0=c:=rfl;rw[g,wc d];exact⟨by rw[Go.Pe.Eh,wc b],rfl,rfl,rfl⟩
theorem Xq{a:Z}(h:Am a=0):Gt a=true/\(AA<|A2 a).length<=600/\(AS<|A2 a).length<=600/\(Bq (A2 a)=true->gI (tY a) (tH a)=1):=by
 unfold Am at h;cases b:Gt a with
 |false=>rw[wd b]at h;exact wh h af
 |true=>
  rw[wc<|by rw[b];decide]at h;split at h
  ·exact wh h af
  ·next c=>
   split at h
   ·exact wh h af
   ·next d=>exact⟨rfl,by omega,by omega,fun k=>qw fun g=>d ⟨k,g⟩⟩
def Gm(k:Nat)(q:Rat):Prop:=q.num.natAbs<10^k/\q.den<10^k
theorem Qr{n d:Int}(a:0<d)(h:qf n d=1):(z6 n d).num=n/\((z6 n d).den:Int)=d:=by
 have b:d.sign=1:=je a;rw[qq,qt,wc<|yf a,b,Int.one_mul,j7,h];refine⟨j8 _,?_⟩;rw[Nat.div_one,Int.natAbs_of_nonneg<|zx a]
theorem Ox{s:Z}(h:Ap s=true){k:Nat}(a:s.length<=k):(AE 0 s).toNat<10^k:=by
 have b:=Bi h;have d:(10:Int)^s.length<=10^k:=AM af a;have c:((10^k:Nat):Int)=(10:Int)^k:=by simp
 omega
theorem KM(k:Nat)(h:k≠0):(1:Int).toNat<10^k:=Nat.one_lt_pow h af
theorem xN:decDigits (yv 1)=[49]:=by rw[show yv 1=1 from rfl,decDigits_one af];rfl
theorem Ml{s:Z}(h:Am s=0):A6 (Az s)=s/\(Az s).num=Bc s/\((Az s).den:Int)=AN s/\Gm 600 (Az s):=by
 obtain⟨m,l1,v,i⟩:=Xq h;obtain⟨p1,p2,p3,p4⟩:=TG s;unfold Gt at m;rw[zd,zd]at m;obtain⟨⟨fa,fm⟩,b⟩:=m;unfold tY tH at i;obtain⟨A,hA⟩:∃A,A=AA (A2 s):=⟨_,rfl⟩;obtain⟨B,hB⟩:∃B,B=AS (A2 s):=⟨_,rfl⟩;rw[<-hA]at fa fm l1 i;rw[<-hB]at b v i;rw[p3]at b i;have w:=(F6 fa).2.1;have D:=Qe fa;have v0:=Bi w;have j:Bc s=(if preB s=true then -AE 0 A else AE 0 A)/\AA s=(if preB s=true then 45::A else A):=by
  have N:A=A2 (AA s):=by rw[hA,p1]
  unfold Bc Cr;rw[<-p4];unfold preB;rw[N];unfold A2;by_cases a:(AA s).getD 0 0=45
  ·rw[wd a,wd<|w4 a,wd a,wd<|w4 a];refine⟨rfl,?_⟩;cases x:AA s with
   |nil=>rw[x]at a;exact wh a af
   |cons c r=>
    rw[x]at a;have a:c=45:=a;rw[a];rfl
  ·rw[wc a,wc (by rw[w8 a];decide),wc a,wc<|by rw[w8 a];decide];exact⟨rfl,rfl⟩
 have p:(Bc s).natAbs=(AE 0 A).toNat:=by rw[j.1];split<;>omega
 have L:0<AN s/\(AN s).toNat<10^600/\qf (Bc s) (AN s)=1/\(Bq s=true->B=decDigits (AN s).toNat/\AN s≠1)/\(Bq s=false->AN s=1):=by
  unfold AN;rw[<-p2, <-hB];cases a:Bq s with
  |false=>
   rw[wc af];exact⟨by decide,KM 600 af,Int.gcd_one,(fun k=>by cases k),fun _=>rfl⟩
  |true=>
   rw[a]at b;have b:(AV B&&decide (B≠[48])&&decide (B≠[49]))=true:=b;rw[zd,zd,w5,w5]at b;obtain⟨⟨l,E⟩,R⟩:=b;have C:=(F6 l).2.1;have hp:=IK l E;have M:Cr B=AE 0 B:=by unfold Cr;rw[wc<|FV C]
   rw[wd rfl,M];refine⟨hp,Ox (k:=600) C v,?_,fun _=>⟨Qe l,?_⟩,(fun k=>by cases k)⟩
   ·have g:=i a;rw[F8]at g;have g:qf (AE 0 A) (AE 0 B)=1:=ae
    rw[j.1];split
    ·rw[Int.neg_gcd];exact g
    ·exact g
   ·intro e;have:=Qe l;rw[e]at this;exact R<|this.trans xN
 obtain⟨U,J,S,G,V⟩:=L;obtain⟨f,q⟩:=Qr (n:=Bc s) U S;have f:(Az s).num=Bc s:=f;have q:((Az s).den:Int)=AN s:=q;have z:(Az s).den=(AN s).toNat:=ae
 refine⟨?_,f,q,?_,?_⟩
 ·have O:itoa (Bc s)=AA s:=by
   rw[j.2];unfold itoa;by_cases d:preB s=true
   ·have u:A≠[48]:=by
     have o:preB s=true:=d;rw[o]at fm;simpa using fm
    have:=IK fa u;rw[j.1,wd d,wd d,wd ae,Int.natAbs_neg];rw[show(AE 0 A).natAbs=(AE 0 A).toNat by omega, <-D]
   ·rw[j.1,wc d,wc d,wc ae, <-D]
  unfold A6;rw[f,z,O];obtain⟨y,H,P⟩:=Go.Pe.BQ s;cases a:Bq s with
  |false=>
   rw[V a,wd<|show yv 1=1 from rfl];exact(P a).1
  |true=>
   obtain⟨K,W⟩:=G a;obtain⟨m1,m2⟩:=H a;rw[wc ae, <-K,hB,p2,m2];have F:s.drop (AA s).length=47::s.drop ((AA s).length+1):=by
    have h0:∀t:Z,Bq t=true->t.drop (AA t).length=47::t.drop ((AA t).length+1):=by
     intro t;induction t with
     |nil=>intro h;cases h
     |cons c r I=>
      intro h;rw[Go.Pe.Eh];by_cases e:c=47
      ·rw[wd e,e];rfl
      ·rw[wc e];have T:Bq r=true:=by
        unfold Bq at h ⊢;rw[List.any_cons]at h;simpa [e]using h
       exact I T
    exact h0 s a
   rw[<-F];conv=>lhs;rw[y]
   have:=List.take_append_drop (AA s).length s;rw[<-y]at this ⊢;exact this
 ·rw[f,p];exact Ox (k:=600) w l1
 ·rw[z];exact J
def AZ(n:Int):Z:=z7 n
def Qq(s:Z)(n:Int):Z:=Lib.repeatL s n.toNat
end Go.Sp
namespace Go.Pe
open Go.Det
def eT:An:=⟨[i64],fun n=>Sp.CG n,[.str],fun n=>Sp.AZ n,false⟩
def UM:An:=⟨[u64,i64],fun i=>decide (0<=i.1)&&decide (i.1<1000000000000000000)&&decide (i.2=10),[.str],fun i=>Sp.AZ i.1,false⟩
def TM:An:=⟨[.str,i64],fun i=>decide (0<=i.2)&&decide (i.2<=1000)&&decide (i.1.length<=1000),[.str],fun i=>Sp.Qq i.1 i.2,false⟩
def Aa6:An:=⟨[AY],fun a=>Sp.Bb a,[.str],fun a=>Sp.AZ<|zf a,false⟩
def Q0:AT:=X7 [(211,eT),(179,OO),(212,GN),(213,UM),(214,TM)]
open Sp
section
open List Int Prod
namespace T185
def T(a:AG):Tr:=tree Q0 false 9 185<|Ae ([AY]) a
def L1(v3:Bool)(v4:List Int)(a:Nat)(b:List Int):Tr:=re ((T (0,[])).R.L)<|Av 69 [(3,.dat Sh.bool v3),(4,.dat (Sh.list<|Sh.int jk) v4),(5,.sl 0 1 0 a none),(6,.nil)] [(0,.arr false 216 (Sh.int jk) b)] 1
theorem Ak(a:AG):T a=.ite (!decide (0<length (snd a))) (.ck (CG<|fst a)<|.leaf (.dat Sh.str<|AZ<|fst a) []) (.ck (j6 a)<|L1 (decide (zf a<0)) (Bv<|Ag<|zf a) 1<|[1000000000000000000]):=by kernel_rfl
def L2(v3:Bool)(v4:List Int)(a b:Nat)(o1:List Z)(c:List Int):Tr:=re ((stepT Q0<|L1 false [] 0 []).L.L.L.L.L.L.L.L.L)<|Av 69 [(3,.dat Sh.bool v3),(4,.dat (Sh.list<|Sh.int jk) v4),(5,.sl 0 1 0 a none),(6,.sl 1 1 0 b none)] [(1,.arr false 9 Sh.str o1),(0,.arr true 216 (Sh.int jk) c)] 2
def L3(a:Int)(o1:List Int)(b:Nat):Tr:=re ((stepT Q0<|L1 false [] 0 []).R.L.L.L)<|Av 69 [(6,.nil),(10,.ptr 0 0),(11,.dat i64 a)] [(1,.arr false 5 (Sh.int IntKind.u8) o1),(0,jl 253 [.ptr 0 0,.sl 1 1 0 b none])] 2
def L4(a:Int):Tr:=re ((stepT Q0<|L1 false [] 0 []).R.L.R)<|Av 69 [(6,.nil),(10,.ptr 0 0),(11,.dat i64 a)] [(0,jl 253 [.ptr 0 0,.nil])] 1
def L5(a:Int):Tr:=re ((stepT Q0<|L1 false [] 0 []).R.R)<|Av 69 [(6,.nil),(10,.ptr 0 0),(11,.dat i64 a)] [(0,jl 253 [PV.nilp,.nil])] 1
theorem Al(v3:Bool)(v4:List Int)(a:Nat)(c:List Int):stepT Q0 (L1 v3 v4 a c)=let d:=Bv<|As v4 % As (take a c);let b':=Bv<|As v4/As (take a c);let h:=aa 16;let f:=zg .i64<|0-1;let g:=AZ<|getD d 0 0;let e:=18-(↑(length g):Int);.di ((length v4:Int)>0) (.ck (decide (0+a<=length c)&&true&&Th v4 (take a c))<|.di ((↑(length d):Int)>0) (.cd (0<(↑(length d):Int))<|.ck (decide ((0:Sh.T u64)<=getD d 0 0)&&decide (getD d 0 0<(1000000000000000000:Sh.T u64))&&decide (10=10))<|.di ((↑(length b'):Int)>0) (.ck (decide (0<=zg .i64 e)&&decide (zg .i64 e<=1000)&&decide (1<=1000))<|.cd (length (Qq [(48:UInt8)]<|zg .i64 e)+length g<=4611686018427387904)<|.ck h<|L2 v3 b' a 1 ([Qq [(48:UInt8)] (zg .i64 e)++AZ (getD d 0 0)]) c)<|.ck h<|L2 v3 b' a 1 ([AZ<|getD d 0 0]) c)<|.di ((↑(length b'):Int)>0) (.ck true<|.ck true<|.ck true<|L2 v3 b' a 1 ([Qq [(48:UInt8)] (zg .i64<|18-1)++[(48:UInt8)]]) c)<|.ck true<|L2 v3 b' a 1 ([[(48:UInt8)]]) c) (.ite v3 (.ite true (.ck true<|L3 f (yp (fun b=>(↑(yb b):Int)) [(45:UInt8)]) 1)<|L4 f)<|L5 f):=by kernel_rfl
def L6(c:Nat)(b:Int)(d:List Int)(a:Nat)(e:List Z):Tr:=re ((stepT Q0<|L2 false [] 0 0 [] []).R.L.L.L)<|Av 69 [(6,.sl 0 1 0 c none),(10,.ptr 1 0),(11,.dat i64 b)] [(2,.arr false 5 (Sh.int IntKind.u8) d),(1,jl 253 [.ptr 1 0,.sl 2 1 0 a none]),(0,.arr false 9 Sh.str e)] 3
def L7(b:Nat)(a:Int)(c:List Z):Tr:=re ((stepT Q0<|L2 false [] 0 0 [] []).R.L.R)<|Av 69 [(6,.sl 0 1 0 b none),(10,.ptr 1 0),(11,.dat i64 a)] [(1,jl 253 [.ptr 1 0,.nil]),(0,.arr false 9 Sh.str c)] 2
def L8(b:Nat)(a:Int)(c:List Z):Tr:=re ((stepT Q0<|L2 false [] 0 0 [] []).R.R)<|Av 69 [(6,.sl 0 1 0 b none),(10,.ptr 1 0),(11,.dat i64 a)] [(1,jl 253 [PV.nilp,.nil]),(0,.arr false 9 Sh.str c)] 2
theorem AJ(v3:Bool)(v4:List Int)(a c:Nat)(o1:List Z)(d:List Int):stepT Q0 (L2 v3 v4 a c o1 d)=let e:=Bv<|As v4 % As (take a d);let b':=Bv<|As v4/As (take a d);let h:=decide ((3*(c+1)+2000)*16<=562949953421312);let i:=zg .i64<|(↑c:Int)-1;let j:=decide (c=length o1);let f:=Nat.add c 1;let h':=decide (1<=1)&&true&&j&&h;let k:=AZ<|getD e 0 0;let g:=18-(↑(length k):Int);.di ((length v4:Int)>0) (.ck (decide (0+a<=length d)&&true&&Th v4 (take a d))<|.di ((↑(length e):Int)>0) (.cd (0<(↑(length e):Int))<|.ck (decide ((0:Sh.T u64)<=getD e 0 0)&&decide (getD e 0 0<(1000000000000000000:Sh.T u64))&&decide (10=10))<|.di ((↑(length b'):Int)>0) (.ck (decide (0<=zg .i64 g)&&decide (zg .i64 g<=1000)&&decide (1<=1000))<|.cd (length (Qq [(48:UInt8)]<|zg .i64 g)+length k<=4611686018427387904)<|.ck h'<|L2 v3 b' a f (o1++[Qq [(48:UInt8)] (zg .i64 g)++AZ (getD e 0 0)]) d)<|.ck h'<|L2 v3 b' a f (o1++[AZ<|getD e 0 0]) d)<|.di ((↑(length b'):Int)>0) (.ck true<|.ck true<|.ck (j&&h)<|L2 v3 b' a f (o1++[Qq [(48:UInt8)] (zg .i64<|18-1)++[(48:UInt8)]]) d)<|.ck (j&&h)<|L2 v3 b' a f (o1++[[(48:UInt8)]]) d) (.ite v3 (.ite true (.ck true<|L6 c i (yp (fun b=>(↑(yb b):Int)) [(45:UInt8)]) 1 o1)<|L7 c i o1)<|L8 c i o1):=by kernel_rfl
theorem EP(d:Nat)(c:Int)(e:List Int)(a:Nat)(f:List Z):stepT Q0 (L6 d c e a f)=let g:=getD f (toNat c) [];.di (c>=0) (.ck (decide (0<=c)&&decide (c<(↑d:Int)))<|.cd (toNat c<length f)<|.ck (decide (a=length e)&&decide ((3*(a+length (yp (fun b=>(↑(yb b):Int)) g))+2000)*1<=562949953421312))<|L6 d (zg .i64<|c-1) (e++yp (fun b=>(↑(yb b):Int)) g) (Nat.add a<|length<|yp (fun b=>(↑(yb b):Int)) g) f) (.cd (0<a)<|.ck (decide (0<(↑a:Int))&&decide (toNat (↑a:Int)<=length e)&&decide (toNat (↑a:Int)<=9223372036854775807)&&List.all e fun x=>decide (0<=x)&&decide (x<256))<|.leaf (.dat Sh.str<|yp (fun x=>zw<|toNat x)<|take (toNat (↑a:Int)) e) []):=by kernel_rfl
theorem Hu(c:Nat)(a:Int)(d:List Z):stepT Q0 (L8 c a d)=let e:=getD d (toNat a) [];let b':=zg .i64<|a-1;.cd (a>=0) (.ck (decide (0<=a)&&decide (a<(↑c:Int)))<|.cd (toNat a<length d)<|.di (0<length (yp (fun b=>(↑(yb b):Int)) e)) (.cd ((3*length (yp (fun b=>(↑(yb b):Int)) e)+2000)*1<=562949953421312)<|L6 c b' (yp (fun b=>(↑(yb b):Int)) e) (length<|yp (fun b=>(↑(yb b):Int)) e) d)<|L7 c b' d):=by kernel_rfl
end T185
end
theorem MZ{f:FuncId}{sp:An}{q:List V->H->Option (V×H)}(hp:A9.prim f=none)(e:∃i,A9.fn f=some i)(p:A9.spec f=some q)
  (b:∀(F:Fz) (h:H) (args:List V) (i:(BC sp.ins).T),Gh h->MT F (Ae sp.ins i) args->sp.pre i=true->∃v,q args h=some (v,h)/\PC F (one<|Ae sp.outs<|sp.f i) v):Af A9 f sp:=by
 refine .of0 ⟨hp,e,fun F h args i g j d a c=>?_⟩;obtain⟨v,l,o⟩:=b F h args i d a c;refine⟨[(v,h)],1,fun m r=>?_,fun _=>⟨_,rfl⟩,fun x n=>?_⟩
 ·obtain⟨k,rfl⟩:∃k,m=k+1:=⟨m-1,by omega⟩;rw[Bl];simp only[p,l]
 ·cases yx.1 n;exact⟨yg _,fun _ _=>rfl,j,F,fun _ _ h=>h,fun _ _ h=>.inl h,g,o⟩
theorem Ac4:∃cs t fz,(5,O.cells cs t fz)∈Gr/\eqU cs Lib.pow10Tab=true:=⟨_,_,_,List.mem_cons_self ..,by kernel_rfl⟩
theorem Yp{h:H}(d:Gh h):Sk h=true:=by
 obtain⟨cs,t,fz,a,c⟩:=Ac4;have b:=d _ a;unfold Sk;rw[b];exact c
theorem rY:Af A9 211 eT:=by
 refine MZ (q:=ZF) ag (Be ag) rfl fun F h args (n:Int) hg a hp=>?_
 have hp:Sp.CG n=true:=hp;have a:args=[.int .i64 n]:=by
  have:=a (fun _=>none) 0;simp only[Ae,eT,Bf]at this;obtain⟨v,vs,rfl,b,rfl⟩:=this;obtain rfl:=CU b;rfl
 subst a;refine⟨.str<|z7 n,?_,fun ρ N=>Ki _⟩;have:=Et hp;have c:decide (-9223372036854775808<=n)=true:=w4 ae;have d:decide (n<=9223372036854775807)=true:=w4 ae;simp only[ZF,Yp hg,c,d,Bool.and_self,we]
theorem aD:Af A9 214 TM:=by
 refine MZ (q:=Si) ag (Be ag) rfl fun F h args (i:Z×Int) hg a hp=>?_
 obtain⟨s,n⟩:=i;have hp:(decide (0<=n)&&decide (n<=1000)&&decide (s.length<=1000))=true:=hp;rw[zd,zd,w5,w5,w5]at hp;obtain⟨⟨h0,h1⟩,h2⟩:=hp;obtain⟨c,rfl⟩:=yo h0;have a:args=[.str s,.int .i64 (c:Int)]:=by
  have:=a (fun _=>none) 0;simp only[Ae,TM,Bf]at this;obtain⟨v,vs,rfl,e,w,ws,rfl,b,rfl⟩:=this;obtain rfl:=FC e;obtain rfl:=CU b;rfl
 subst a;refine⟨.str<|Sp.Qq s (c:Int),?_,fun ρ N=>Ki _⟩;have f:j9 c 9223372036854775807=true:=qe ae;have d:j9 (EN s*c) 140737488355328=true:=qe (by
  rw[Db];have:s.length*c<=1000*1000:=Nat.mul_le_mul h2 ae;omega)
 show(bif j9 c 9223372036854775807&&j9 (EN s*c) 140737488355328 then some (V.str<|Lib.repeatL s c,h)else none)=_;rw[f,d];rfl
theorem gO:Af A9 213 UM:=by
 refine MZ (q:=fmtQ) ag (Be ag) rfl fun F h args (i:Int×Int) hg a hp=>?_
 obtain⟨u,b⟩:=i;have hp:(decide (0<=u)&&decide (u<1000000000000000000)&&decide (b=10))=true:=hp;rw[zd,zd,w5,w5,w5]at hp;obtain⟨⟨h0,h1⟩,rfl⟩:=hp;obtain⟨c,rfl⟩:=yo h0;have a:args=[.int .u64 (c:Int),.int .i64 10]:=by
  have:=a (fun _=>none) 0;simp only[Ae,UM,Bf]at this;obtain⟨v,vs,rfl,f,w,ws,rfl,d,rfl⟩:=this;obtain rfl:=CU f;obtain rfl:=CU d;rfl
 subst a;refine⟨.str<|Sp.AZ (c:Int),?_,fun ρ N=>Ki _⟩;have g:j9 c 18446744073709551615=true:=qe ae;have e:Sp.AZ (c:Int)=zh c:=Lib.itoa_nonneg _;rw[e];show(bif Sk h&&(j9 c 18446744073709551615&&Nat.beq 10 10)then some (V.str<|zh c,h)else none)=_;rw[Yp hg,g];rfl
namespace T185
abbrev pT(s:Z):List Int:=yp (fun b=>(↑(yb b):Int)) s
theorem VJ:∀s:Z,yp (fun x:Int=>zw<|yv x) (pT s)=s
 |[]=>rfl
 |b::s=>by
  have:=VJ s;simp only[pT,List.map_cons]at this ⊢;rw[this];simp
theorem YA:∀s:Z,(List.all (pT s) fun x=>decide ((0:Int)<=x)&&decide (x<(256:Int)))=true
 |[]=>rfl
 |b::s=>by
  have a:=YA s;have c:=b.toNat_lt;simp only[pT,List.map_cons,zz]at a ⊢;rw[a,Bool.and_true,zd,w5,w5];omega
theorem vW(a b:Z):pT a++pT b=pT (a++b):=by simp[pT]
theorem E5(c:List Z)(T:Z)(q:T.length<=1000000)(p:c.length<=1000000)(j:∀ob,Q (.dat .str T) ob):∀(i:Nat) (a:Z) (b:Int) (n:Nat),i<=c.length->b=(i:Int)-1->n=a.length->0<a.length->a++(c.take i).reverse.flatten=T->
  Ends Q0 (L6 c.length b (pT a) n c) Q
 |0,a,b,n,_,l,g,h0,f=>by
  have f:a=T:=by simpa using f
  subst f g;refine zk (EP ..) (zp (w8 ae)<|zc (w4 h0)<|zc (Ab (Ab (Ab (w4 ae)<|w4<|by simp)<|w4<|by simp;omega)<|YA a)<|ze ?_);have e:yp (fun x:Int=>zw<|yv x) (jo (yv (a.length:Int))<|pT a)=a:=by
   rw[zi,ye (by simp),VJ]
  rw[e];exact j _
 |i+1,a,b,n,k,l,g,h0,f=>by
  have m:List.getD c (yv b) []=c[i]:=by
   rw[show yv b=i from by omega];simp[show i<c.length from k]
  have h:a++c[i]++(c.take i).reverse.flatten=T:=by
   have o:c.take (i+1)=c.take i++[c[i]]:=y8 k;rw[<-f,o,List.reverse_append,jf,List.singleton_append,List.flatten_cons,y9]
  have d:=wi yz h;simp only[zl]at d;refine zk (EP ..) (zc (w4 ae)<|zc (ad ae ae)<|zc (w4 ae) ?_);rw[m];refine zc (Ab (w4<|by simp[g])<|w4<|by rw[yw];omega) ?_;rw[vW,wr (b-1) ae ae];exact E5 c T q p j i (a++c[i]) (b-1) _ ae ae (by rw[zl,yw,g];rfl) (by rw[zl];omega) h
theorem FG(a:List Z)(T:Z)(k:T.length<=1000000)(j:a.length<=1000000)(m:∀ob,Q (.dat .str T) ob)(i:Nat)(n:i+1=a.length)(b:Int)(o:b=(i:Int))(c:0<(a[i]'ae).length)(h:a.reverse.flatten=T):
  Ends Q0 (L8 a.length b a) Q:=by
 have e:i<a.length:=ae
 have l:List.getD a (yv b) []=a[i]:=by
  rw[show yv b=i from by omega];simp[e]
 have f:a[i]++(a.take i).reverse.flatten=T:=by
  have g:a.take (i+1)=a.take i++[a[i]]:=y8 e;rw[n,yh]at g;rw[<-h];conv=>rhs;rw[g]
  rw[List.reverse_append,jf,List.singleton_append,List.flatten_cons]
 have d:=wi yz f;simp only[zl]at d;refine zk (Hu ..) (zc (w4 ae)<|zc (ad ae ae)<|zc (w4 ae) ?_);rw[l];refine zc (w4<|by rw[yw];exact c) (zc (w4<|by rw[yw];omega) ?_);rw[wr (b-1) ae ae];exact E5 a T k j m i a[i] (b-1) _ ae ae (by rw[yw]) c f
end T185
theorem Vt{r:Int}(h0:0<r)(c:r<18446744073709551616):Bv r=[r]:=by
 have d:Aw Ao [r]:=by
  intro x a;rw[yx]at a;subst a;exact⟨by omega,c⟩
 have e:Sp.nz [r]:=by
  unfold Sp.nz;simp;omega
 have:=Jc (b:=Ao) af d e;have f:kc Ao [r]=r:=by simp[kc]
 rw[f]at this;exact this.symm
theorem Lx:Bv 0=[]:=by
 unfold Bv;rfl
theorem Ph:As [1000000000000000000]=1000000000000000000:=by simp[As,kc]
theorem cY(n:Nat):Qq [48] (n:Int)=List.replicate n 48:=by
 unfold Qq;rw[zi];induction n with
 |zero=>rfl
 |succ n a=>rw[Lib.repeatL,a];rfl
theorem SU(V:Nat):As (Bv (V:Int))=(V:Int):=C9 (b:=Ao) af ae
theorem jA{V:Nat}(a:(V:Int)<(Ao:Int)^9000):Th (Bv (V:Int)) [1000000000000000000]=true:=by
 obtain⟨n1,c,d⟩:=Di (n:=(V:Int)) ae a ae;have b:=Kt (n:=(V:Int)) ae a;unfold Th;refine Ab (Ab (Ab (Ab n1 ?_)<|w4 b)<|w4 af) (w4<|by rw[Ph];decide);decide
theorem VM(V:Nat):Bv (As (Bv (V:Int))/As (jo 1 [1000000000000000000]))=Bv ((V/10^18:Nat):Int):=by
 rw[SU,show jo 1 [(1000000000000000000:Int)]=[1000000000000000000]from rfl,Ph];congr 1
theorem Vl(V:Nat):Bv (As (Bv (V:Int)) % As (jo 1 [1000000000000000000]))=Bv ((V % 10^18:Nat):Int):=by
 rw[SU,show jo 1 [(1000000000000000000:Int)]=[1000000000000000000]from rfl,Ph];congr 1
theorem Jt{V:Nat}(h:0<V):0<(Bv (V:Int)).length:=by
 rcases yr (Bv (V:Int)).length with e|e
 ·have a:=SU V;rw[yd.1 e]at a;have b:As []=0:=rfl;rw[b]at a;omega
 ·exact e
theorem NU:∀(k u:Nat),u<10^(k+1)->Lib.nDigits u<=k+1
 |0,u,h=>by rw[Lib.nDigits_small ae];omega
 |k+1,u,h=>by
  by_cases c:u<10
  ·rw[Lib.nDigits_small c];omega
  ·rw[Lib.nDigits_big c];have:u/10<10^(k+1):=by rw[qk]at h;omega
   have:=NU k (u/10) this;omega
theorem Tk{r:Nat}(h:r<10^18):(zh r).length<=18:=by
 rw[yk];exact NU 17 r h
theorem MC(r:Nat):AZ (r:Int)=zh r:=Lib.itoa_nonneg r
theorem Sf(r:Nat)(h:r<10^18):Qq [48] ((18:Int)-((zh r).length:Int))++zh r=Gn 18 r:=by
 have:=Tk h;rw[show(18:Int)-((zh r).length:Int)=((18-(zh r).length:Nat):Int)from by omega,cY,yk];rfl
structure Small(V:Nat):Prop where
 h:(V:Int)<(Ao:Int)^9000
theorem Small.le{a b:Nat}(h:Small b)(c:a<=b):Small a:=⟨zy (Int.ofNat_le.mpr c) h.h⟩
theorem Small.div{V:Nat}(h:Small V):Th (Bv (V:Int)) [1000000000000000000]=true:=jA h.h
namespace T185
def Exit(neg:Bool)(G:List Z)(Q:PV->Ob->Prop):Prop:=Ends Q0 (.ite neg (.ite true (.ite true (L6 G.length (zg IntKind.i64<|(G.length:Int)-1) (yp (fun b=>(↑(yb b):Int)) [(45:UInt8)]) 1 G) .fail)<|L7 G.length (zg IntKind.i64<|(G.length:Int)-1) G)<|L8 G.length (zg IntKind.i64<|(G.length:Int)-1) G) Q
theorem A0(neg:Bool)(G:List Z)(hG:G.length<=1000000)(b:Exit neg G Q):∀(f V:Nat) (o1:List Z),V<f->Small V->o1++(if V=0 then[]else Cu f V)=G->Ends Q0 (L2 neg (Bv (V:Int)) 1 o1.length o1 [1000000000000000000]) Q
 |0,V,o1,h,_,_=>by omega
 |f+1,V,o1,h,k,g=>by
  rcases yr V with h0|h0
  ·subst h0;have g:o1=G:=by simpa using g
   subst g;refine zk (AJ ..) (zp (by rw[show((0:Nat):Int)=0 from rfl,Lx];rfl) ?_);exact b
  have e:V % 10^18<10^18:=Nat.mod_lt _ af;rw[wc ae]at g;have l:∀s,s=(if V/10^18=0 then zh (V % 10^18)else Gn 18<|V % 10^18)->(o1++[s])++(if V/10^18=0 then[]else Cu f<|V/10^18)=G:=by
   rintro s rfl;rw[<-g,y9];congr 1;have o:Cu (f+1) V=if V<10^18 then[zh V]else Gn 18 (V % 10^18)::Cu f (V/10^18):=rfl
   rw[o];by_cases c:V<10^18
   ·rw[wd c,wd ae,wd ae,Nat.mod_eq_of_lt c];rfl
   ·rw[wc c,wc ae,wc ae];rfl
  have m:o1.length+1<=1000000:=by
   have:=wi yz<|l _ rfl;simp only[zl,List.length_singleton]at this;omega
  have next:∀s,s=(if V/10^18=0 then zh (V % 10^18)else Gn 18<|V % 10^18)->Ends Q0 (L2 neg (Bv ((V/10^18:Nat):Int)) 1 (Nat.add o1.length 1) (o1++[s]) [1000000000000000000]) Q:=by
   intro s n;have:=A0 neg G hG b f (V/10^18) (o1++[s]) ae (k.le<|Nat.div_le_self _ _)<|l s n;rw[zl]at this;exact this
  refine zk (AJ ..) (zc (w4 (by have:=Jt h0;omega))<|zc (Ab rfl k.div) ?_);rw[VM,Vl];rcases yr (V % 10^18)with i|i
  ·have q0:V/10^18≠0:=ae
   rw[i,show((0:Nat):Int)=0 from rfl,Lx];refine zp rfl (zc (w4 (by have:=Jt (V:=V/10^18) ae;omega))<|zc rfl (zc rfl (zc (Ab (w4 rfl)<|w4 ae)<|next _ ?_)));have hp:=Sf 0 af;rw[qc ae]at hp;rw[wc q0,i, <-hp];rfl
  ·rw[Vt (r:=((V % 10^18:Nat):Int)) ae ae];have j:List.getD [((V % 10^18:Nat):Int)] 0 0=((V % 10^18:Nat):Int):=rfl;rw[j,MC];have q:=Tk e;have d:((V % 10^18:Nat):Int)<1000000000000000000:=ae
   have p:0<(zh<|V % 10^18).length:=by
    rw[yk,Lib.nDigits];split<;>omega
   refine zc rfl (zc rfl (zc (Ab (Ab (w4<|Int.natCast_nonneg _)<|w4 d) rfl) ?_));rw[wr _ ae ae];by_cases q0:V/10^18=0
   ·rw[q0];refine zp (by rw[show((0:Nat):Int)=0 from rfl,Lx];rfl) (zc (Ab (Ab rfl (w4 rfl))<|w4 ae) ?_);have:=next _ rfl;rw[wd q0,q0]at this;exact this
   ·have a:=Sf _ e;refine zc (w4 (by have:=Jt (V:=V/10^18) ae;omega)) (zc (Ab (ad ae ae) rfl)<|zc (w4 ?_) (zc (Ab (Ab rfl (w4 rfl))<|w4 ae)<|next _ ?_))
    ·rw[<-zl,a];unfold Gn;rw[zl,List.length_replicate];omega
    ·rw[wc q0];exact a
end T185
end Go.Pe
namespace Go.Sp
theorem Hg{n d:Int}(a:d≠0):(z6 n d).num.natAbs<=n.natAbs/\(z6 n d).den<=d.natAbs:=by
 rw[qq,qt,wc a];refine⟨?_,Nat.div_le_self _ _⟩;refine q9 (qv _ _) ?_;rw[yu,Int.natAbs_sign_of_ne_zero a,Nat.one_mul];exact yg _
theorem Kj{n d:Int}{k:Nat}(a:d≠0)(b:n.natAbs<10^k)(c:d.natAbs<10^k):Gm k (z6 n d):=
 ⟨yy (Hg a).1 b,yy (Hg a).2 c⟩
theorem Gm.mono{j k:Nat}{q:Rat}(h:Gm j q)(a:j<=k):Gm k q:=
 ⟨qu h.1 (qg af a),qu h.2<|qg af a⟩
theorem DO{a b i j:Nat}(c:a<10^i)(d:b<10^j):a*b<10^(i+j):=by
 rw[Nat.pow_add];exact yy (Nat.mul_le_mul_left _<|Nat.le_of_lt d) ((Nat.mul_lt_mul_right<|Nat.pow_pos af).2 c)
theorem I3(q:Rat):(q.den:Int)≠0:=by have:=q.den_pos;omega
theorem Gm.mul{p q:Rat}{i j:Nat}(hp:Gm i p)(a:Gm j q):Gm (i+j) (p*q):=by
 have h:=Rat.divInt_mul_divInt p.num q.num (d₁:=p.den) (d₂:=q.den);rw[zr,zr]at h;rw[h];refine Kj ?_ ?_ ?_
 ·exact Int.mul_ne_zero (I3 p)<|I3 q
 ·rw[yu];exact DO hp.1 a.1
 ·rw[yu,zm,zm];exact DO hp.2 a.2
theorem Gm.add{p q:Rat}{i j:Nat}(hp:Gm i p)(a:Gm j q):Gm (i+j+1) (p+q):=by
 have h:=qd p.num q.num (I3 p)<|I3 q;rw[zr,zr]at h;rw[h];have a1:=DO hp.1 a.2;have a2:=DO a.1 hp.2;have a3:=DO hp.2 a.2;rw[Nat.add_comm]at a2;refine Kj (Int.mul_ne_zero (I3 p)<|I3 q) ?_ ?_
 ·refine yy (Int.natAbs_add_le _ _) ?_;rw[yu,yu,zm,zm,qk];omega
 ·rw[yu,zm,zm,qk];omega
theorem Gm.neg{q:Rat}{k:Nat}(h:Gm k q):Gm k (-q):=by
 unfold Gm at*;rw[ji,jj,Int.natAbs_neg];exact h
theorem Gm.sub{p q:Rat}{i j:Nat}(hp:Gm i p)(a:Gm j q):Gm (i+j+1) (p-q):=by
 rw[Rat.sub_eq_add_neg];exact hp.add a.neg
theorem Gm.inv{q:Rat}{k:Nat}(h:Gm k q)(h0:q≠0):Gm k q⁻¹:=by
 have e:=Rat.inv_divInt q.num q.den;rw[zr]at e;rw[e];exact Kj (fun x=>h0<|qh.mp x) (by rw[zm];exact h.2) h.1
theorem Gm.div{p q:Rat}{i j:Nat}(hp:Gm i p)(a:Gm j q)(h0:q≠0):Gm (i+j) (p/q):=by
 rw[Rat.div_def];exact hp.mul<|a.inv h0
def QO(n:Int):Bool:=decide (600<(zh n.natAbs).length)
def Py(q:Rat):Bool:=QO q.num||QO q.den
theorem EU{u k:Nat}(h:u<10^k)(a:1<=k):(zh u).length<=k:=by
 rw[yk];obtain⟨j,rfl⟩:∃j,k=j+1:=⟨k-1,by omega⟩;exact Go.Pe.NU j u h
theorem Cd(u:Nat){k:Nat}(h:(zh u).length<=k):u<10^k:=by
 rw[yk]at h;exact qu (Lib.lt_pow_nDigits u) (qg af h)
theorem XK{q:Rat}:Py q=false↔Gm 600 q:=by
 unfold Py QO Gm;rw[Bool.or_eq_false_iff,w9,w9];refine⟨fun h=>⟨Cd (k:=600) _ ae,?_⟩,fun h=>⟨?_,?_⟩⟩
 ·have:=Cd (q.den:Int).natAbs (k:=600) ae;rw[zm]at this;exact this
 ·have:=EU h.1 af;omega
 ·have:=EU h.2 af;rw[zm];omega
theorem Qh{q:Rat}{k:Nat}(h:Gm k q)(a:1<=k):(A6 q).length<=2*k+2:=by
 have b:=EU h.1 a;have d:=EU h.2 a;have c:(z7 q.num).length<=k+1:=by
  unfold z7;split
  ·rw[zu];omega
  ·rw[show q.num.toNat=q.num.natAbs by omega];omega
 unfold A6;split
 ·omega
 ·rw[zl,zu];omega
def B4(s:Z):Bool:=decide (A6 (Az s)=s)&&decide (s.length<=4000)
theorem JB{s:Z}(h:B4 s=true):A6 (Az s)=s/\s.length<=4000:=by
 unfold B4 at h;rwa [zd,w5,w5]at h
theorem RB{q:Rat}{k:Nat}(h:Gm k q)(a:k<=1999):B4 (A6 q)=true:=by
 have b:=Qh (h.mono a) af;unfold B4;rw[FU,w4 rfl,w4 ae];rfl
theorem CO{s:Z}(h:Am s=0):B4 s=true/\Gm 600 (Az s):=by
 obtain⟨b,_,_,a⟩:=Ml h;exact⟨by rw[<-b];exact RB a af,a⟩
theorem Tp{s:Z}(h:B4 s=true):Gm 4000 (Az s):=by
 obtain⟨d,f⟩:=JB h;have e:(A6<|Az s).length<=4000:=by rw[d];exact f
 generalize Az s=q at*;have a:=Cd q.num.natAbs<|yg _;have b:=Cd q.den<|yg _;have g:(zh q.num.natAbs).length<=(z7 q.num).length:=by
  unfold z7;split
  ·rw[zu];omega
  ·rw[show q.num.toNat=q.num.natAbs by omega];exact yg _
 unfold A6 at e;split at e
 ·next c=>exact⟨Cd (k:=4000) _ ae,by rw[c];exact KM 4000 af⟩
 ·rw[zl,zu]at e;exact⟨Cd (k:=4000) _ ae,Cd (k:=4000) _ ae⟩
theorem XL{q:Rat}:Am (A6 q)=if Py q=true then 4 else 0:=by
 obtain⟨i,o,j⟩:=Hq q;obtain⟨p1,p2,p3,p4⟩:=TG<|A6 q;obtain⟨i1,i2,i3,i4⟩:=Ea q.num;have c:AA (A2<|A6 q)=zh q.num.natAbs:=by rw[p1,i,i2]
 have d:AS (A2<|A6 q)=if q.den=1 then[]else zh q.den:=by rw[p2,o]
 have g:Bq (A2<|A6 q)=decide (q.den≠1):=by rw[p3,j]
 have m:preB (A6 q)=decide (q.num<0):=by rw[<-p4,i,i3]
 have a:∀n:Nat,zh n=[48]->n=0:=fun n h=>by
  have:=HZ n;rw[h]at this;have:(0:Int)=n:=this;omega
 have b:∀n:Nat,zh n=[49]->n=1:=fun n h=>by
  have:=HZ n;rw[h]at this;have:(1:Int)=n:=this;omega
 have r:=q.den_pos;have l:Gt (A6 q)=true:=by
  unfold Gt;rw[c,d,g,m,U9,yt,zd];refine⟨?_,?_⟩
  ·by_cases h:q.num<0
   ·have z:zh q.num.natAbs≠[48]:=fun k=>by have:=a _ k;omega
    rw[w4 h,w4 z];rfl
   ·rw[w8 h];rfl
  ·by_cases h:q.den=1
   ·rw[w8<|not_not_intro h];rfl
   ·have z:zh q.den≠[48]:=fun k=>by have:=a _ k;omega
    have y:zh q.den≠[49]:=fun k=>h<|b _ k
    rw[w4 h,wc h,U9,w4 z,w4 y];rfl
 unfold Am;rw[wc (by rw[l];decide),c,d,g];have f:Py q=true↔600<(zh q.num.natAbs).length\/600<(if q.den=1 then([]:Z)else zh q.den).length:=by
  unfold Py QO;rw[Bool.or_eq_true,w5,w5,zm];by_cases h:q.den=1
  ·rw[wd h,h,qc<|show 1<10 by decide];simp
  ·rw[wc h]
 by_cases h:Py q=true
 ·rw[wd<|f.1 h,wd h]
 ·rw[wc<|fun k=>h<|f.2 k,wc h];refine wc fun k=>?_
  obtain⟨e,p⟩:=k;have e:q.den≠1:=w6 e;apply p;unfold tY tH;rw[c,d,wc e,HZ,HZ,F8];have hr:=q.reduced;have:qf ((q.num.natAbs:Nat):Int) (q.den:Int)=1:=hr;rw[this];rfl
theorem Ju(q:Rat):Ey (A6 q)=Mo q.num:=by
 have h0:A6 q=[48]↔q=0:=by
  have:A6 (0:Rat)=[48]:=by
   unfold A6;rw[wd<|show Rat.den 0=1 from rfl];show z7 0=[48];unfold z7;rw[wc af,show(0:Int).toNat=0 from rfl,qc af];rfl
  rw[<-this];exact⟨cZ,fun h=>by rw[h]⟩
 unfold Ey Mo;by_cases a:q=0
 ·rw[wd<|h0.2 a,a];rfl
 ·rw[wc<|fun h=>a<|h0.1 h];have e:q.num≠0:=fun h=>a<|qh.mp h
  have b:(A6 q).getD 0 0=(z7 q.num).getD 0 0:=by
   unfold A6;split
   ·rfl
   ·have:z7 q.num≠[]:=by unfold z7;split;exact List.cons_ne_nil _ _;exact Wy _
    cases d:z7 q.num with
    |nil=>exact wh d this
    |cons c r=>rfl
  rw[b];unfold z7;by_cases h:q.num<0
  ·rw[wd h,wd h];rfl
  ·rw[wc h,wc h,wc<|FV<|D0 _,wd ae]
theorem VO(n:Int)(h:n≠0):z7 (-n)=if n<0 then(z7 n).drop 1 else 45::z7 n:=by
 unfold z7;by_cases c:n<0
 ·rw[wc ae,wd c,wd c,show(-n).toNat=n.natAbs by omega];rfl
 ·rw[wd ae,wc c,wc c,show(-n).natAbs=n.toNat by omega]
theorem kP(q:Rat):Lm (A6 q)=A6 (-q):=by
 have a:=Ju q;unfold Ey at a;unfold Lm;by_cases h0:A6 q=[48]
 ·rw[wd h0]at a ⊢;have:q.num=0:=by
   unfold Mo at a;split at a
   ·exact wh a af
   ·split at a
    ·exact wh a af
    ·omega
  have:q=0:=qh.mp this;rw[this];rfl
 ·rw[wc h0]at a ⊢;have b:q.num≠0:=by
   intro h;rw[h]at a;split at a<;>exact wh a af
  have e:A6 (-q)=if q.num<0 then(A6 q).drop 1 else 45::A6 q:=by
   unfold A6;rw[ji,jj,VO _ b];by_cases c:q.num<0
   ·rw[wd c,wd c];have:z7 q.num=45::zh q.num.natAbs:=by unfold z7;rw[wd c]
    rw[this];split<;>rfl
   ·rw[wc c,wc c];split<;>rfl
  rw[e];unfold Mo at a;by_cases c:q.num<0
  ·rw[wd c]at a ⊢;split at a
   ·next k=>rw[wd k]
   ·exact wh a af
  ·rw[wc c,wd<|show q.num>0 by omega]at a;rw[wc c];split at a
   ·exact wh a af
   ·next k=>rw[wc k]
open Go.Lib
theorem Mu:∀(f n l:Nat) (a:Z),l<=a.length->n<10^f->HV f n l a=if n=0 then a else decDigits n++a
 |0,n,l,a,_,b=>by rw[Nat.pow_zero]at b;rw[wd ae];rfl
 |f+1,n,l,a,d,b=>by
  rw[qk]at b;unfold HV;by_cases h:n=0
  ·rw[wd ⟨h,d⟩,wd h]
  ·rw[wc<|fun k=>h k.1,wc h,Mu f (n/10) l _ (by rw[zu];omega) ae];by_cases c:n/10=0
   ·rw[wd c,decDigits_one ae,show n % 10=n by omega];rfl
   ·have e:=Gk (n/10) (n % 10) ae ae;rw[show 10*(n/10)+n % 10=n by omega]at e;rw[wc c,e,y9];rfl
theorem nH{d:Nat}(h:d<10):Gn 1 d=[zw<|48+d]:=by
 unfold Gn;rw[nDigits_small h,decDigits_one h];rfl
theorem UI:∀(k f n l:Nat) (a:Z),a.length+(k+1)=l->n<10^(k+1)->k+1<=f->HV f n l a=Gn (k+1) n++a
 |k,0,n,l,a,_,_,h=>by omega
 |0,f+1,n,l,a,c,b,_=>by
  unfold HV;rw[wc ae,nH ae,Mu f (n/10) l _ (by rw[zu];omega) (by rw[show n/10=0 by omega];exact Nat.pow_pos af),wd ae,show n % 10=n by omega];rfl
 |k+1,f+1,n,l,a,c,b,d=>by
  rw[qk]at b;have e:=Rw (k+1) (n/10) (n % 10) ae ae;rw[show 10*(n/10)+n % 10=n by omega]at e;unfold HV;rw[wc ae,UI k f (n/10) l _ (by rw[zu];omega) ae ae,e,y9];rfl
theorem Px{n:Int}(h0:0<=n)(a:n<9223372036854775808):Il n 1=decDigits n.toNat:=by
 show HV 64 n.toNat 1 []=_;unfold HV;rw[wc<|by simp];rw[Mu 63 (n.toNat/10) 1 _ (by simp) ae];by_cases h:n.toNat<10
 ·rw[wd ae,decDigits_one h,show n.toNat % 10=n.toNat by omega]
 ·have e:=Gk (n.toNat/10) (n.toNat % 10) ae ae;rw[show 10*(n.toNat/10)+n.toNat % 10=n.toNat by omega]at e;rw[wc ae,e]
theorem aU{n:Int}(h0:0<=n)(a:n<1000000000):Il n 9=Gn 9 n.toNat:=by
 show HV 64 n.toNat 9 []=_;rw[UI 8 64 n.toNat 9 [] rfl ae af,List.append_nil]
def Dp(n d:Int):Z:=A6<|z6 n d
theorem bL(n:Int):itoa n=(if n<0 then[45]else[])++decDigits n.natAbs:=by
 unfold itoa;split
 ·rfl
 ·rw[show n.toNat=n.natAbs by omega];rfl
def vR(a:Bool×List Int):Int:=if a.1=true then -Au a.2 else Au a.2
def CW(a:Bool×List Int):Bool:=Ba a.2&&decide (a.2.length<=3000)&&(!a.1||decide (a.2≠[]))
def Ia(l:List Int)(i:Int):Int:=l.getD i.toNat 0
def pV(a b:List Int):Bool:=Ba a&&Ba b&&decide (a.length<=9000)&&decide (b.length<=9000)
def QC(a b:List Int):List Int:=B5<|Au a+Au b
def IS(a b:List Int):List Int:=B5<|Au a-Au b
def Nw(a b:Bool×List Int):Bool:=rN<|vR a+vR b
def Nb(a b:Bool×List Int):List Int:=rW<|vR a+vR b
def HG(a b:Bool×List Int):Bool:=rN<|vR a*vR b
def HF(a b:Bool×List Int):List Int:=rW<|vR a*vR b
def S5(a:Bool×List Int):Bool:=rN<| -vR a
def Tf(a:Bool×List Int):List Int:=rW<| -vR a
def GF(a:Bool×List Int):Z:=AZ<|vR a
def Ij(n d:Bool×List Int):Z:=Dp (vR n)<|vR d
def fE(a:Z):Int:=if D4 a=true then Ja a else 0
def VP(a:Z):Int:=if D4 a=true then SS a else 0
def FJ(a b:Z):Z:=A6<|Az a+Az b
def LB(a b:Z):Z:=A6<|Az a-Az b
def Q1(a b:Z):Z:=A6<|Az a*Az b
def qJ(a:Z):Z:=A6 (Az a)⁻¹
def E0(a b:Z):Int:=if Az a<Az b then -1 else if Az b<Az a then 1 else 0
def EE(a:Z):Bool:=B4 a&&decide (a.length<=3000)
def nzT(a:Z):Bool:=EE a&&decide (Az a≠0)
end Go.Sp
namespace Go.Pe
open Sp
open Go.Det
def WI:An:=⟨[li,i64],fun i=>decide (0<=(i.2:Int)),[i64],fun i=>Ia i.1 i.2,false⟩
def WR:An:=⟨[li,li],fun i=>pV i.1 i.2,[li],fun i=>QC i.1 i.2,false⟩
def Xm:An:=⟨[li,li],fun i=>pV i.1 i.2&&decide (Au i.2<=Au i.1),[li],fun i=>IS i.1 i.2,false⟩
def mP:An:=⟨[JR,JR],fun i=>CW i.1&&CW i.2,[JR],fun i=>(Nw i.1 i.2,Nb i.1 i.2),false⟩
def ZO:An:=⟨[JR,JR],fun i=>CW i.1&&CW i.2,[JR],fun i=>(HG i.1 i.2,HF i.1 i.2),false⟩
def Zh:An:=⟨[JR],fun a=>CW a,[JR],fun a=>(S5 a,Tf a),false⟩
def T8:An:=⟨[JR],fun a=>CW a,[.str],fun a=>GF a,false⟩
def MF:An:=⟨[JR,JR],fun i=>CW i.1&&CW i.2&&decide (Sp.vR i.2≠0),[.str],fun i=>Ij i.1 i.2,false⟩
def mU:An:=⟨[i64,i64],fun i=>CG i.1&&CG i.2&&decide ((i.2:Int)≠0),[.str],fun i=>Dp i.1 i.2,false⟩
def N4:An:=⟨[.str],fun s=>B4 s,[i64,i64,.bool],fun s=>(fE s,VP s,D4 s),false⟩
def VL:An:=⟨[.str,.str],fun i=>B4 i.1&&B4 i.2,[.str],fun i=>FJ i.1 i.2,false⟩
def fW:An:=⟨[.str,.str],fun i=>B4 i.1&&EE i.2,[.str],fun i=>LB i.1 i.2,false⟩
def UJ:An:=⟨[.str,.str],fun i=>B4 i.1&&B4 i.2,[.str],fun i=>Q1 i.1 i.2,false⟩
def yU:An:=⟨[.str],fun s=>Sp.nzT s,[.str],fun s=>qJ s,false⟩
def Wg:An:=⟨[.str,.str],fun i=>B4 i.1&&EE i.2,[i64],fun i=>E0 i.1 i.2,false⟩
def XR0:AT:=X7 []
def Wl:AT:=X7 [(195,WI),(193,Sr)]
def XR2:AT:=X7 [(155,IY),(156,WR),(157,Zb),(158,Xm),(159,Zl),(154,RT)]
def XR3:AT:=X7 [(99,O4)]
def pU:AT:=YT [(93,[3,7,9])] [] [(93,[(3,[2,3]),(7,[8,10]),(9,[8,10])])] [(153,Zh),(130,Lc),(154,RT),(155,IY),(96,T8)]
def eE:AT:=YT [(40,[3,5,7,11])] [] [(40,[(3,[0,1]),(5,[0,1]),(7,[0,1]),(11,[1,6])])] [(97,H3),(93,MF),(98,zL),(99,O4)]
def zI:AT:=YT [(33,[5]),(34,[5])] [] [(33,[(5,[0,1])]),(34,[(5,[0,1])])] [(91,N4),(40,mU),(92,Sy),(94,mP),(95,ZO),(93,MF)]
def XR7:AT:=X7 [(147,yU),(34,UJ),(33,VL),(84,lU)]
def XR8:AT:=X7 [(37,fW),(38,MS),(128,PE),(144,Zr),(145,jB),(146,ZJ)]
def X9:An:=⟨[],fun _=>true,[.bool],fun _=>true,false⟩
theorem nZ:Af A9 8 X9:=by
 refine .of0 ⟨by kernel_rfl,Be ag,fun F h args i c d b a _=>?_⟩;have g:args=[]:=by
  have:=a (fun _=>none) 0;simpa [Ae,X9]using this
 subst g;refine⟨[(.bool true,h)],1,fun m k=>?_,fun _=>⟨_,rfl⟩,fun x f=>?_⟩
 ·obtain⟨e,rfl⟩:∃e,m=e+1:=⟨m-1,by omega⟩;have j:A9.spec 8=some fun args h=>bif xC h Gr then(match IN A7 8 args with|some v=>some (v,h)|none=>none)else none:=rfl
  rw[Bl];simp only[j,Abb b,we];rfl
 ·cases yx.1 f;exact⟨yg _,fun _ _=>rfl,d,F,fun _ _ h=>h,fun _ _ h=>.inl h,c,fun ρ N=>D2 _⟩
end Go.Pe
namespace Go.Sp
def Oz(a:AG):Int:=if Bv (Ag<|vI a)=[]then 0 else 64*((Bv<|Ag<|vI a).length-1)+Fo ((Bv<|Ag<|vI a).getD ((Bv<|Ag<|vI a).length-1) 0)
def Er(a:AG):Bool:=QO<|vI a
def IP(a:Aj):Bool:=Er a.1||Er a.2
def J3(a:Aj):Z:=if C4 a.2=true then AZ (vI a.1)else AZ (vI a.1)++47::AZ (vI a.2)
def ON(a:Aj):Z:=if IP a=true then[]else J3 a
def Qw(a:Aj):Int:=if IP a=true then 4 else 0
def Cw:List Z->Int
 |[]=>0
 |s::l=>if Am s≠0 then Am s else Cw l
def P0(a:Aj):Int:=Mo<|vI a.1
def NA(a b:Z):Int:=Cw [a,b]
def jH(e:Int)(q:Rat):Z:=if e≠0 then[]else if Py q=true then[]else A6 q
def pC(e:Int)(q:Rat):Int:=if e≠0 then e else if Py q=true then 4 else 0
end Go.Sp
namespace Go.Pe
open Sp
open Go.Det
def kU:An:=⟨[AY],fun a=>Bb a,[i64],fun a=>Oz a,false⟩
def Yb:An:=⟨[AY],fun a=>Bb a,[.bool],fun a=>Er a,false⟩
def TW:An:=⟨[.str,.str],fun i=>R6 i.1 i.2,[.str],fun i=>A2 i.1,false⟩
def YM:An:=⟨[AB],fun a=>Sp.De (a:Aj),[.bool],fun a=>IP a,false⟩
def lT:An:=⟨[AB],fun a=>Sp.De (a:Aj),[.str],fun a=>J3 a,false⟩
def Yq:An:=⟨[AB],fun a=>Sp.De (a:Aj),[.str,i64],fun a=>(ON a,Qw a),false⟩
def Y8:An:=⟨[.list .str],fun l=>decide (yz (α:=Z) l<=1000)&&List.all (α:=Z) l (fun s=>decide (s.length<=1000000)),[i64],fun l=>Cw l,false⟩
def gA:An:=⟨[AB],fun a=>j6 (a:Aj).1,[i64],fun a=>P0 a,false⟩
def XX0:AT:=X7 []
def XX1:AT:=X7 [(179,OO),(228,X1)]
def Acl:AT:=X7 [(210,kU),(185,Aa6),(174,TW)]
def XX2:AT:=X7 [(184,Yb),(138,Ou),(185,Aa6)]
def XX3:AT:=X7 [(122,EH),(161,KO)]
end Go.Pe
namespace Go.Sp
abbrev BB:=Z×Z
def Ej:Option BB->List BB->Int
 |_,[]=>0
 |o,p::l=>if NA p.1 p.2≠0 then NA p.1 p.2 else match o with
  |some q=>if E0 p.1 q.1<=0 then 11 else Ej (some p) l
  |none=>Ej (some p) l
def BV(t:List BB):Int:=if t=[]then 12 else if 64<t.length then 5 else Ej none t
def E8(s:Z):Aj:=((VQ s,Vx s),(TT s,Sv s))
def EI(p:BB):Aj×Aj:=(E8 p.1,E8 p.2)
def Ul(t:List BB):List (Aj×Aj):=if BV t≠0 then[]else t.map EI
def JP(k:Nat)(t:List BB):Bool:=t.all fun p=>decide (p.1.length<=k)&&decide (p.2.length<=k)
end Go.Sp
namespace Go.Pe
open Sp
open Go.Det
abbrev CS:Sh:=.pair .str .str
abbrev Yy:Sh:=.pair AB AB
def YY:An:=⟨[.list CS],fun l=>decide (yz (α:=BB) l<=1000)&&JP 1000000 l,[.list Yy,i64],fun l=>(Ul l,BV l),false⟩
def Lz:An:=⟨[.list CS],fun l=>decide (yz (α:=BB) l<=1000)&&JP 1000000 l,[i64],fun l=>BV l,false⟩
def XT1:AT:=X7 [(168,GY),(169,Ib),(171,Y8),(55,Nj),(56,Uo)]
def XT2:AT:=X7 [(123,YY)]
def XT4:AT:=X7 [(62,EH),(36,Wg)]
end Go.Pe
namespace Go.Sp
theorem oG(q:Rat):Sa (A6 q)=zh q.den:=by
 obtain⟨_,a,b⟩:=Hq q;unfold Sa;rw[a,b];by_cases h:q.den=1
 ·rw[wc (by simpa using h),h,qc af];rfl
 ·rw[wd<|w4 h,wc h]
theorem ZQ(a b:Z):NA a b=if Am a≠0 then Am a else Am b:=by
 show(if Am a≠0 then Am a else if Am b≠0 then Am b else 0)=_;by_cases h:Am a≠0
 ·rw[wd h,wd h]
 ·rw[wc h,wc h];by_cases k:Am b≠0
  ·rw[wd k]
  ·rw[wc k];omega
theorem JA{a b:Z}(h:NA a b=0):Am a=0/\Am b=0:=by
 rw[ZQ]at h;by_cases k:Am a≠0
 ·rw[wd k]at h;exact wh h k
 ·rw[wc k]at h;exact⟨by omega,h⟩
theorem N6{s:Z}(h:EE s=true):B4 s=true/\s.length<=3000:=by
 unfold EE at h;rwa [zd,w5]at h
theorem Abo{s:Z}(h:nzT s=true):EE s=true/\Az s≠0:=by
 unfold nzT at h;rwa [zd,w5]at h
theorem Vo{q:Rat}{k:Nat}(h:Gm k q)(a:k<=400000):(A6 q).length<=1000000:=by
 have:=Qh (h.mono<|show k<=k+1 by omega) ae;omega
end Go.Sp
