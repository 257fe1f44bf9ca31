import Derived.Test.YtlohiljbghionaaGreatDoorX11
import Derived.Test.YtlohiljbghionaaGreatDoorX12
import Derived.Test.YtlohiljbghionaaGreatDoorX07
import Derived.Test.YtlohiljbghionaaGreatDoorX09
/- A part of a proof (no law is stated here). Made by program out of texts by AI agents. -/
noncomputable section
open Go.Pe.Ends renaming tt -> zc, leaf -> ze, ite -> zi, Ah -> zj, ff -> zq, eq -> yd
open Bool renaming and_eq_true -> zd, true_and -> yk
open Go.Sp renaming vI -> zf, AS -> zp, B9 -> qh, gI -> jf, CS -> jm, first -> jt, preB -> jz, C6 -> j5, val -> j9
open Go.IntKind renaming wrap -> zg, u64 -> jj
open Int renaming toNat_natCast -> zh, natAbs_natCast -> zm, mul_le_mul_of_nonneg_left -> zn, lt_of_lt_of_le -> zo, le_of_lt -> zw, lt_of_le_of_lt -> zx, mul_le_mul_of_nonneg_right -> z8, ne_of_gt -> ye, eq_ofNat_of_zero_le -> yo, natAbs_mul -> yt, toNat -> yu, pow_succ -> y7, le_trans -> qi, gcd -> qj, mul_nonneg -> ql, tdiv_eq_ediv_of_nonneg -> qn, tmod_eq_emod_of_nonneg -> qo, natAbs_ediv_le_natAbs -> qu, mul_pos -> qw, mul_one -> qx, ediv_eq_iff_of_pos -> q9, sign_eq_one_of_pos -> jc, le_refl -> jg, mul_comm -> j0, gcd_comm -> j6, ediv_one -> j7
open List renaming length_append -> zk, length_drop -> zt, length_cons -> zu, all_cons -> zz, length_take -> ya, length_eq_zero_iff -> yb, take_of_length_le -> yc, getD_eq_getElem?_getD -> yh, getElem?_eq_getElem -> yj, take_length -> ym, map -> yp, length_map -> yv, mem_singleton -> yx, length -> yz, take_succ_eq_append_getElem -> y8, append_assoc -> y9, findIdx?_cons -> qm, all_eq_true -> qy, reverse_singleton -> je, take -> jl
open Go.Lib renaming decDigits -> zl, itoa -> zy, decDigits_length -> yi, decDigits_one -> qc
open Rat renaming num_divInt_den -> zr, divInt -> z6, divInt_add_divInt -> qd, num_eq_zero -> qg, num_divInt -> qp, den_divInt -> qq, neg_num -> jh, neg_den -> ji
open UInt8 renaming ofNat -> z7, toNat -> yg, toNat_inj -> yr
open Nat renaming le_refl -> yf, zero_le -> yq, eq_zero_or_pos -> yw, lt_of_le_of_lt -> yy, ble_eq_true_of_le -> qe, pow_le_pow_right -> qf, pow_succ -> qk, lt_of_lt_of_le -> qt, le_trans -> qz, sub -> jo, ble -> j8
open Go.Pe.Ad renaming of -> yn
open Classical renaming byContradiction -> qv
open Go.Pe.Obj renaming tbox -> jk
namespace Go.Pe
open Sp
open Go.Det
theorem uZ:C9 Q8:=
 Aa T106n.ok (Aa T176.ok<|Aa T127.ok<|Aa T139.ok<|Aa T143.ok<|Aa (Hq (by kernel_rfl)<|Bb<|by kernel_rfl)<|Aa (Hq (by kernel_rfl)<|Bb<|by kernel_rfl) AI)
theorem Ty(k:Nat):E2 18 (k:Int)=((min 18 k:Nat):Int):=by unfold E2;split<;>omega
theorem yY(n:Int):zg .u8 n=n % 256:=by simp[zg,IntKind.bits,IntKind.signed]
theorem kP(k:Nat):(10:Int)^k<=(Ao:Int)^k:=by
 induction k with
 |zero=>exact jg _
 |succ k c=>
  rw[y7,y7];have d:=z8 c (show(0:Int)<=10 by decide);have a:=zn (show(10:Int)<=(Ao:Int)by decide) (zw<|AR (b:=Ao) (by decide) k);exact qi d a
theorem GR{n:Int}(h0:0<=n)(h:n<(10:Int)^(6000:Nat)):Bc (Dc n)=true:=by
 refine D5 ?_;have c:=kP 6000;have a:(Ao:Int)^6000<=(Ao:Int)^9000:=AL (by decide) (by decide);have b:Ag n=n:=by rw[Aj];omega
 rw[b];exact zo h<|qi c a
theorem N7(m n:Int):Fm (C1 m,C0 m) (C1 n,C0 n)=C1 (m*n)/\FB (C1 m,C0 m) (C1 n,C0 n)=C0 (m*n):=by
 constructor
 ·show C1 (zf (Dc _)*zf (Dc _))=_;rw[CF,CF]
 ·show C0 (zf (Dc _)*zf (Dc _))=_;rw[CF,CF]
theorem sS{a b:AG}(h:0<=zf a+zf b):ER a b=Dc (zf a+zf b):=by
 unfold ER;split
 ·next c=>
  have:=EK c.2.2;rw[Bo c.1,Bo c.2.1]at h ⊢;exact(Ce<|by omega).symm
 ·rfl
theorem Oy{m v:Int}(f:0<=m)(e:0<=v):Kd (C1 m,C0 m) (v,CW v)=C1 (m+v)/\Kf (C1 m,C0 m) (v,CW v)=C0 (m+v):=by
 have c:zf (C1 m,C0 m)=m:=CF m;have d:zf (v,CW v)=v:=by rw[EH,E8]
 have:=sS (a:=(C1 m,C0 m)) (b:=(v,CW v)) (by rw[c,d];omega);rw[c,d]at this;exact⟨wi Prod.fst this,wi Prod.snd this⟩
theorem Ou(n:Nat):VQ ((10:Int),CW (10:Int)) (n:Int)=C1 (10^n)/\U8 ((10:Int),CW (10:Int)) (n:Int)=C0 (10^n):=by
 have e:Sp.pI (zf ((10:Int),CW (10:Int))) (n:Int)=10^n:=by rw[S1,EH,E8,zh]
 unfold VQ U8;rw[e];exact⟨rfl,rfl⟩
theorem pC:Bc ((10:Int),CW (10:Int))=true:=by rw[EH];decide
theorem fP{n:Nat}(h:n<=18):qD (zf ((10:Int),CW (10:Int))) (n:Int)=true:=by
 unfold qD;have e:Sp.pI (zf ((10:Int),CW (10:Int))) (n:Int)=10^n:=by rw[S1,EH,E8,zh]
 rw[e];have a:(10:Int)^n<=10^18:=AL (by decide) h;have h0:(0:Int)<10^n:=AR (by decide) n;have b:(10:Int)^18<18446744073709551616^1:=by decide
 have d:(18446744073709551616:Int)^(1:Nat)<=18446744073709551616^(4000:Nat):=AL (by decide) (by decide);have c:Ag ((10:Int)^n)=10^n:=by rw[Aj];omega
 rw[c];exact Ab (ad (by omega)<|by omega)<|w4<|zx a<|zo b d
theorem Wg{v:Int}(h0:0<=v)(h:v<1000000000000000000):Bc (v,CW v)=true:=by
 rw[EH];unfold Bc;exact Ab (Lc<|D7 (by omega)<|by omega)<|w4<|yq _
theorem Zr{w:Z}(a:Ap w=true)(h:w.length<=18):0<=AE 0 w/\AE 0 w<1000000000000000000:=by
 have:=Bg a;have b:(10:Int)^w.length<=10^18:=AL (by decide) h;have c:(10:Int)^18=1000000000000000000:=by decide
 omega
namespace T126
variable {Q:PV->Ob->Prop}
theorem Cz(W:Z)(neg:Bool)(z:Int)(h:List Int)(A:Int)(w:Z)(n:Nat)(k:w=W.take n)(hW:Ap W=true)(B:n=min 18 W.length)(E:1<=W.length)(a f:Int)(a0:0<=a)(x:Bc (Dc a)=true)(m:Bc (Dc<|a*10^n)=true)
  (o:Ends Q8 (L5 (W.drop n) neg (C1<|a*10^n+AE 0 w) (C0<|a*10^n+AE 0 w) f) Q):
  ∀(r:Z) (j:Nat),w.drop j=r->j<=w.length->Ends Q8 (L7 W neg z h A w (AE 0<|w.take j) w.length w.length j (w.map fun b=>(b.toNat:Int)) (C1 a) (C0 a) f) Q
 |[],j,hr,l=>by
  have e:Ap w=true:=by rw[k];exact Bh hW n
  have g:w.length=n:=by rw[k,ya];omega
  have M:j=w.length:=drop_nil hr l;subst M;have p:=Zr e (by omega);obtain⟨c,t,K⟩:∃c t,w=c::t:=by
   cases w with
   |nil=>simp at g;omega
   |cons c t=>exact⟨c,t,rfl⟩
  have u:((((w.getD 0 0).toNat:Int)==(45:Int))=false):=by
   rw[K]at e ⊢;unfold Ap at e;rw[zz,zd]at e;have:=Dg e.1;unfold Ih at this;show(((c.toNat:Int)==(45:Int))=false);simp;omega
  have G:(W.drop n).take (jo W.length n)=W.drop n:=yc (by rw[zt];exact yf _);have p0:0<=a*10^n:=ql a0 (zw<|AR (by decide) n);have L:Bc (C1<|10^n,C0<|10^n)=true:=by
   refine Gj (GR (n:=(10:Int)^n) (zw<|AR (by decide) n) ?_);have O:(10:Int)^n<=10^18:=AL (by decide) (by omega);have C:(10:Int)^18<10^19:=by decide
   have J:(10:Int)^19<=10^(6000:Nat):=AL (by decide) (by decide);exact zx O<|zo C J
  refine zj (D1 ..) (zq (by simp)<|zc (w4<|by omega) ?_);rw[u,Ty, <-B,(Ou n).1,(Ou n).2,ym];refine zq rfl (zc rfl (zc (Ab pC<|fP<|by omega)<|zc (Ab x L)<|zc rfl ?_));rw[(N7 _ _).1,(N7 _ _).2,(Oy p0 p.1).1,(Oy p0 p.1).2,zh,G];exact zc (Ab m<|Wg p.1 p.2) (zc (by simp;omega) o)
 |c::r,j,hr,l=>by
  have e:Ap w=true:=by rw[k];exact Bh hW n
  have g:w.length=n:=by rw[k,ya];omega
  obtain⟨v,S,F⟩:=drop_cons (d:=0) hr;have s:B4 c=true:=by
   unfold Ap at e;rw[qy]at e;exact e c<|Pp hr
  have R:=Dg s;have q:(w.take j).length=j:=by rw[ya];omega
  have H:=Bg<|Bh e j;rw[q]at H;have hp:(10:Int)^j<=10^17:=AL (by decide) (by omega);have y:(10:Int)^17=100000000000000000:=by decide
  have I:(w.map fun b=>(b.toNat:Int)).getD j 0=(c.toNat:Int):=by
   rw[yh,List.getElem?_map,yj v];have:w[j]=c:=by rw[<-S,yh,yj v];rfl
   rw[this];rfl
  have T:zg .u8 ((c.toNat:Int)-48)=Ih c:=by
   rw[yY];unfold Ih at R ⊢;omega
  have P:zg .i64 (zg .i64 (AE 0 (w.take j)*10)+zg .i64 (Ih c))=AE 0 (w.take<|j+1):=by
   rw[Nd hr,C2];show _=10*AE 0 (w.take j)+Ih c;generalize AE 0 (w.take j)=D at*;rw[wr (D*10) (by omega) (by omega),wr (Ih c) (by omega) (by omega),wr _ (by omega)<|by omega];omega
  have N:=wn (i:=j) (by omega);refine zj (D1 ..) (zc (by simp;omega) ?_);rw[zh,I,T,P,N];refine zc (by simp;omega) (zc (by simp;omega)<|zq (w8<|by omega) ?_);exact Cz W neg z h A w n k hW B E a f a0 x m o r (j+1) F v
theorem Dm(W:Z)(neg:Bool)(y:Int)(z:Int)(w:Z)(n:Nat)(h:w=W.take n)(hW:Ap W=true)(A:n=min 18 W.length)(E:1<=W.length)(a f:Int)(s:a=0)(a0:0<=a)(C:Bc (Dc a)=true)(l:Bc (Dc<|a*10^n)=true)
  (m:Ends Q8 (L5 (W.drop n) neg (C1<|a*10^n+AE 0 w) (C0<|a*10^n+AE 0 w) f) Q):
  ∀(r:Z) (j:Nat),w.drop j=r->j<=w.length->Ends Q8 (L3 W neg y z w (AE 0<|w.take j) w.length w.length j (w.map fun b=>(b.toNat:Int)) 0 f) Q
 |[],j,hr,k=>by
  have e:Ap w=true:=by rw[h];exact Bh hW n
  have g:w.length=n:=by rw[h,ya];omega
  have M:j=w.length:=drop_nil hr k;subst M;have o:=Zr e (by omega);obtain⟨c,t,K⟩:∃c t,w=c::t:=by
   cases w with
   |nil=>simp at g;omega
   |cons c t=>exact⟨c,t,rfl⟩
  have u:((((w.getD 0 0).toNat:Int)==(45:Int))=false):=by
   rw[K]at e ⊢;unfold Ap at e;rw[zz,zd]at e;have:=Dg e.1;unfold Ih at this;show(((c.toNat:Int)==(45:Int))=false);simp;omega
  have G:(W.drop n).take (jo W.length n)=W.drop n:=yc (by rw[zt];exact yf _);have p0:0<=a*10^n:=ql a0 (zw<|AR (by decide) n);have L:Bc (C1<|10^n,C0<|10^n)=true:=by
   refine Gj (GR (n:=(10:Int)^n) (zw<|AR (by decide) n) ?_);have O:(10:Int)^n<=10^18:=AL (by decide) (by omega);have B:(10:Int)^18<10^19:=by decide
   have J:(10:Int)^19<=10^(6000:Nat):=AL (by decide) (by decide);exact zx O<|zo B J
  refine zj (B5 ..) (zq (by simp) (zc (w4<|by omega) ?_));rw[u,Ty, <-A,(Ou n).1,(Ou n).2,ym];refine zq rfl (zc rfl (zc (Ab pC<|fP<|by omega)<|zc (Ab (show Bc ((0:Int),[])=true by decide) L)<|zc rfl ?_));rw[show Fm ((0:Int),[]) (C1<|10^n,C0<|10^n)=C1 (a*10^n)by rw[s];exact(N7 0 _).1,show FB ((0:Int),[]) (C1<|10^n,C0<|10^n)=C0 (a*10^n)by rw[s];exact(N7 0 _).2,(Oy p0 o.1).1,(Oy p0 o.1).2,zh,G];exact zc (Ab l<|Wg o.1 o.2) (zc (by simp;omega) m)
 |c::r,j,hr,k=>by
  have e:Ap w=true:=by rw[h];exact Bh hW n
  have g:w.length=n:=by rw[h,ya];omega
  obtain⟨v,S,F⟩:=drop_cons (d:=0) hr;have q:B4 c=true:=by
   unfold Ap at e;rw[qy]at e;exact e c<|Pp hr
  have R:=Dg q;have p:(w.take j).length=j:=by rw[ya];omega
  have H:=Bg<|Bh e j;rw[p]at H;have hp:(10:Int)^j<=10^17:=AL (by decide) (by omega);have x:(10:Int)^17=100000000000000000:=by decide
  have I:(w.map fun b=>(b.toNat:Int)).getD j 0=(c.toNat:Int):=by
   rw[yh,List.getElem?_map,yj v];have:w[j]=c:=by rw[<-S,yh,yj v];rfl
   rw[this];rfl
  have T:zg .u8 ((c.toNat:Int)-48)=Ih c:=by
   rw[yY];unfold Ih at R ⊢;omega
  have P:zg .i64 (zg .i64 (AE 0 (w.take j)*10)+zg .i64 (Ih c))=AE 0 (w.take<|j+1):=by
   rw[Nd hr,C2];show _=10*AE 0 (w.take j)+Ih c;generalize AE 0 (w.take j)=D at*;rw[wr (D*10) (by omega) (by omega),wr (Ih c) (by omega) (by omega),wr _ (by omega)<|by omega];omega
  have N:=wn (i:=j) (by omega);refine zj (B5 ..) (zc (by simp;omega) ?_);rw[zh,I,T,P,N];refine zc (by simp;omega) (zc (by simp;omega) (zq (w8<|by omega) ?_));exact Dm W neg y z w n h hW A E a f s a0 C l m r (j+1) F v
theorem tH(W:Z)(neg:Bool)(o1:Int)(d:List Int)(f:Int)(hW:Ap W=true)(k:1<=W.length)(n:Nat)(j:n=min 18 W.length)
  (h:Ends Q8 (L7 W neg o1 d f (W.take n) 0 (W.take n).length (W.take n).length 0 ((W.take n).map fun b=>(b.toNat:Int)) o1 d f) Q):Ends Q8 (L5 W neg o1 d f) Q:=by
 have e:(W.take n).length=n:=by rw[ya];omega
 have a:=Bh hW n;have g:((((W.take n).getD 0 0).toNat:Int)==(45:Int))=false/\((((W.take n).getD 0 0).toNat:Int)==(43:Int))=false:=by
  cases i:W.take n with
  |nil=>rw[i]at e;simp at e;omega
  |cons c t=>
   rw[i]at a;unfold Ap at a;rw[zz,zd]at a;have:=Dg a.1;unfold Ih at this;show(((c.toNat:Int)==(45:Int))=false)/\(((c.toNat:Int)==(43:Int))=false);constructor<;>(simp;omega)
 refine zj (EG ..) (zc (by simp;omega) ?_);rw[Ty, <-j,zh,g.1,g.2];exact zc (by simp;omega) (zc (w4<|by omega) (zc (w4<|by omega)<|zc (w4<|by omega) (zq rfl (zc (w4<|by omega)<|zq rfl h))))
theorem tK(W:Z)(neg:Bool)(o1:Int)(e:Int)(hW:Ap W=true)(j:1<=W.length)(n:Nat)(i:n=min 18 W.length)
  (h:Ends Q8 (L3 W neg o1 e (W.take n) 0 (W.take n).length (W.take n).length 0 ((W.take n).map fun b=>(b.toNat:Int)) o1 e) Q):Ends Q8 (L1 W neg o1 e) Q:=by
 have d:(W.take n).length=n:=by rw[ya];omega
 have a:=Bh hW n;have f:((((W.take n).getD 0 0).toNat:Int)==(45:Int))=false/\((((W.take n).getD 0 0).toNat:Int)==(43:Int))=false:=by
  cases g:W.take n with
  |nil=>rw[g]at d;simp at d;omega
  |cons c t=>
   rw[g]at a;unfold Ap at a;rw[zz,zd]at a;have:=Dg a.1;unfold Ih at this;show(((c.toNat:Int)==(45:Int))=false)/\(((c.toNat:Int)==(43:Int))=false);constructor<;>(simp;omega)
 refine zj (Al ..) (zc (by simp;omega) ?_);rw[Ty, <-i,zh,f.1,f.2];exact zc (by simp;omega) (zc (w4<|by omega)<|zc (w4<|by omega) (zc (w4<|by omega)<|zq rfl (zc (w4<|by omega)<|zq rfl h)))
theorem Aan(n:Int)(h:0<=n):(Eg (C1 n,C0 n),Em (C1 n,C0 n))=Dc (-n):=by
 show Cn (Dc n)=_;unfold Cn;split
 ·next c=>
  have:=CF n;rw[Bo c.1]at this;rw[this,Ce (n:= -n)];by_cases a: -9223372036854775808<n/\n<9223372036854775808
  ·omega
  ·exfalso;have e:Dc n=(1,BA<|Ag n):=by unfold Dc;rw[wc a,wc<|by omega]
   rw[e]at this;have:(1:Int)=n:=this;omega
 ·rw[CF]
theorem Y4{a D:Int}{W:Z}{n:Nat}(b:0<=a)(hW:Ap W=true)(g:n<=W.length)(h:a*10^W.length+AE 0 W=D):(a*10^n+AE 0 (W.take n))*10^(W.drop n).length+AE 0 (W.drop n)=D/\a<=D/\a*10^n<=D:=by
 have i:AE 0 W=AE 0 (W.take n)*10^(W.drop n).length+AE 0 (W.drop n):=by
  conv=>lhs;rw[<-List.take_append_drop n W]
  rw[C2,EW]
 have c:W.length=n+(W.drop n).length:=by rw[zt];omega
 have hp:(10:Int)^W.length=10^n*10^(W.drop n).length:=by rw[<-Int.pow_add, <-c]
 have e:=(Bg hW).1;have d:a*10^W.length=a*10^n*10^(W.drop n).length:=by rw[hp,Int.mul_assoc]
 have one:∀k:Nat,(1:Int)<=10^k:=fun k=>by have:=AR (show(0:Int)<10 by decide) k;omega
 have l1:a<=a*10^W.length:=by have:=zn (one W.length) b;omega
 have f:a*10^n<=a*10^n*10^(W.drop n).length:=by
  have:=zn (one (W.drop n).length) (ql b (show(0:Int)<=10^n by have:=one n;omega));omega
 refine⟨?_,by omega,by omega⟩;rw[Int.add_mul, <-d];omega
theorem CN(neg:Bool)(g D:Int)(b:D<(10:Int)^(6000:Nat))(h:∀ob,Q (.agg [.dat i64<|C1<|if neg=true then -D else D,.dat (.nlist u64)<|C0<|if neg=true then -D else D]) ob):∀(f:Nat) (W:Z) (a:Int),W.length<f->W.length<=6000->0<=a->Ap W=true->a*10^W.length+AE 0 W=D->Ends Q8 (L5 W neg (C1 a) (C0 a) g) Q
 |0,W,a,s,_,_,_,_=>by omega
 |f+1,W,a,s,r,e,hW,i=>by
  cases d:W with
  |nil=>
   subst d;have i:a=D:=by rw[<-i];simp[AE]
   subst i;have j:=GR e b;refine zj (EG ..) (zq (by simp)<|zi (fun c=>zc (B3 j).1<|ze ?_)<|fun c=>ze ?_)
   ·have:=Aan a e;rw[c,wd rfl]at h;have o:Eg (C1 a,C0 a)=C1 (-a):=wi Prod.fst this;have m:Em (C1 a,C0 a)=C0 (-a):=wi Prod.snd this;rw[o,m];exact h _
   ·rw[c,wc<|by decide]at h;exact h _
  |cons c t=>
   rw[<-d];have k:1<=W.length:=by rw[d];simp
   obtain⟨p,l,q⟩:=Y4 (n:=min 18 W.length) e hW (by omega) i;have u:=(Bg<|Bh hW<|min 18 W.length).1;have hp:0<=a*10^(min 18 W.length):=ql e (zw<|AR (by decide) _);refine tH W neg _ _ g hW k _ rfl (Cz W neg _ _ g _ _ rfl hW rfl k a g e (GR e<|zx l b) (GR hp<|zx q b) ?_ _ 0 rfl (yq _));exact CN neg g D b h f (W.drop<|min 18 W.length) _ (by rw[zt];omega) (by rw[zt];omega) (by omega) (B8 hW _) p
theorem Ar(neg:Bool)(W:Z)(g:W.length<=5999)(hW:Ap W=true)(i:∀ob,Q (.agg [.dat i64<|C1<|if neg=true then -AE 0 W else AE 0 W,.dat (.nlist u64)<|C0<|if neg=true then -AE 0 W else AE 0 W]) ob)(d:W=[]->∀ob v,(v=.agg [.dat i64 0,.nil]\/v=.agg [.dat i64<|Eg ((0:Int),[]),.dat (.nlist u64)<|Em ((0:Int),[])])->Q v ob):Ends Q8 (L1 W neg 0 0) Q:=by
 cases b:W with
 |nil=>
  refine zj (Al ..) (zq (by simp) (zi (fun c=>zc (by decide)<|ze<|d b _ _<|.inr rfl)<|fun c=>ze<|d b _ _<|.inl rfl))
 |cons c t=>
  rw[<-b];have f:1<=W.length:=by rw[b];simp
  have e:AE 0 W<(10:Int)^(6000:Nat):=zo (Bg hW).2 (AL (by decide)<|by omega);obtain⟨h,k,l⟩:=Y4 (a:=0) (n:=min 18 W.length) (D:=AE 0 W) (jg _) hW (by omega) (by rw[Int.zero_mul,Int.zero_add]);have j:=(Bg<|Bh hW<|min 18 W.length).1;refine tK W neg 0 0 hW f _ rfl (Dm W neg 0 0 _ _ rfl hW rfl f 0 0 rfl (jg _) (by decide) (by rw[Int.zero_mul];decide) ?_ _ 0 rfl (yq _));exact CN neg 0 _ e i (W.length+1) (W.drop<|min 18 W.length) _ (by rw[zt];omega) (by rw[zt];omega) (by omega) (B8 hW _) h
theorem ok:Af A6 126 Ph:=by
 refine BO uZ<|fun(s:Z) a=>?_;have a:(decide (s.length<=5999)&&(if s.getD 0 0=45 then Ap (s.drop 1)else Ap s))=true:=a;rw[zd,w5]at a;obtain⟨i,a⟩:=a;have fin:∀D,BC s=D->∀ob,Ad Ph s (.agg [.dat i64<|C1 D,.dat (.nlist u64)<|C0 D]) ob:=by
  rintro D rfl ob;exact yn rfl rfl rfl
 have b:BC s=0->∀ob v,(v=.agg [.dat i64 0,.nil]\/v=.agg [.dat i64<|Eg ((0:Int),[]),.dat (.nlist u64)<|Em ((0:Int),[])])->Ad Ph s v ob:=by
  rintro h ob v (rfl|rfl)
  ·refine yn rfl rfl ?_;show((0:Int),([]:List Int))=(C1<|BC s,C0<|BC s);rw[h];rfl
  ·refine yn rfl rfl ?_;show Cn ((0:Int),([]:List Int))=(C1<|BC s,C0<|BC s);rw[h];rfl
 refine yd (Ai s) ?_;conv=>zeta
 cases s with
 |nil=>
  refine zq (by decide) (zq (by decide) (zj (AH ..)<|zq (by decide)<|ze<|b rfl _ _ (.inl rfl)))
 |cons c r=>
  have l:(c::r).take 1=[c]:=rfl;have g:(c::r).getD 0 0=c:=rfl;rw[g]at a;have e:(List.drop 1 (c::r)).take (jo (c::r).length 1)=r:=by show r.take ((r.length+1)-1)=r;rw[Nat.add_sub_cancel];exact ym
  have j:decide (((c::r).length:Int)>=1)=true:=w4 (by simp;omega);have k:decide (1<=(c::r).length)=true:=w4 (by simp);rw[l,e];refine zc j<|zc k<|zc j<|zc k<|zi (fun d=>?_)<|fun d=>?_
  ·have f:c=45:=by simpa using d
   rw[wd f]at a;rw[d];have hr:BC (c::r)= -AE 0 r:=by unfold BC;rw[g,wd f];rfl
   refine zc (by simp) (Ar true r (by simp at i;omega) a (fin _<|by rw[hr,wd rfl])<|fun h0=>b (by rw[hr,h0];rfl))
  ·have f:c≠45:=by rintro rfl;exact wh d (by decide)
   rw[wc f]at a;rw[d];have hr:BC (c::r)=AE 0 (c::r):=by unfold BC;rw[g,wc f]
   exact Ar false (c::r) i a (fin _<|by rw[hr,wc<|by decide]) (fun h0=>by cases h0)
end T126
namespace T168
theorem loop{Q:PV->Ob->Prop}(l:List Int)(e:l.length<=1000000):∀(r:List Int) (i:Nat),l.drop i=r->i<=l.length->Q (.dat i64<|jt r) []->Ends Oi (L1 l ((l.length:Int)) i) Q
 |[],i,h,j,a=>by
  refine zj (Al ..) ?_;conv=>zeta
  have:¬i<l.length:=by
   intro b;have:=List.drop_eq_getElem_cons b;rw[h]at this;cases this
  have g:i=l.length:=by omega
  subst g;simpa [jt]using a
 |x::r,i,h,j,a=>by
  obtain⟨b,f,k⟩:=drop_cons (d:=0) h;refine zj (Al ..) ?_;conv=>zeta
  rw[FC,wd (by simp;omega),FC,wd (by simp;omega),FC];simp only[zh,f];by_cases c:x=0
  ·subst c;rw[wc (by simp),wr _ (by omega)<|by omega];exact loop l e r (i+1) k b (by simpa [jt]using a)
  ·rw[wd<|by simpa using c];simpa [jt,c]using a
theorem ok:Af A6 168 Hd:=by
 refine BO Fi<|fun l a=>?_;refine yd (Ai l) ?_;conv=>zeta
 exact loop l (by simpa [Hd]using a) l 0 rfl (yq _) (yn rfl rfl rfl)
end T168
theorem T169.ok:Af A6 169 G3:=by
 refine BO Fi<|fun⟨c,e⟩ _=>?_;refine yd (T169.Ai c e) ?_;conv=>zeta
 have key:∀x:Int,x=Cj c e->Ad G3 (c,e) (.dat i64 x) []:=fun x a=>yn rfl rfl a
 simp only[FC,Ht];cases c
 ·exact key _ rfl
 ·exact key _ rfl
theorem uI:C9 MV:=
 Aa T168.ok (Aa T169.ok<|Aa T166.ok<|Aa T124.ok<|Aa T167.ok<|Aa T170.ok<|Aa T126.ok<|Aa T105.ok<|Aa T106n.ok AI)
theorem HV{s:Z}(h:A1 s=true):s≠[]/\Ap s=true:=by
 unfold A1 at h;rw[zd,zd,w5]at h;exact h.1
theorem Lg{s:Z}(h:Ap s=true)(b:s.length<=5999):Du s=true/\BC s=AE 0 s:=by
 have h0:s.getD 0 0≠45:=by
  cases s with
  |nil=>decide
  |cons c r=>
   unfold Ap at h;rw[zz,zd]at h;have:=Dg h.1;rintro a;have a:c=45:=a;subst a;exact wh this (by decide)
 unfold Du BC;rw[wc h0,wc h0,h,Bool.and_true];exact⟨w4 b,rfl⟩
theorem yX{a b L:Int}(d:0<=a)(c:0<=b)(g:a<L)(f:b<L):0<=jf a b/\jf a b<L:=by
 rw[Ha];obtain⟨x,rfl⟩:=yo d;obtain⟨y,rfl⟩:=yo c;have e:qj (x:Int) (y:Int)=Nat.gcd x y:=rfl;rw[e];refine⟨Int.natCast_nonneg _,?_⟩;rcases yw x with h|h
 ·subst h;rw[Nat.gcd_zero_left];exact f
 ·have:=Nat.gcd_le_left y h;omega
namespace T122
variable {Q:PV->Ob->Prop}
def E(A B:Z)(b a:Bool):Int:=if a=false then 1 else if 600<A.length\/600<B.length then 4 else if b=true/\jf (AE 0 A) (AE 0 B)≠1 then 1 else 0
theorem FX(A B:Z)(a:Bool)(k:Ap A=true)(b:a=true->Ap B=true)(y:A.length<=600)(z:B.length<=600)(f:∀ob,Q (.dat i64<|if a=true/\jf (AE 0 A) (AE 0 B)≠1 then 1 else 0) ob):Ends MV (L8 A B a) Q:=by
 refine zj (Hs ..)<|zi (fun c=>?_)<|fun c=>?_
 ·have b:=b c;obtain⟨r,i⟩:=Lg k (by omega);obtain⟨r3,r4⟩:=Lg b (by omega);have e:=Bg k;have d:=Bg b;have j:AE 0 A<(10:Int)^(6000:Nat):=zo e.2 (AL (by decide)<|by omega);have l:AE 0 B<(10:Int)^(6000:Nat):=zo d.2 (AL (by decide)<|by omega);have n:Dv A=C1 (AE 0 A):=by unfold Dv;rw[i]
  have s:DB A=C0 (AE 0 A):=by unfold DB;rw[i]
  have p:Dv B=C1 (AE 0 B):=by unfold Dv;rw[r4]
  have m:DB B=C0 (AE 0 B):=by unfold DB;rw[r4]
  have w:Ny (C1<|AE 0 A,C0<|AE 0 A) (C1<|AE 0 B,C0<|AE 0 B)=C1 (jf (AE 0 A)<|AE 0 B):=by
   unfold Ny;rw[LB,LB]
  have v:NI (C1<|AE 0 A,C0<|AE 0 A) (C1<|AE 0 B,C0<|AE 0 B)=C0 (jf (AE 0 A)<|AE 0 B):=by
   unfold NI;rw[LB,LB]
  obtain⟨l1,t⟩:=yX e.1 d.1 j l;have u:aU (C1<|jf (AE 0 A)<|AE 0 B,C0<|jf (AE 0 A)<|AE 0 B) ((1:Int),CW (1:Int))=Cg (jf (AE 0 A)<|AE 0 B) 1:=by
   unfold aU;rw[LB,EH,E8]
  rw[n,s,p,m,w,v,u];have o:Bc ((1:Int),CW (1:Int))=true:=by rw[EH];decide
  refine zc r<|zc r3<|zc (Ab (Gj<|GR e.1 j)<|Gj<|GR d.1 l)<|zc rfl (zc (Ab (Gj<|GR l1 t) o) ?_);refine zj (jY ..)<|zc rfl (ze ?_);generalize jf (AE 0 A) (AE 0 B)=g at*;have:Cj (Cg g 1 !=0) 1=if a=true/\g≠1 then 1 else 0:=by
   unfold Cg Cj;by_cases h:g=1
   ·subst h;rw[c];rfl
   ·have x:(if a=true/\g≠1 then(1:Int)else 0)=1:=wd ⟨c,h⟩;rw[x];rcases Int.lt_or_gt_of_ne h with q|q
    ·rw[wd q];rfl
    ·rw[wc (by omega),wd q];rfl
  rw[this];exact f _
 ·refine zj SJ<|zc rfl (ze ?_);rw[wc<|by rw[c];simp]at f;exact f _
theorem Cz(A B:Z)(e a c d:Bool)(g:c= !a)(f:d=true↔600<A.length\/600<B.length)(i:a=true->Ap A=true/\(e=true->Ap B=true))(b:∀ob,Q (.dat i64<|E A B e a) ob):Ends MV (L7 A B e<|jt [Cj c 1,Cj d 4]) Q:=by
 subst g;unfold E at b;cases a with
 |false=>
  refine zj (D1 ..)<|zc ?_<|ze<|b _;cases d<;>rfl
 |true=>
  rw[wc<|by decide]at b;cases d with
  |true=>
   rw[wd<|f.1 rfl]at b;exact zj (D1 ..)<|zc rfl (ze<|b _)
  |false=>
   have k:¬(600<A.length\/600<B.length):=fun h=>by have:=f.2 h;cases this
   rw[wc k]at b;obtain⟨l,j⟩:=i rfl;exact zj (D1 ..) (zq rfl (FX A B e l j (by omega) (by omega) b))
theorem Ca(A B:Z)(b a:Bool)(d:a=true->Ap A=true/\(b=true->Ap B=true))(e:∀ob,Q (.dat i64<|E A B b a) ob):Ends MV (L4 A B b a) Q:=by
 refine zj (CD ..)<|zc rfl (zi (fun c=>zc rfl (zc rfl ?_))<|fun c=>zc rfl (zc rfl ?_))
 ·have c:=w6 c;exact Cz A B b a _ _ rfl ⟨fun _=>.inl (by omega),fun _=>rfl⟩ d e
 ·have c:=w7 c;exact Cz A B b a _ _ rfl ⟨fun h=>.inr (by have:=w6 h;omega),fun h=>w4<|by omega⟩ d e
theorem CN(A B:Z)(a:Bool)(b:∀ob,Q (.dat i64<|E A B a false) ob):Ends MV (L5 A B a) Q:=by
 refine zj (EG ..)<|zc rfl (zi (fun c=>zc rfl (zc rfl ?_))<|fun c=>zc rfl (zc rfl ?_))
 ·have c:=w6 c;exact Cz A B a false _ _ rfl ⟨fun _=>.inl (by omega),fun _=>rfl⟩ (fun h=>by cases h) b
 ·have c:=w7 c;exact Cz A B a false _ _ rfl ⟨fun h=>.inr (by have:=w6 h;omega),fun h=>w4<|by omega⟩ (fun h=>by cases h) b
theorem Fh(A B:Z)(a:Bool)(b:Ap A=true/\(a=true->Ap B=true))(d:∀ob,Q (.dat i64<|E A B a true) ob):Ends MV (L6 A B a) Q:=by
 refine zj (ET ..)<|zc rfl (zi (fun c=>zc rfl (zc rfl ?_))<|fun c=>zc rfl (zc rfl ?_))
 ·have c:=w6 c;exact Cz A B a true _ _ rfl ⟨fun _=>.inl (by omega),fun _=>rfl⟩ (fun _=>b) d
 ·have c:=w7 c;exact Cz A B a true _ _ rfl ⟨fun h=>.inr (by have:=w6 h;omega),fun h=>w4<|by omega⟩ (fun _=>b) d
theorem Vg{F:Tr}(A B:Z)(f:Bool)(k:B.length<=1000000)(j:Ap A=true)(b:Bool)(a:b=(!f||(A1 B&&decide (B≠[48])&&decide (B≠[49]))))(g:∀ob,Q (.dat i64<|E A B f b) ob)
  (h:(f=true->Ends MV (.ite (decide (B.length<=1000000)) (.ite (A1 B) (.ite (!B==[(48:UInt8)]) (L4 A B f<|!B==[(49:UInt8)])<|L5 A B f)<|L5 A B f) .fail) Q)->(f=false->b=true)->Ends MV F Q):Ends MV F Q:=by
 refine h (fun i=>zc (w4 k) ?_) (fun i=>by rw[a,i];rfl);rw[i]at a;refine zi (fun c=>zi (fun d=>?_)<|fun d=>?_)<|fun c=>?_
 ·have d:B≠[48]:=by simpa using d
  have e:b=(!B==[(49:UInt8)]):=by
   rw[a,c,w4 d];by_cases h:B=[49]
   ·rw[h];rfl
   ·rw[w4 h];simp[h]
  rw[<-e];exact Ca A B f b (fun _=>⟨j,fun _=>(HV c).2⟩) g
 ·have d:B=[48]:=by simpa using d
  have e:b=false:=by rw[a,w8<|fun h=>h d];simp
  rw[e]at g;exact CN A B f g
 ·have e:b=false:=by rw[a,c];simp
  rw[e]at g;exact CN A B f g
theorem DK(s:Z):(AA s).length<=s.length/\(zp s).length<=s.length:=by
 unfold AA zp;cases s.findIdx? (fun x=>x==47)with
 |none=>simp
 |some i=>simp;omega
theorem ZC(s:Z):(A8 s).length<=s.length:=by
 unfold A8;split
 ·simp
 ·exact yf _
theorem ok:Af A6 122 Fc:=by
 refine BO uI<|fun(a:Z) m=>?_;have m:a.length<=1000000:=w6 m;have l1:=ZC a;obtain⟨r,s⟩:=DK<|A8 a;have j:∀b,b=Ip a->∀ob,Ad Fc a (.dat i64<|E (AA<|A8 a) (zp<|A8 a) (Bs<|A8 a) b) ob:=by
  rintro b rfl ob;exact yn rfl rfl rfl
 have i:Ip a=(A1 (AA<|A8 a)&&(!jz a||decide (AA (A8 a)≠[48]))&&(!Bs (A8 a)||(A1 (zp<|A8 a)&&decide (zp (A8 a)≠[48])&&decide (zp (A8 a)≠[49])))):=rfl;refine yd (Ai a) (zc (Ab (w4 rfl)<|w4 m) (zc (Ab (w4 rfl)<|w4<|by omega)<|zc (w4<|by omega) ?_));generalize AA (A8 a)=A at*;generalize zp (A8 a)=B at*;generalize Bs (A8 a)=f at*;refine zi (fun c=>?_)<|fun c=>?_
 ·have l:=(HV c).2;refine zi (fun d=>?_)<|fun d=>?_
  ·have g:Ip a=(!f||(A1 B&&decide (B≠[48])&&decide (B≠[49]))):=by rw[i,c,d];rfl
   refine Vg A B f (by omega) l (Ip a) g (j _ rfl)<|fun o n=>zj (Al ..)<|zi o<|fun e=>?_;have p:=n e;exact Fh A B f ⟨l,fun h=>by rw[e]at h;cases h⟩<|j true p.symm
  ·by_cases k:A=[48]
   ·have g:Ip a=false:=by rw[i,d,w8<|fun h=>h k];simp
    have q:(!A==[(48:UInt8)])=false:=by rw[k];rfl
    rw[q];refine zj (AH ..) (zi (fun e=>zq rfl (CN A B f<|j false g.symm)) (fun e=>Ca A B f false (fun h=>by cases h)<|j false g.symm))
   ·have q:(!A==[(48:UInt8)])=true:=by simp[k]
    have g:Ip a=(!f||(A1 B&&decide (B≠[48])&&decide (B≠[49]))):=by rw[i,c,d,w4 k];rfl
    rw[q];refine Vg A B f (by omega) l (Ip a) g (j _ rfl)<|fun o n=>zj (AH ..)<|zi (fun e=>zc rfl (o e))<|fun e=>?_;have p:=n e;exact Ca A B f true (fun _=>⟨l,fun h=>by rw[e]at h;cases h⟩)<|j true p.symm
 ·have g:Ip a=false:=by rw[i,c];simp
  exact zj (B5 ..)<|zi (fun e=>CN A B f<|j false g.symm)<|fun e=>CN A B f<|j false g.symm
end T122
theorem Ek(c:UInt8)(r:Z):AA (c::r)=if c=47 then[]else c::AA r:=by
 unfold AA;rw[qm];by_cases h:c=47
 ·subst h;rfl
 ·rw[wc (by simpa using h),wc h];cases r.findIdx? (fun x=>x==47)<;>rfl
namespace T128
theorem Ar{Q:PV->Ob->Prop}(s:Z)(f:s.length<=9223372036854775807):∀(r:Z) (i:Nat),s.drop i=r->i<=s.length->(∀ob,Q (.dat i64 (((i+(AA r).length:Nat)):Int)) ob)->Ends Oi (L1 s i) Q
 |[],i,h,e,a=>by
  have k:i=s.length:=drop_nil h e;subst k;exact zj (Al ..) (zq (by simp)<|ze<|a _)
 |c::r,i,h,e,a=>by
  obtain⟨l,g,m⟩:=drop_cons (d:=0) h;have j:=wn (i:=i) (by omega);rw[Ek]at a;refine zj (Al ..) (zc (by simp;omega) ?_);rw[zh,g,j];refine zc (by simp;omega)<|zi (fun d=>?_)<|fun d=>?_
  ·have b:c=47:=by
    have:(c.toNat:Int)=47:=by simpa using d
    exact yr.1 (by show _=47;omega)
   rw[wd b]at a;exact ze<|a _
  ·have b:c≠47:=by rintro rfl;exact wh d (by decide)
   rw[wc b]at a;refine Ar s f r (i+1) m l<|fun ob=>?_;have:=a ob;rw[zu]at this;rw[show i+1+(AA r).length=i+((AA r).length+1)by omega];exact this
theorem ok:Af A6 128 Qb:=by
 refine BO Fi<|fun(s:Z) a=>?_;have a:s.length<=1000000:=w6 a;refine yd (Ai s) (Ar s (by omega) s 0 rfl (yq _) (fun ob=>yn rfl rfl ?_));rw[Nat.zero_add];rfl
theorem yN:Af A6 128 Z2:=by
 refine BO Fi<|fun(s:Z) a=>?_;have a:s.length<=9223372036854775807:=w6 a;refine yd (Ai s)<|Ar s a s 0 rfl (yq _) (fun ob=>yn rfl rfl ?_);rw[Nat.zero_add];rfl
end T128
namespace T129
variable {Q:PV->Ob->Prop}
theorem UK{s:Z}{r:Z}{c:UInt8}{i:Nat}(h:s.drop i=c::r):Ap (s.drop i)=(B4 c&&Ap (s.drop<|i+1)):=by
 obtain⟨_,_,a⟩:=drop_cons (d:=0) h;rw[a,h];rfl
theorem Ar(s:Z)(g:s.length<=9223372036854775807):∀(r:Z) (i:Nat),s.drop i=r->i<=s.length->(∀ob,Q (.bl<|Ap<|s.drop i) ob)->Ends Oi (L1 s s i) Q
 |[],i,h,f,a=>by
  have l:i=s.length:=drop_nil h f;rw[h]at a;subst l;exact zj (Al ..) (zq (by simp)<|ze<|a _)
 |c::r,i,h,f,a=>by
  obtain⟨m,j,n⟩:=drop_cons (d:=0) h;have k:=wn (i:=i) (by omega);rw[UK h]at a;refine zj (Al ..) (zc (by simp;omega) ?_);rw[zh,j,k];refine zc (by simp;omega) (zi (fun d=>?_)<|fun d=>zc (by simp;omega)<|zi (fun e=>?_)<|fun e=>?_)
  ·have d:=w6 d;have b:B4 c=false:=by unfold B4;rw[w8<|by omega];rfl
   rw[b]at a;exact ze<|a _
  ·have e:=w6 e;have b:B4 c=false:=by unfold B4;rw[w8 (p:=c.toNat<=57) (by omega),Bool.and_false]
   rw[b]at a;exact ze<|a _
  ·have d:=w7 d;have e:=w7 e;have b:B4 c=true:=by unfold B4;exact ad (by omega) (by omega)
   rw[b,yk]at a;exact Ar s g r (i+1) n m a
theorem A2(s:Z)(g:s.length<=9223372036854775807):∀(r:Z) (i:Nat),s.drop i=r->i<=s.length->(∀ob,Q (.bl<|Ap<|s.drop i) ob)->Ends Oi (L2 s s i) Q
 |[],i,h,f,a=>by
  have l:i=s.length:=drop_nil h f;rw[h]at a;subst l;exact zj (AH ..) (zq (by simp)<|ze<|a _)
 |c::r,i,h,f,a=>by
  obtain⟨m,j,n⟩:=drop_cons (d:=0) h;have k:=wn (i:=i) (by omega);rw[UK h]at a;refine zj (AH ..) (zc (by simp;omega) ?_);rw[zh,j,k];refine zc (by simp;omega) (zi (fun d=>?_)<|fun d=>zc (by simp;omega)<|zi (fun e=>?_)<|fun e=>?_)
  ·have d:=w6 d;have b:B4 c=false:=by unfold B4;rw[w8<|by omega];rfl
   rw[b]at a;exact ze<|a _
  ·have e:=w6 e;have b:B4 c=false:=by unfold B4;rw[w8 (p:=c.toNat<=57) (by omega),Bool.and_false]
   rw[b]at a;exact ze<|a _
  ·have d:=w7 d;have e:=w7 e;have b:B4 c=true:=by unfold B4;exact ad (by omega) (by omega)
   rw[b,yk]at a;exact A2 s g r (i+1) n m a
theorem yN:Af A6 129 TW:=by
 refine BO Fi<|fun(s:Z) f=>?_;have f:s.length<=9223372036854775807:=w6 f;have i:∀b ob,b=A1 s->Ad TW s (.bl b) ob:=fun b ob j=>yn rfl rfl j
 refine yd (Ai s) ?_;conv=>zeta
 cases s with
 |nil=>exact zc rfl (ze<|i _ _ rfl)
 |cons c r=>
  have g:(c::r).getD 0 0=c:=rfl;rw[g];refine zq (by simp;omega) (zi (fun d=>zc (by simp)<|zi (fun e=>ze<|i _ _ ?_)<|fun e=>?_)<|fun d=>?_)
  ·have d:=w6 d;have a:c=48:=by
    have:(c.toNat:Int)=48:=by simpa using e
    exact yr.1 (by show _=48;omega)
   have hr:r≠[]:=by rintro rfl;simp at d
   unfold A1;rw[g,w8 (p:=c≠48)<|fun h=>h a,w8 (p:=c::r=[48])<|by intro h;simp at h;exact hr h.2];simp
  ·have a:c≠48:=by rintro rfl;exact wh e (by decide)
   refine Ar (c::r) f (c::r) 0 rfl (yq _) (fun ob=>i _ _ ?_);unfold A1;rw[g,w4 a];simp
  ·have d:=w7 d;have hr:r=[]:=by
    have:r.length=0:=by simp at d;omega
    exact yb.1 this
   subst hr;refine A2 [c] f [c] 0 rfl (yq _) (fun ob=>i _ _ ?_);unfold A1;rw[g];by_cases a:c=48
   ·subst a;rfl
   ·rw[w4 a];simp
end T129
theorem rO:C9 yW:=Aa T155.ok AI
namespace T97
variable {Q:PV->Ob->Prop}
theorem PN{v:Int}(a: -9223372036854775808<=v/\v<9223372036854775808):∃q d:Nat,Ag v=d+1000000000*q/\d<1000000000/\zg .i64 (Int.tdiv v 1000000000)=(if v<0 then -(q:Int)else q)/\Int.tmod v 1000000000=(if v<0 then -(d:Int)else d):=by
 refine⟨v.natAbs/1000000000,v.natAbs % 1000000000,by rw[Aj];omega,by omega,?_,?_⟩
 ·by_cases h:v<0
  ·have:=Int.neg_tdiv (-v) 1000000000;rw[Int.neg_neg]at this;rw[this,qn (by omega),wd h,wr _ (by omega)<|by omega];omega
  ·rw[qn (by omega),wc h,wr _ (by omega)<|by omega];omega
 ·by_cases h:v<0
  ·have:=Int.neg_tmod (-v) 1000000000;rw[Int.neg_neg]at this;rw[this,qo (by omega),wd h];omega
  ·rw[qo (by omega),wc h];omega
theorem A2(neg:Bool)(D:Int)(m:∀(w:List Int) ob,Ay qh w->j9 qh w=D->Q (.agg [.dat .bool<|CH neg w,.dat li<|Ax w]) ob):∀(f:Nat) (v:Int) (o1:List Int),Ag v<f->(-9223372036854775808<=v/\v<9223372036854775808)->o1.length<=100->(Ag v≠0->Ag v*1000000000^o1.length<=9223372036854775808)->Ay qh o1->j9 qh o1+(qh:Int)^o1.length*Ag v=D->Ends yW (L2 v o1.length neg o1) Q
 |0,v,o1,s,j,p,l,i,a=>by
  have:=AK v;omega
 |f+1,v,o1,s,j,p,l,i,a=>by
  obtain⟨q,d,s1,s2,s3,s4⟩:=PN j;by_cases h0:v=0
  ·subst h0;have r:Ag 0=0:=rfl;rw[r,Int.mul_zero,Int.add_zero]at a;refine zj (AH ..)<|zq rfl ?_;rw[ym];exact zc (by simp;omega)<|ze<|m _ _ i a
  ·have e:Ag v≠0:=by rw[Aj];omega
   have o:=l e;have k:o1.length<=10:=by
    rcases Nat.lt_or_ge 10 o1.length with g|g
    ·exfalso;have n:(1000000000:Int)^11<=1000000000^o1.length:=AL (by decide) g;have t:(9223372036854775808:Int)<1000000000^11:=by decide
     have u:=z8 (show 1<=Ag v by have:=AK v;omega) (show(0:Int)<=1000000000^o1.length by omega);omega
    ·exact g
   have eq:Ag (if v<0 then -(q:Int)else q)=q:=by rw[Aj];split<;>omega
   have go:Ends yW (L2 (if v<0 then -(q:Int)else q) (Nat.add o1.length 1) neg<|o1++[(d:Int)]) Q:=by
    have:=A2 neg D m f (if v<0 then -(q:Int)else q) (o1++[(d:Int)]) (by rw[eq];omega) (by have:=Aj v;split<;>omega) (by simp;omega) (fun _=>by
     rw[eq,zk];show(q:Int)*1000000000^(o1.length+1)<=_;rw[y7, <-Int.mul_assoc,Int.mul_right_comm];have n:=z8 (show(q:Int)*1000000000<=Ag v by omega) (show(0:Int)<=1000000000^o1.length from zw<|AR (by decide) _);omega) (FN i<|by omega) (by
     rw[eq,Cr,zk];show j9 qh o1+(qh:Int)^o1.length*(d:Int)+(qh:Int)^(o1.length+1)*(q:Int)=D;rw[Kb,Int.add_assoc, <-Int.mul_add, <-a,s1])
    rw[zk]at this;exact this
   refine zj (AH ..) (zc (by simpa using h0)<|zc rfl ?_);rw[s3,s4];refine zi (fun c=>zc (by simp;omega)<|zc rfl ?_) (fun c=>zc (by simp;omega)<|zc rfl ?_)
   ·have c:=w6 c;have b:v<0:=by split at c<;>omega
    rw[wd b]at c;rw[wd b,wd b];rw[wd b]at go;have h:zg .i64 (0 - -(d:Int))=(d:Int):=by rw[wr _ (by omega)<|by omega];omega
    rw[h];exact go
   ·have c:=w7 c;have h:(if v<0 then -(d:Int)else(d:Int))=(d:Int):=by split at c<;>split<;>omega
    rw[h];exact go
theorem ok:Af A6 97 Ii:=by
 refine BO rO<|fun(v:Int) f=>?_;have f:=EK (n:=v) f;have fin:∀(w:List Int) ob,Ay qh w->j9 qh w=Ag v->Ad Ii v (.agg [.dat .bool<|CH (decide (v<0)) w,.dat li<|Ax w]) ob:=by
  intro w ob i j;refine yn rfl rfl ?_;have:=M0 (neg:=decide (v<0)) i j;have e:(if decide (v<0)=true then -Ag v else Ag v)=v:=by
   rw[Aj];by_cases h:v<0
   ·rw[wd<|w4 h];omega
   ·rw[wc<|by simpa using h];omega
  rw[e]at this;exact this
 obtain⟨q,d,s1,s2,s3,s4⟩:=PN f;have a:=AK v;refine yd (Ai v) ?_;conv=>zeta
 by_cases h0:v=0
 ·subst h0;exact zj (Al ..) (zq rfl (zc rfl (ze<|fin [] _ (fun x b=>by cases b) rfl)))
 ·have eq:Ag (if v<0 then -(q:Int)else q)=q:=by rw[Aj];split<;>omega
  have go:Ends yW (L2 (if v<0 then -(q:Int)else q) 1 (decide (v<0)) [(d:Int)]) (Ad Ii v):=by
   refine A2 (decide (v<0)) (Ag v) fin (q+1) _ [(d:Int)] (by rw[eq];omega) (by have:=Aj v;split<;>omega) (by simp) (fun _=>?_) (fun x b=>by rw[yx]at b;subst b;show 0<=_/\_<(1000000000:Int);omega) ?_
   ·rw[eq];show(q:Int)*1000000000^1<=_;have:=Aj v;omega
   ·rw[eq,EJ,s1];show(d:Int)+(1000000000:Int)^1*(q:Int)=_;omega
  refine zj (Al ..) (zc (by simpa using h0)<|zc rfl ?_);rw[s3,s4];refine zi (fun c=>zc rfl (zc rfl ?_))<|fun c=>zc rfl (zc rfl ?_)
  ·have c:=w6 c;have a:v<0:=by split at c<;>omega
   rw[wd a]at c;rw[wd a,wd a];rw[wd a]at go;have g:zg .i64 (0 - -(d:Int))=(d:Int):=by rw[wr _ (by omega)<|by omega];omega
   rw[g];exact go
  ·have c:=w7 c;have g:(if v<0 then -(d:Int)else(d:Int))=(d:Int):=by split at c<;>split<;>omega
   rw[g];exact go
end T97
theorem tQ:C9 XK3:=Aa T128.ok<|Aa T149.ok<|Aa T97.ok AI
theorem BQ:∀(s:Z),AA s=s.take (AA s).length/\(Bs s=true->(AA s).length<s.length/\zp s=s.drop ((AA s).length+1))/\(Bs s=false->AA s=s/\zp s=[])
 |[]=>⟨rfl,(fun h=>(by cases h)),fun _=>⟨rfl,rfl⟩⟩
 |c::r=>by
  obtain⟨e,f,j⟩:=BQ r;have i:zp (c::r)=if c=47 then r else zp r:=by
   unfold zp;rw[qm];by_cases h:c=47
   ·subst h;rfl
   ·rw[wc (by simpa using h),wc h];cases r.findIdx? (fun x=>x==47)<;>rfl
  have d:Bs (c::r)=(decide (c=47)||Bs r):=by
   unfold Bs;rw[List.any_cons];congr 1
  rw[Ek,i,d];by_cases h:c=47
  ·rw[wd h,wd h,w4 h];exact⟨rfl,(fun _=>⟨by simp,rfl⟩),fun h=>by cases h⟩
  ·rw[wc h,wc h,w8 h];refine⟨?_,fun g=>?_,fun g=>?_⟩
   ·rw[zu,List.take_succ_cons, <-e]
   ·obtain⟨b,a⟩:=f g;refine⟨by simp;omega,?_⟩;rw[zu,List.drop_succ_cons];exact a
   ·obtain⟨b,a⟩:=j g;exact⟨by rw[b],a⟩
theorem T92.ok:Af A6 92 NX:=by
 refine BO tQ<|fun(a:Z) d=>?_;have d:(Du (AA a)&&Du (zp a)&&decide (a.length<=5999))=true:=d;rw[zd,zd,w5]at d;obtain⟨⟨f,j⟩,n⟩:=d;obtain⟨c1,c2,c3⟩:=BQ a;have es:A0 a=((AA a).length:Int):=rfl;have m:(AA a).length<=a.length:=(T122.DK a).1;refine yd (T92.Ai a) (zc (w4<|by omega)<|zi (fun c=>?_)<|fun c=>?_)
 ·have c:(AA a).length=a.length:=by
   have:((AA a).length:Int)=(a.length:Int):=by simpa [es]using c
   omega
  have b:Bs a=false:=by
   cases h:Bs a with
   |false=>rfl
   |true=>have:=(c2 h).1;omega
  obtain⟨e,i⟩:=c3 b;rw[e]at f;refine zc f<|zc rfl (ze<|yn rfl rfl ?_);show((Gy a,D9 a),(false,Sp.rW 1))=((BS a,BJ a),(Br a,Bk a));unfold BS BJ Br Bk Bd AN Gy D9;rw[e,b];rfl
 ·have g:(AA a).length<a.length:=by
   have:((AA a).length:Int)≠(a.length:Int):=by simpa [es]using c
   omega
  have b:Bs a=true:=by
   cases h:Bs a with
   |true=>rfl
   |false=>have:=(c3 h).1;rw[this]at g;omega
  obtain⟨e,i⟩:=c2 b;have k:zg .i64 (((AA a).length:Int)+1)=(((AA a).length+1:Nat):Int):=by rw[wr _ (by omega)<|by omega];omega
  have l:(a.drop<|(AA a).length+1).take (jo a.length<|(AA a).length+1)=a.drop ((AA a).length+1):=yc (by rw[zt];exact yf _);rw[es,k,zh,zh,l, <-c1, <-i];refine zc (by simp;omega) (zc (by simp;omega)<|zc f<|zc j<|ze<|yn rfl rfl ?_);show((Gy<|AA a,D9<|AA a),(Gy<|zp a,D9<|zp a))=((BS a,BJ a),(Br a,Bk a));unfold BS BJ Br Bk Bd AN Gy D9;rw[b];rfl
theorem sV:C9 VO:=Aa T128.yN<|Aa T129.yN<|Aa T92.ok<|Aa T130.ok AI
namespace T62
variable {Q:PV->Ob->Prop}
theorem sK{g:Int}(h0:0<=g):BL g=[1]↔g=1:=by
 constructor
 ·intro h;have:=Dd (b:=qh) (by decide) h0;have h:Sp.dg qh g=[1]:=h;rw[h]at this;rw[<-this];rfl
 ·rintro rfl;rfl
theorem Ca(s:Z)(p:Ap (AA s)=true)(l:Bs s=true->Ap (zp s)=true)(y:(AA s).length<=600)(z:(zp s).length<=600)(C:s.length<=5999)
  (a:∀ob,Q (.dat i64<|if Bs s=true/\jf (AE 0<|AA s) (AE 0<|zp s)≠1 then 1 else 0) ob):Ends VO (L4 s<|A0 s) Q:=by
 obtain⟨J,D,A⟩:=BQ s;have es:A0 s=((AA s).length:Int):=rfl;refine zj (CD ..) ?_;conv=>zeta
 rw[es];refine zi (fun c=>?_)<|fun c=>?_
 ·have c:=w6 c;have i:Bs s=true:=by
   cases h:Bs s with
   |true=>rfl
   |false=>have:=(A h).1;rw[this]at c;omega
  have l:=l i;obtain⟨F,u⟩:=Lg p (by omega);obtain⟨r3,r4⟩:=Lg l (by omega);have n:=Bg p;have m:=Bg l;have t:∀k:Nat,(10:Int)^k<=(qh:Int)^k:=by
   intro k;induction k with
   |zero=>exact jg _
   |succ k E=>
    rw[y7,y7];have j:=z8 E (show(0:Int)<=10 by decide);have w:=zn (show(10:Int)<=(qh:Int)by decide) (zw<|AR (b:=qh) (by decide) k);exact qi j w
  have q:AE 0 (AA s)<(qh:Int)^600:=zo n.2 (qi (t _)<|AL (by decide) y);have r:AE 0 (zp s)<(qh:Int)^600:=zo m.2 (qi (t _) (AL (by decide) z));have v:BJ s=BL (AE 0<|AA s):=by
   unfold BJ Bd Sp.rW;rw[u,show Ag (AE 0<|AA s)=AE 0 (AA s)by rw[Aj];omega]
  have G:Bk s=BL (AE 0<|zp s):=by
   unfold Bk AN Sp.rW;rw[wd i,r4,show Ag (AE 0<|zp s)=AE 0 (zp s)by rw[Aj];omega]
  obtain⟨n1,_,v1,l1⟩:=F8 (k:=600) n.1 q (by decide);obtain⟨n2,_,v2,l2⟩:=F8 (k:=600) m.1 r (by decide);have rat:Eu s=true:=by
   unfold Eu;rw[F,r3];exact w4 C
  rw[v,G];refine zc rat (zj (EG ..)<|zc (Ab (Ab (Ab n1 n2)<|w4<|by omega)<|w4<|by omega) ?_);have H:CA (BL<|AE 0<|AA s) (BL<|AE 0<|zp s)=BL (jf (AE 0<|AA s)<|AE 0<|zp s):=by
   unfold CA;rw[v1,v2]
  rw[H];obtain⟨B,_⟩:=yX n.1 m.1 q r;generalize jf (AE 0<|AA s) (AE 0<|zp s)=g at*;have j:=sK B;by_cases h:g=1
  ·rw[wc<|fun x=>x.2 h]at a;rw[j.2 h];exact zj (ET ..)<|zq rfl (zc rfl (zq rfl (ze<|a _)))
  ·rw[wd ⟨i,h⟩]at a;have f:BL g≠[1]:=fun x=>h<|j.1 x
   refine zj (ET ..)<|zi (fun d=>ze<|a _)<|fun d=>?_;have d:(BL g).length=1:=by
    have:((BL g).length:Int)=1:=by simpa using d
    omega
   obtain⟨x,I⟩:=List.length_eq_one_iff.1 d;rw[I]at f ⊢;have o:x≠1:=fun e=>f (by rw[e])
   exact zc rfl (zc (by simpa using o)<|ze<|a _)
 ·have c:=w7 c;have i:Bs s=false:=by
   cases h:Bs s with
   |false=>rfl
   |true=>have:=(D h).1;omega
  rw[wc<|fun x=>by rw[i]at x;cases x.1]at a;exact ze<|a _
theorem A2(s:Z)(t:Ap (AA s)=true)(w:s.length<=9223372036854775807)(a:∀ob,Q (.dat i64<|T122.E (AA s) (zp s) (Bs s)<|!Bs s||(A1 (zp s)&&decide (zp s≠[48])&&decide (zp s≠[49]))) ob):Ends VO (L2 s<|A0 s) Q:=by
 obtain⟨x,m,k⟩:=BQ s;have es:A0 s=((AA s).length:Int):=rfl;have q:=T122.DK s;have big:(Bs s=true->Ap (zp s)=true)->(∀ob,Q (.dat i64<|T122.E (AA s) (zp s) (Bs s) true) ob)->Ends VO (L3 s<|A0 s) Q:=by
  intro r a;unfold T122.E at a;rw[wc<|by decide]at a;have b:s.length=(AA s).length+(if Bs s=true then 1+(zp s).length else 0):=by
   cases h:Bs s with
   |true=>obtain⟨j,i⟩:=m h;rw[wd rfl,i,zt];omega
   |false=>obtain⟨j,i⟩:=k h;rw[wc (by decide),j];rfl
  have l:Bs s=false->(zp s).length=0:=fun h=>by rw[(k h).2];rfl
  refine zj (B5 ..) ?_;conv=>zeta
  rw[es,wr ((s.length:Int)-((AA s).length:Int)) (by omega) (by omega),wr _ (by omega)<|by omega];refine zi (fun c=>?_)<|fun c=>zi (fun d=>?_)<|fun d=>?_
  ·have c:=w6 c;rw[wd<|.inl<|by omega]at a;exact ze<|a _
  ·have c:=w7 c;have d:=w6 d;have:600<(zp s).length:=by split at b<;>omega
   rw[wd<|.inr this]at a;exact ze<|a _
  ·have c:=w7 c;have d:=w7 d;have u:(zp s).length<=600:=by
    cases h:Bs s with
    |true=>rw[h,wd rfl]at b;omega
    |false=>have:=l h;omega
   rw[wc<|by omega]at a;exact Ca s t r (by omega) u (by split at b<;>omega) a
 refine zj (AH ..) ?_;conv=>zeta
 cases g:Bs s with
 |false=>
  rw[g]at a;have v:¬(A0 s<(s.length:Int)):=by rw[es,(k g).1];omega
  exact zq (w8 v) (big (fun h=>by rw[g]at h;cases h)<|by rw[g];exact a)
 |true=>
  rw[g]at a;obtain⟨j,i⟩:=m g;have n:zg .i64 (((AA s).length:Int)+1)=(((AA s).length+1:Nat):Int):=by rw[wr _ (by omega)<|by omega];omega
  have o:(s.drop<|(AA s).length+1).take (jo s.length<|(AA s).length+1)=s.drop ((AA s).length+1):=yc (by rw[zt];exact yf _);rw[es,n,zh,o, <-i];rw[es]at big;have bad:(!true||(A1 (zp s)&&decide (zp s≠[48])&&decide (zp s≠[49])))=false->∀ob,Q (.dat i64 1) ob:=by
   intro h ob;have:=a ob;rw[h]at this;exact this
  refine zc (by simp;omega) (zc (by simp;omega)<|zc (w4<|by omega)<|zi (fun d=>ze<|bad ?_ _)<|fun d=>zc (by simp;omega)<|zi (fun e=>ze<|bad ?_ _)<|fun e=>zc (by simp;omega)<|zi (fun f=>ze<|bad ?_ _)<|fun f=>?_)
  ·have d:A1 (zp s)=false:=by simpa using d
   rw[d];rfl
  ·have e:zp s=[48]:=by simpa using e
   rw[w8 (p:=zp s≠[48])<|fun h=>h e];simp
  ·have f:zp s=[49]:=by simpa using f
   rw[w8 (p:=zp s≠[49])<|fun h=>h f];simp
  ·have d:A1 (zp s)=true:=by simpa using d
   have e:zp s≠[48]:=by simpa using e
   have f:zp s≠[49]:=by simpa using f
   rw[d,w4 e,w4 f]at a;exact big (fun _=>(HV d).2) (by rw[g];exact a)
theorem Ar(a s:Z)(c:s=A8 a)(n:a.length<=9223372036854775807)(b:∀ob,Q (.dat i64<|At a) ob):Ends VO (L1 a s) Q:=by
 obtain⟨m,o,q⟩:=BQ s;have es:A0 s=((AA s).length:Int):=rfl;have k:s.length<=a.length:=by rw[c];exact T122.ZC a
 have j:=T122.DK s;have l:At a=T122.E (AA s) (zp s) (Bs s) (A1 (AA s)&&(!jz a||decide (AA s≠[48]))&&(!Bs s||(A1 (zp s)&&decide (zp s≠[48])&&decide (zp s≠[49])))):=by rw[c];rfl
 rw[l]at b;have tk:s.take (AA s).length=AA s:=m.symm;refine zj (Al ..) ?_;conv=>zeta
 rw[show A0 s=((AA s).length:Int)from rfl,zh,tk];refine zc (w4<|by omega) (zc (by simp;omega) (zc (w4<|by omega)<|zi (fun d=>?_)<|fun d=>?_))
 ·have d:A1 (AA s)=false:=by simpa using d
  rw[d]at b;exact ze<|b _
 ·have d:A1 (AA s)=true:=by simpa using d
  have g:=(HV d).2;have i:a.length≠0:=by
   intro h;have h:=yb.1 h;have:s=[]:=by rw[c,h];rfl
   rw[this]at d;exact wh d (by decide)
  rw[d,yk]at b;refine zc (w4<|by omega) (zi (fun e=>zc (by simp;omega)<|zi (fun f=>?_)<|fun f=>?_)<|fun e=>?_)
  ·have hp:jz a=true:=by
    unfold jz;refine w4<|yr.1 ?_;have:((a.getD 0 0).toNat:Int)=45:=by simpa using e
    show _=45;omega
   have f:AA s=[48]:=by simpa using f
   rw[hp,w8 (p:=AA s≠[48])<|fun h=>h f]at b;exact ze<|b _
  ·have f:AA s≠[48]:=by simpa using f
   rw[w4 f,Bool.or_true,yk]at b;exact A2 s g (by omega) b
  ·have hp:jz a=false:=by
    unfold jz;refine w8<|fun h=>?_;rw[h]at e;exact wh e (by decide)
   rw[hp,Bool.not_false,Bool.true_or,yk]at b;exact A2 s g (by omega) b
theorem ok:Af A6 62 Fc:=by
 refine BO sV<|fun(a:Z) b=>?_;have b:a.length<=1000000:=w6 b;have h:∀ob,Ad Fc a (.dat i64<|At a) ob:=fun ob=>yn rfl rfl rfl
 refine yd (Ai a) ?_;conv=>zeta
 cases a with
 |nil=>exact zq rfl (Ar [] [] rfl (qz b<|by decide) h)
 |cons c r=>
  have g:(c::r).getD 0 0=c:=rfl;rw[g];refine zc (by simp) (zc (by simp) (zi (fun d=>zc (by simp) ?_)<|fun d=>?_))
  ·have f:c=45:=by
    have:(c.toNat:Int)=45:=by simpa using d
    exact yr.1 (by show _=45;omega)
   have e:(List.drop 1 (c::r)).take (jo (c::r).length 1)=r:=by show r.take ((r.length+1)-1)=r;rw[Nat.add_sub_cancel];exact ym
   rw[e];exact Ar (c::r) r (by unfold A8;rw[g,wd f];rfl) (qz b<|by decide) h
  ·have f:c≠45:=by rintro rfl;exact wh d (by decide)
   exact Ar (c::r) (c::r) (by unfold A8;rw[g,wc f]) (qz b<|by decide) h
end T62
theorem GV:C9 qM:=
 Aa T161.ok (Aa T143.ok<|Aa T190.ok<|Aa T170.ok<|Aa T106n.ok<|Aa T139.ok<|Aa T127.ok<|Aa T105.ok<|Aa T124.ok<|Aa T126.ok AI)
theorem Fl{a:AG}(h:NP a=true):Bc a=true/\Ag (zf a)<(Ao:Int)^4000:=by
 unfold NP at h;rw[zd,w5]at h;refine⟨?_,Jm h.1 h.2<|by decide⟩;unfold Bc;exact Ab h.1 (w4 (by omega))
theorem Ll{x y:Int}(a:Ag x<(Ao:Int)^4000)(c:Ag y<(Ao:Int)^4000):Ag (x*y)<(Ao:Int)^8000:=by
 rw[JS];have h0:=AK x;have hp:=AR (b:=Ao) (by decide) 4000;have a1:=zn (zw c) h0;have a2:=Int.mul_lt_mul_of_pos_right a hp;have a3:(Ao:Int)^4000*(Ao:Int)^4000=(Ao:Int)^8000:=(Int.pow_add _ 4000 4000).symm;rw[a3]at a2;exact zx a1 a2
theorem Aey{x:Int}(h:x<(Ao:Int)^8000):x<(Ao:Int)^9000:=zo h (AL (by decide)<|by decide)
theorem TN{x y:Int}(b:Ag x<(Ao:Int)^4000)(a:Ag y<(Ao:Int)^4000):Bc (Dc<|x*y)=true:=D5<|Aey<|Ll b a
theorem Ac8{a b:AG}(f:Bc a=true)(e:Bc b=true)(h:Ag (zf a+zf b)<(Ao:Int)^9000):Bc (ER a b)=true:=by
 have d:=TA f e;unfold ER at d ⊢;split
 ·rename_i c;rw[wd c]at d;unfold Bc;exact Ab d rfl
 ·exact D5 h
theorem rD(n:Nat):(2:Int)*(Ao:Int)^n<=(Ao:Int)^(n+1):=by
 rw[y7,j0];exact zn (by decide) (zw (AR (b:=Ao) (by decide) n))
theorem oY{x y:Int}(c:Ag x<(Ao:Int)^8000)(b:Ag y<(Ao:Int)^8000):Ag (x+y)<(Ao:Int)^9000:=by
 have a:=rD 8000;have d:(Ao:Int)^8001<=(Ao:Int)^9000:=AL (by decide) (by decide);have a:(2:Int)*(Ao:Int)^8000<=(Ao:Int)^8001:=a;generalize (Ao:Int)^8000=p at*;generalize (Ao:Int)^8001=q at*;generalize (Ao:Int)^9000=r at*;rw[Aj]at*;omega
theorem Wp(a:AG):decide (Ir a<0)=decide (zf a<0):=by
 unfold Ir Sp.Mt;rw[Bool.eq_iff_iff,w5,w5];split
 ·omega
 ·split<;>omega
theorem Zz{n d:AG}(h:MP n d=true):Bc n=true/\Bc d=true/\zf d≠0:=by
 unfold MP at h;rw[zd,zd,w5]at h;exact⟨h.1.1,h.1.2,h.2⟩
theorem T55.ok:Af A6 55 NH:=by
 refine BO GV<|fun(a:Z) b=>?_;have b:(Du (AA a)&&Du (zp a)&&decide (a.length<=5999))=true:=b;rw[zd,zd,w5]at b;obtain⟨⟨d,e⟩,f⟩:=b;refine yd (T55.Ai a) (zc (Ab (w4 rfl)<|w4<|by omega)<|zi (fun c=>zc d<|zc rfl (ze<|yn rfl rfl ?_))<|fun c=>zc d<|zc e<|ze<|yn rfl rfl ?_)
 ·have c:Bs a=false:=by simpa using c
  show((Dv<|AA a,DB<|AA a),((1:Int),CW 1))=((Vu a,VZ a),(SH a,Sy a));unfold SH Sy AN;rw[c,Oo];rfl
 ·have c:Bs a=true:=by simpa using c
  show((Dv<|AA a,DB<|AA a),(Dv<|zp a,DB<|zp a))=((Vu a,VZ a),(SH a,Sy a));unfold SH Sy AN;rw[c];rfl
theorem T189.ok:Af A6 189 cIQ:=by
 refine BO GV<|fun(i:(Int×List Int)×(Int×List Int)) hi=>?_;obtain⟨a,b⟩:=i;obtain⟨ha,hb,h0⟩:=Zz (n:=a) (d:=b) hi;refine yd (T189.Ai a b)<|zc (B3 hb).1 ?_;show Ends _ (.ite (decide _) _ _) _;rw[Wp];refine zi (fun c=>zc (B3 ha).1<|zc (B3 hb).1<|zj (T189.Al ..)<|zc ?_<|ze<|yn rfl rfl ?_)<|fun c=>zj (T189.Al ..)<|zc ?_<|ze<|yn rfl rfl ?_
 ·have c:zf b<0:=w6 c;have:=HU b;exact Ab (Ab (VD ha)<|VD hb) (w4<|by show 0<zf (Cn b);omega)
 ·have c:zf b<0:=w6 c;show Et (Cn a) (Cn b)=Sp.iQ a b;unfold Sp.iQ;rw[wd c]
 ·have c:¬zf b<0:=w7 c;exact Ab (Ab ha hb) (w4 (by show 0<zf b;omega))
 ·have c:¬zf b<0:=w7 c;show Et a b=Sp.iQ a b;unfold Sp.iQ;rw[wc c]
theorem uY:C9 XA1:=Aa T161.ok<|Aa T143.ok<|Aa T170.ok<|Aa T189.ok AI
theorem zZ{n d:AG}(b:Bc d=true)(h0:zf d≠0):Bc (Sp.gR n d)=true/\zf (Sp.gR n d)=(qj (zf n) (zf d):Int)/\0<zf (Sp.gR n d):=by
 have e:zf (Sp.gR n d)=(qj (zf n) (zf d):Int):=by
  show zf (C1 _,C0 _)=_;rw[LB,Ha]
 have hp:0<qj (zf n) (zf d):=Int.gcd_pos_of_ne_zero_right _ h0;refine⟨Gj<|D5 ?_,e,by rw[e];omega⟩;rw[Ha,Aj,zm];have a:=bounds b;rw[Aj]at a;have c:qj (zf n) (zf d)<=(zf d).natAbs:=Nat.gcd_le_right _ (by omega);omega
namespace T140
variable {Q:PV->Ob->Prop}
theorem Ar(f z2:Int)(n d:AG)(g:Bc n=true)(b:Bc d=true)(h0:zf d≠0)(a:∀ob,Q (.agg [.dat i64 (NO n d).1.1,.dat (.nlist u64) (NO n d).1.2,.dat i64 (NO n d).2.1,.dat (.nlist u64) (NO n d).2.2]) ob):
  Ends XA1 (L1 f z2 d.1 d.2 n.1 n.2) Q:=by
 obtain⟨j,_,l⟩:=zZ (n:=n) b h0;have next:C5 d=false->Ends XA1 (.ite (Bc (n.1,n.2)&&Bc (d.1,d.2)) (L2 (Ny (n.1,n.2) (d.1,d.2)) (NI (n.1,n.2) (d.1,d.2)) f z2 d.1 d.2 n.1 n.2) .fail) Q:=by
  intro h;unfold NO at a;rw[wc<|by rw[h];decide]at a;have k:∀x:AG,Bc x=true->MP x (Sp.gR n d)=true:=fun x i=>by unfold MP;exact Ab (Ab i j) (w4 (by omega))
  exact zc (Ab g b)<|zj (AH ..)<|zc (k n g)<|zc (k d b)<|ze<|a _
 refine zj (Al ..)<|zi (fun c=>zi (fun e=>ze ?_)<|fun e=>next ?_)<|fun c=>next ?_
 ·have c:d.2=[]:=by simpa using c
  have e:d.1=1:=by simpa using e
  unfold NO at a;rw[wd<|by unfold C5;simp[c,e]]at a;exact a _
 ·unfold C5;rw[Bool.and_eq_false_iff];right;simpa using e
 ·unfold C5;rw[Bool.and_eq_false_iff];left;have:d.2≠[]:=by rintro k;rw[k]at c;simp at c
  simpa using this
theorem ok:Af A6 140 yG:=by
 refine BO uY<|fun(i:(Int×List Int)×(Int×List Int)) hi=>?_;obtain⟨n,d⟩:=i;obtain⟨hn,hd,h0⟩:=Zz (n:=n) (d:=d) hi;have vn:=HU d;refine yd (Ai n d)<|zc (B3 hd).1 ?_;show Ends _ (.ite (decide _) _ _) _;rw[Wp];refine zi (fun c=>zc (B3 hn).1<|zc (B3 hd).1<|Ar 0 0 (Cn n) (Cn d) (VD hn) (VD hd) (by omega)<|fun ob=>yn rfl rfl ?_)<|fun c=>Ar 0 0 n d hn hd h0<|fun ob=>yn rfl rfl ?_
 ·have c:zf d<0:=w6 c;show NO (Cn n) (Cn d)=Yz n d;unfold Yz;rw[wd c]
 ·have c:¬zf d<0:=w7 c;show NO n d=Yz n d;unfold Yz;rw[wc c]
end T140
theorem T138.ok:Af A6 138 O9:=by
 refine BO GV<|fun(a:(Int×List Int)×(Int×List Int)) _=>?_;refine yd (T138.Ai a)<|zi (fun c=>ze<|yn rfl rfl ?_)<|fun c=>ze<|yn rfl rfl ?_
 ·have c:a.2.2=[]:=by simpa using c
  show(a.2.1==(1:Int))=C5 a.2;unfold C5;rw[w4 c,yk];rfl
 ·have c:a.2.2≠[]:=by rintro k;rw[k]at c;simp at c
  show false=C5 a.2;unfold C5;rw[w8 c,Bool.false_and]
theorem T125.ok:Af A6 125 oS:=by
 refine BO GV<|fun(a:Int×List Int) _=>?_;exact yd (T125.Ai a)<|zc rfl (ze<|yn rfl rfl rfl)
theorem T137.ok:Af A6 137 nJ:=by
 refine BO GV<|fun(a:(Int×List Int)×(Int×List Int)) h=>?_;exact yd (T137.Ai a)<|zc h<|ze<|yn rfl rfl rfl
theorem T56.ok:Af A6 56 V7:=by
 refine BO GV<|fun(i:((Int×List Int)×(Int×List Int))×((Int×List Int)×(Int×List Int))) c=>?_;obtain⟨a,b⟩:=i;have c:((NP a.1&&NP a.2)&&(NP b.1&&NP b.2))=true:=c;rw[zd,zd,zd]at c;obtain⟨⟨a1,a2⟩,b1,b2⟩:=c;obtain⟨a1,la1⟩:=Fl a1;obtain⟨a2,la2⟩:=Fl a2;obtain⟨b1,lb1⟩:=Fl b1;obtain⟨b2,lb2⟩:=Fl b2;refine yd (T56.Ai a b)<|zc (Ab a1 b2)<|zc (Ab b1 a2)<|zc (Ab (TN la1 lb2)<|TN lb1 la2)<|ze<|yn rfl rfl ?_;show Cg (zf<|FL a.1 b.2) (zf<|FL b.1 a.2)=Cg _ _;rw[DN,DN]
theorem E7{a:Ak}(h:jm a=true):Bc a.1=true/\Bc a.2=true/\Ag (zf a.1)<(Ao:Int)^4000/\Ag (zf a.2)<(Ao:Int)^4000/\0<zf a.2:=by
 unfold jm Sp.Df at h;rw[zd,zd,w5]at h;obtain⟨a1,b⟩:=Fl h.1.1;obtain⟨a2,b2⟩:=Fl h.1.2;exact⟨a1,a2,b,b2,h.2⟩
theorem TS:C9 XA2:=Aa T138.ok<|Aa T125.ok<|Aa T139.ok<|Aa T127.ok<|Aa T140.ok AI
theorem Sv{n d:AG}(a:Bc n=true)(b:Bc d=true)(h0:zf d≠0):MP n d=true:=by
 unfold MP;exact Ab (Ab a b)<|w4 h0
theorem NS{a b:AG}(d:Ag (zf a)<(Ao:Int)^4000)(c:Ag (zf b)<(Ao:Int)^4000):Bc (FL a b)=true:=TN d c
theorem T102.ok:Af A6 102 gV:=by
 refine BO TS<|fun(i:((Int×List Int)×(Int×List Int))×((Int×List Int)×(Int×List Int))) c=>?_;obtain⟨a,b⟩:=i;have c:(jm a&&jm b)=true:=c;rw[zd]at c;obtain⟨a1,a2,la1,la2,a0⟩:=E7 c.1;obtain⟨b1,b2,lb1,lb2,b0⟩:=E7 c.2;have d:zf (FL a.2 b.2)≠0:=by rw[DN];exact ye<|qw a0 b0
 exact yd (T102.Ai a b)<|zc (Ab a1 b1)<|zc (Ab a2 b2)<|zc (Sv (NS la1 lb1) (NS la2 lb2) d)<|ze<|yn rfl rfl rfl
namespace T75
variable {Q:PV->Ob->Prop}
theorem Ar(i z2:Int)(a b:Ak)(h:jm a=true)(e:jm b=true)(j:∀ob f,f=Yz (ER (FL a.1 b.2)<|FL b.1 a.2) (FL a.2 b.2)->Q (.agg [.dat i64 f.1.1,.dat (.nlist u64) f.1.2,.dat i64 f.2.1,.dat (.nlist u64) f.2.2]) ob):
  Ends XA2 (L1 i z2 b.1.1 b.1.2 b.2.1 b.2.2 a.1.1 a.1.2 a.2.1 a.2.2) Q:=by
 obtain⟨a1,a2,d,c,a0⟩:=E7 h;obtain⟨b1,b2,lb1,lb2,b0⟩:=E7 e;have g:zf (FL a.2 b.2)≠0:=by rw[DN];exact ye<|qw a0 b0
 have k:Bc (ER (FL a.1 b.2)<|FL b.1 a.2)=true:=Ac8 (NS d lb2) (NS lb1 c) (by rw[DN,DN];exact oY (Ll d lb2)<|Ll lb1 c);exact zj (Al ..)<|zc (Ab a1 b2)<|zc (Ab b1 a2)<|zc (Ab (NS d lb2)<|NS lb1 c)<|zc (Ab a2 b2)<|zc (Sv k (NS c lb2) g)<|ze<|j _ _ rfl
theorem ok:Af A6 75 RR:=by
 refine BO TS<|fun(i:((Int×List Int)×(Int×List Int))×((Int×List Int)×(Int×List Int))) e=>?_;obtain⟨a,b⟩:=i;have e:(jm a&&jm b)=true:=e;rw[zd]at e;obtain⟨a1,a2,la1,la2,a0⟩:=E7 e.1;obtain⟨b1,b2,lb1,lb2,b0⟩:=E7 e.2;have g:¬(C5 a.2=true/\C5 b.2=true)->Ends XA2 (L1 0 0 b.1.1 b.1.2 b.2.1 b.2.2 a.1.1 a.1.2 a.2.1 a.2.2) (Ad RR (a,b)):=fun j=>
  Ar 0 0 a b e.1 e.2 (fun ob f h=>yn rfl rfl (by
   show f=Ci a b;unfold Ci;rw[wc j];exact h))
 refine yd (Ai a b) (zc rfl (zi (fun c=>zc rfl (zi (fun d=>zc (Ab a1 b1)<|zc rfl (ze<|yn rfl rfl ?_))<|fun d=>g (fun k=>by have:=k.2;rw[show C5 b.2=false from d]at this;cases this)))<|fun c=>g (fun k=>by have:=k.1;rw[show C5 a.2=false from c]at this;cases this)));show Sp.fWh (ER a.1 b.1)=Ci a b;unfold Ci;rw[wd ⟨c,d⟩]
end T75
theorem T141.ok:Af A6 141 zJ:=by
 refine BO TS<|fun(a:(Int×List Int)×(Int×List Int)) b=>?_;have b:(jm a&&decide (zf a.1≠0))=true:=b;rw[zd,w5]at b;obtain⟨a1,a2,d,c,a0⟩:=E7 b.1;exact yd (T141.Ai a)<|zc (Sv a2 a1 b.2)<|ze<|yn rfl rfl rfl
theorem Uc{a:AG}(h:j5 a=true){k:Nat}(c:Ag (zf a)<(Ao:Int)^k):a.2.length<=k:=by
 rcases PX h with⟨b,_⟩|b
 ·rw[b];exact yq _
 ·rw[<-b];exact K2 (AK _) c
theorem GK{a:AG}(h:j5 a=true)(b:Ag (zf a)<(Ao:Int)^4000):NP a=true:=by
 unfold NP;exact Ab h<|w4<|Uc h b
theorem ZI{a:AG}(h:j5 a=true)(b:Ag (zf a)<(Ao:Int)^9000):Bc a=true:=by
 unfold Bc;exact Ab h<|w4<|Uc h b
structure EX(f:Ak)(q:Rat):Prop where
 n:j5 f.1=true
 d:j5 f.2=true
 vn:zf f.1=q.num
 vd:zf f.2=(q.den:Int)
def Lx(k:Nat)(q:Rat):Prop:=Ag q.num<(Ao:Int)^k/\(q.den:Int)<(Ao:Int)^k
theorem EX.den_pos{f:Ak}{q:Rat}(h:EX f q):0<zf f.2:=by
 rw[h.vd];have:=q.den_pos;omega
theorem EX.CS{f:Ak}{q:Rat}(h:EX f q)(a:Lx 4000 q):jm f=true:=by
 unfold jm Sp.Df;have b:Ag (zf f.2)=(q.den:Int):=by rw[h.vd,Aj,zm]
 exact Ab (Ab (GK h.n<|by rw[h.vn];exact a.1)<|GK h.d<|by rw[b];exact a.2)<|w4 h.den_pos
theorem XA{x y:Int}:Ag (x/y)<=Ag x:=by
 rw[Aj,Aj];have a:=qu x y;omega
theorem kG{a b:AG}(d:0<zf b):zf (Et a b)=zf a/zf b:=by
 unfold Et;generalize k:zf a=x;generalize zf b=y at d;have f:=Int.mul_ediv_add_emod (Ag x) y;have i:=Int.emod_nonneg (Ag x)<|ye d;have j:=Int.emod_lt_of_pos (Ag x) d;split
 ·next c=>
  rw[jI,CF,E8];obtain⟨l,g⟩:=c;symm;rw[q9 d];have e:Ag x= -x:=by rw[Aj];omega
  rw[e]at f i j g ⊢;generalize -x/y=q at*;generalize -x % y=r at*;rw[Int.sub_mul,Int.neg_mul,j0 q y];generalize y*q=t at*;omega
 ·next c=>
  rw[CF];unfold Sp.sg;split
  ·next n=>
   have n:x<0:=w6 n;have g:Ag x % y=0:=qv fun h=>c ⟨n,h⟩
   symm;rw[q9 d];have e:Ag x= -x:=by rw[Aj];omega
   rw[g]at f;rw[e]at f ⊢;generalize -x/y=q at*;rw[Int.neg_mul,j0 q y];generalize y*q=t at*;omega
  ·next n=>
   have n:¬x<0:=fun h=>n<|w4 h
   have e:Ag x=x:=by rw[Aj];omega
   rw[e]
theorem Tc{a b:AG}(g:Bc a=true)(f:0<zf b):j5 (Et a b)=true:=by
 have c:=bounds g;have h:Ag (zf a)/zf b<=Ag (zf a):=Int.ediv_le_self _<|AK _;have e:0<=Ag (zf a)/zf b:=Int.ediv_nonneg (AK _)<|zw f;unfold Et;generalize Ag (zf a)/zf b=q at*;have d:Ag q<(Ao:Int)^9000:=by
  refine zx ?_ c;rw[Aj];omega
 split
 ·exact TA (D5<|by rw[Ja];exact d) (by decide)
 ·refine(N9 (k:=9000) ?_<|by omega).1;unfold Sp.sg;split
  ·rw[Ja];exact d
  ·exact d
theorem yV{a b:AG}(c:0<zf b):zf (Sp.iQ a b)=zf a/zf b:=by
 unfold Sp.iQ;rw[wc<|by omega];exact kG c
theorem jV{a b:AG}(d:Bc a=true)(c:0<zf b):j5 (Sp.iQ a b)=true:=by
 unfold Sp.iQ;rw[wc<|by omega];exact Tc d c
theorem WC{n d:AG}(h:Bc n=true)(b:Bc d=true)(h0:0<zf d):EX (NO n d) (z6 (zf n)<|zf d):=by
 have j:(zf d).sign=1:=jc h0;have f:(z6 (zf n)<|zf d).num=zf n/(qj (zf n) (zf d):Int):=by
  rw[qp,j,Int.one_mul,j6]
 have g:((z6 (zf n)<|zf d).den:Int)=zf d/(qj (zf n) (zf d):Int):=by
  rw[qq,wc<|ye h0,j6,Int.natCast_ediv];rw[Int.natAbs_of_nonneg<|zw h0]
 obtain⟨k,i,a⟩:=zZ (n:=n) b<|ye h0;unfold NO;split
 ·next c=>
  unfold C5 at c;rw[zd,w5,w5]at c;have e:zf d=1:=by rw[Bo c.1];exact c.2
  refine⟨(B3 h).1,(B3 b).1,?_,?_⟩
  ·rw[f,e,Int.gcd_one];exact(j7 _).symm
  ·rw[g,e,Int.gcd_one];exact(j7 _).symm
 ·refine⟨jV h a,jV b a,?_,?_⟩
  ·rw[yV a,f,i]
  ·rw[yV a,g,i]
theorem Oj{n d:AG}(b:Bc n=true)(f:Bc d=true)(h0:zf d≠0):EX (Yz n d) (z6 (zf n)<|zf d):=by
 unfold Yz;split
 ·next c=>
  have h:=WC (VD b) (VD f) (by rw[HU];omega);rw[HU,HU]at h;have e:=Rat.divInt_mul_right (n:=zf n) (d:=zf d) (a:= -1) (by decide);rw[Int.mul_neg,qx,Int.mul_neg,qx]at e;rw[e]at h;exact h
 ·exact WC b f (by omega)
theorem Lx.cN{k:Nat}{f:Ak}{q:Rat}(h:EX f q)(a:Lx k q):Ag (zf f.1)<(Ao:Int)^k/\Ag (zf f.2)<(Ao:Int)^k:=by
 rw[h.vn,h.vd];refine⟨a.1,?_⟩;rw[Aj,zm];exact a.2
theorem EX.eqd{f:Ak}{q:Rat}(h:EX f q):z6 (zf f.1) (zf f.2)=q:=by
 rw[h.vn,h.vd];exact zr q
theorem EX.neg{f:Ak}{q:Rat}(h:EX f q)(c:Lx 4000 q):EX (vK f) (-q):=by
 have a:=Lx.cN h c;have b:=TM (k:=4000) h.n (by omega) (by omega)<|Uc h.n a.1;exact⟨b.1,h.d,by show zf (Cn f.1)=_;rw[HU,h.vn,jh],by show zf f.2=_;rw[h.vd,ji]⟩
theorem Lx.neg{k:Nat}{q:Rat}(h:Lx k q):Lx k (-q):=by
 unfold Lx;rw[jh,ji,Ja];exact h
theorem EX.mul{f g:Ak}{p q:Rat}(e:EX f p)(c:EX g q)(sp:Lx 4000 p)(i:Lx 4000 q):EX (LW f g) (p*q):=by
 have a:=Lx.cN e sp;have b:=Lx.cN c i;have h:=Oj (n:=FL f.1 g.1) (d:=FL f.2 g.2) (NS a.1 b.1) (NS a.2 b.2) (by rw[DN];exact ye<|qw e.den_pos c.den_pos);rw[DN,DN, <-Rat.divInt_mul_divInt,e.eqd,c.eqd]at h;exact h
theorem EX.add{f g:Ak}{p q:Rat}(i:EX f p)(e:EX g q)(sp:Lx 4000 p)(t:Lx 4000 q):EX (Ci f g) (p+q):=by
 have a:=Lx.cN i sp;have b:=Lx.cN e t;have m:=Fl<|GK i.n a.1;have s:=Fl<|GK e.n b.1;unfold Ci;split
 ·next c=>
  obtain⟨k,j⟩:=c;unfold C5 at k j;rw[zd,w5,w5]at k j;have l:(p.den:Int)=1:=by rw[<-i.vd,Bo k.1];exact k.2
  have r:(q.den:Int)=1:=by rw[<-e.vd,Bo j.1];exact j.2
  have o:z6 p.num 1=p:=by have:=zr p;rw[l]at this;exact this
  have eq:z6 q.num 1=q:=by have:=zr q;rw[r]at this;exact this
  have es:p+q=z6 (p.num+q.num) 1:=by
   have h:=qd p.num q.num (d₁:=1) (d₂:=1) (by decide) (by decide);rw[o,eq,qx,qx,qx]at h;exact h
  refine⟨TA m.1 s.1,by show j5 (1,CW 1)=true;rw[Oo];rfl,?_,?_⟩
  ·show zf (ER f.1 g.1)=_;rw[W4,i.vn,e.vn,es,qp];simp
  ·show zf (1,CW 1)=_;rw[Oo,CF,es,qq];simp
 ·have h:=Oj (n:=ER (FL f.1 g.2)<|FL g.1 f.2) (d:=FL f.2 g.2) (Ac8 (NS a.1 b.2) (NS b.1 a.2)<|by rw[DN,DN];exact oY (Ll a.1 b.2)<|Ll b.1 a.2) (NS a.2 b.2) (by rw[DN];exact ye<|qw i.den_pos e.den_pos);rw[W4,DN,DN,DN, <-qd _ _ (ye i.den_pos) (ye e.den_pos),i.eqd,e.eqd]at h;exact h
theorem EX.sub{f g:Ak}{p q:Rat}(b:EX f p)(c:EX g q)(sp:Lx 4000 p)(a:Lx 4000 q):EX (NW f g) (p-q):=by
 rw[Rat.sub_eq_add_neg];exact b.add (c.neg a) sp a.neg
theorem EX.inv{f:Ak}{p:Rat}(b:EX f p)(sp:Lx 4000 p)(h0:p≠0):EX (Wv f) p⁻¹:=by
 have a:=Lx.cN b sp;have e:=Fl<|GK b.n a.1;have c:=Fl<|GK b.d a.2;have h:=Oj c.1 e.1 (by rw[b.vn];exact fun h=>h0<|qg.mp h);rw[<-Rat.inv_divInt,b.eqd]at h;exact h
end Go.Pe
namespace Go.Sp
open Go.Lib
theorem SN{P:Nat->Z->Prop}(b:∀d,d<10->P d [z7<|48+d])(c:∀a d,0<a->d<10->P a (decDigits a)->P (10*a+d) (decDigits a++[z7<|48+d]))(n:Nat):P n (decDigits n):=by
 induction n using Nat.strongRecOn with
 |_ n f=>
  by_cases h:n<10
  ·rw[decDigits_one h];exact b n h
  ·have e:n=10*(n/10)+n % 10:=by omega
   have:=c (n/10) (n % 10) (by omega) (Nat.mod_lt _<|by decide) (f (n/10) (by omega));rw[<-Gq _ _ (by omega) (Nat.mod_lt _<|by decide), <-e]at this;exact this
theorem Q2:∀d:Fin 10,(z7<|48+d.1).toNat=48+d.1:=by decide
theorem Li{d:Nat}(h:d<10):B4 (z7<|48+d)=true/\Ih (z7<|48+d)=d:=by
 have e:(z7<|48+d).toNat=48+d:=Q2 ⟨d,h⟩;unfold B4 Ih;rw[e];refine⟨?_,by omega⟩;rw[w4 (by omega),w4<|by omega];rfl
theorem gO{c:UInt8}(h:B4 c=true):c=z7 (48+(Ih c).toNat)/\(Ih c).toNat<10:=by
 obtain⟨b,d⟩:=Dg h;have a:(Ih c).toNat<10:=by omega
 refine⟨yr.1 ?_,a⟩;rw[Q2 ⟨(Ih c).toNat,a⟩];show c.toNat=48+(Ih c).toNat;unfold Ih at*;omega
theorem pB(n:Nat):decDigits n≠[]:=SN (P:=fun _ l=>l≠[]) (fun _ _=>by simp) (fun _ _ _ _ _=>by simp) n
theorem D3(n:Nat):Ap (decDigits n)=true:=by
 refine SN (P:=fun _ l=>Ap l=true) (fun d h=>?_) (fun a d _ h b=>?_) n
 ·unfold Ap;rw[zz,(Li h).1];rfl
 ·unfold Ap at*;rw[List.all_append,b,zz,(Li h).1];rfl
theorem SM(n:Nat):AE 0 (decDigits n)=n:=by
 refine SN (P:=fun n l=>AE 0 l=n) (fun d h=>?_) (fun a d _ h b=>?_) n
 ·show 10*0+Ih (z7<|48+d)=d;rw[(Li h).2];omega
 ·rw[C2,b];show 10*(a:Int)+Ih (z7<|48+d)=_;rw[(Li h).2];omega
theorem Gs{s:Z}(h:A1 s=true):s≠[]/\Ap s=true/\(s.getD 0 0≠48\/s=[48]):=by
 unfold A1 at h;rw[zd,zd,w5,Bool.or_eq_true,w5,w5]at h;exact⟨h.1.1,h.1.2,h.2⟩
theorem Ji{s:Z}(h:A1 s=true)(h0:s≠[48]):0<AE 0 s:=by
 obtain⟨i,a,b⟩:=Gs h;cases s with
 |nil=>exact wh rfl i
 |cons c r=>
  have e:(c::r).getD 0 0=c:=rfl;rw[e]at b;have d:c≠48:=by
   rcases b with x|x
   ·exact x
   ·exact wh x h0
  unfold Ap at a;rw[zz,zd]at a;have g:=Dg a.1;have hr:Ap r=true:=a.2;have k:=Bg hr;show 0<AE (10*0+Ih c) r;rw[EW];have hp:(0:Int)<10^r.length:=Int.pow_pos (by decide);have l:c.toNat≠48:=fun x=>d<|yr.1 x
  have f:0<10*0+Ih c:=by show 0<10*0+((c.toNat:Int)-48);have j:0<=((c.toNat:Int)-48):=g.1;omega
  have:=qw f hp;omega
theorem Pq{s:Z}(h:A1 s=true):s=decDigits (AE 0 s).toNat:=by
 generalize d:s.length=n;induction n generalizing s with
 |zero=>exact wh (yb.1 d) (Gs h).1
 |succ n m=>
  obtain⟨l,b,p⟩:=Gs h;obtain⟨t,c,rfl⟩:∃t c,s=t++[c]:=⟨_,_,(List.dropLast_concat_getLast l).symm⟩;unfold Ap at b;rw[List.all_append,zd,zz,zd]at b;obtain⟨h4,h5,_⟩:=b;obtain⟨b1,b2⟩:=gO h5;obtain⟨d1,_⟩:=Dg h5;rw[C2];show t++[c]=decDigits (10*AE 0 t+Ih c).toNat;by_cases a:t=[]
  ·subst a;show[c]=decDigits (10*0+Ih c).toNat;rw[show(10*0+Ih c).toNat=(Ih c).toNat by omega,decDigits_one b2, <-b1]
  ·have g:(t++[c]).getD 0 0=t.getD 0 0:=by
    cases t with
    |nil=>exact wh rfl a
    |cons x r=>rfl
   have f:t.getD 0 0≠48:=by
    rcases p with x|x
    ·rw[g]at x;exact x
    ·have i:=wi yz x;rw[zk]at i;have q:t.length+1=1:=i;exact wh (yb.1<|by omega) a
   have j:A1 t=true:=by
    unfold A1 Ap;rw[w4 a,h4,w4 f];rfl
   have hp:=Ji j (fun k=>f (by rw[k];rfl));have o:=m j (by rw[zk]at d;simpa using d);have e:(10*AE 0 t+Ih c).toNat=10*(AE 0 t).toNat+(Ih c).toNat:=by omega
   rw[e,Gq _ _ (by omega) b2, <-o, <-b1]
theorem Aa6:∀ {a:Z},(∀c∈a,c≠47)->AA a=a/\AS a=[]/\Bs a=false:=by
 intro a h;have b:Bs a=false:=by
  unfold Bs;rw[List.any_eq_false];intro x d;simpa using h x d
 exact⟨((Go.Pe.BQ a).2.2 b).1,((Go.Pe.BQ a).2.2 b).2,b⟩
theorem vB:∀ {a:Z} (b:Z),(∀c∈a,c≠47)->AA (a++47::b)=a/\AS (a++47::b)=b/\Bs (a++47::b)=true:=by
 intro a b h;have d:Bs (a++47::b)=true:=by
  unfold Bs;rw[List.any_eq_true];exact⟨47,by simp,rfl⟩
 have f:∀ {a:Z},(∀c∈a,c≠47)->AA (a++47::b)=a:=by
  intro a;induction a with
  |nil=>intro _;show AA (47::b)=[];rw[Go.Pe.Ek,wd rfl]
  |cons x r g=>
   intro h;show AA (x::(r++47::b))=_;rw[Go.Pe.Ek,wc (h x (by simp)),g<|fun c d=>h c<|List.mem_cons_of_mem _ d]
 have e:=f h;refine⟨e,?_,d⟩;rw[((Go.Pe.BQ _).2.1 d).2,e];simp
theorem RA{s:Z}(h:Ap s=true):∀c∈s,c≠47:=by
 intro c a e;unfold Ap at h;rw[qy]at h;have:=h c a;rw[e]at this;exact wh this (by decide)
theorem EZ{s:Z}(h:Ap s=true):s.getD 0 0≠45:=by
 cases s with
 |nil=>decide
 |cons c r=>
  unfold Ap at h;rw[zz,zd]at h;show c≠45;intro e;rw[e]at h;exact wh h.1 (by decide)
def AU(q:Rat):Z:=if q.den=1 then itoa q.num else itoa q.num++47::decDigits q.den
def Au(s:Z):Rat:=z6 (Bd s)<|AN s
theorem Dw(n:Int):(∀c∈itoa n,c≠47)/\A8 (itoa n)=decDigits n.natAbs/\preB (itoa n)=decide (n<0)/\BC (itoa n)=n:=by
 unfold itoa;by_cases h:n<0
 ·rw[wd h];refine⟨fun c a=>?_,rfl,(w4 h).symm,?_⟩
  ·rcases List.mem_cons.1 a with rfl|a
   ·decide
   ·exact RA (D3 _) c a
  ·show -AE 0 (decDigits n.natAbs)=n;rw[SM];omega
 ·rw[wc h];have b:=EZ<|D3 n.toNat;have e:n.toNat=n.natAbs:=by omega
  refine⟨RA<|D3 _,?_,?_,?_⟩
  ·unfold A8;rw[wc b,e]
  ·unfold preB;rw[w8 b,w8 h]
  ·unfold BC;rw[wc b,SM];omega
theorem FA(q:Rat):AA (AU q)=itoa q.num/\AS (AU q)=(if q.den=1 then[]else decDigits q.den)/\Bs (AU q)=decide (q.den≠1):=by
 unfold AU;have h:=(Dw q.num).1;by_cases a:q.den=1
 ·rw[wd a,wd a,w8<|not_not_intro a];exact Aa6 h
 ·rw[wc a,wc a,w4 a];exact vB _ h
theorem Kt(q:Rat):Bd (AU q)=q.num/\AN (AU q)=q.den:=by
 obtain⟨b,c,d⟩:=FA q;unfold Bd AN;rw[b,c,d];refine⟨(Dw q.num).2.2.2,?_⟩;by_cases a:q.den=1
 ·rw[wc (by simpa using a),a];rfl
 ·rw[wd<|w4 a,wc a];unfold BC;rw[wc<|EZ<|D3 _,SM]
theorem DJ(q:Rat):Au (AU q)=q:=by
 unfold Au;rw[(Kt q).1,(Kt q).2];exact zr q
theorem aS{p q:Rat}(h:AU p=AU q):p=q:=by
 rw[<-DJ p,h,DJ]
theorem YQ(a:Z):AA (A8 a)=A8 (AA a)/\AS (A8 a)=AS a/\Bs (A8 a)=Bs a/\preB (AA a)=preB a:=by
 unfold A8 preB;cases a with
 |nil=>exact⟨rfl,rfl,rfl,rfl⟩
 |cons c r=>
  have g:(c::r).getD 0 0=c:=rfl;rw[g,Go.Pe.Ek];by_cases b:c=45
  ·subst b;have e:AS (45::r)=AS r:=by
    unfold AS;rw[qm];cases r.findIdx? (fun x=>x==47)<;>rfl
   exact⟨rfl,e.symm,rfl,rfl⟩
  ·rw[wc b];by_cases d:c=47
   ·subst d;exact⟨(Go.Pe.Ek _ _),rfl,rfl,rfl⟩
   ·rw[wc d];have f:(c::AA r).getD 0 0=c:=rfl;rw[f,wc b];exact⟨by rw[Go.Pe.Ek,wc d],rfl,rfl,rfl⟩
theorem WV{a:Z}(h:At a=0):Ip a=true/\(AA<|A8 a).length<=600/\(AS<|A8 a).length<=600/\(Bs (A8 a)=true->gI (Abr a) (Aao a)=1):=by
 unfold At at h;cases b:Ip a with
 |false=>rw[wd b]at h;exact wh h (by decide)
 |true=>
  rw[wc<|by rw[b];decide]at h;split at h
  ·exact wh h (by decide)
  ·next c=>
   split at h
   ·exact wh h (by decide)
   ·next d=>exact⟨rfl,by omega,by omega,fun k=>qv fun g=>d ⟨k,g⟩⟩
def Hf(k:Nat)(q:Rat):Prop:=q.num.natAbs<10^k/\q.den<10^k
theorem PD{n d:Int}(a:0<d)(h:qj n d=1):(z6 n d).num=n/\((z6 n d).den:Int)=d:=by
 have b:d.sign=1:=jc a;rw[qp,qq,wc<|ye a,b,Int.one_mul,j6,h];refine⟨j7 _,?_⟩;rw[Nat.div_one,Int.natAbs_of_nonneg<|zw a]
theorem PT{s:Z}(h:Ap s=true){k:Nat}(a:s.length<=k):(AE 0 s).toNat<10^k:=by
 have b:=Bg h;have c:(10:Int)^s.length<=10^k:=AL (by decide) a;have d:((10^k:Nat):Int)=(10:Int)^k:=by simp
 omega
theorem Kv(k:Nat)(h:k≠0):(1:Int).toNat<10^k:=Nat.one_lt_pow h (by decide)
theorem vC:decDigits (yu 1)=[49]:=by rw[show yu 1=1 from rfl,decDigits_one<|by decide];rfl
theorem MO{s:Z}(h:At s=0):AU (Au s)=s/\(Au s).num=Bd s/\((Au s).den:Int)=AN s/\Hf 600 (Au s):=by
 obtain⟨p,l1,w,d⟩:=WV h;obtain⟨p1,p2,p3,p4⟩:=YQ s;unfold Ip at p;rw[zd,zd]at p;obtain⟨⟨fa,fm⟩,b⟩:=p;unfold Abr Aao at d;obtain⟨A,hA⟩:∃A,A=AA (A8 s):=⟨_,rfl⟩;obtain⟨B,hB⟩:∃B,B=AS (A8 s):=⟨_,rfl⟩;rw[<-hA]at fa fm l1 d;rw[<-hB]at b w d;rw[p3]at b d;have C:=(Gs fa).2.1;have x:=Pq fa;have v0:=Bg C;have i:Bd s=(if preB s=true then -AE 0 A else AE 0 A)/\AA s=(if preB s=true then 45::A else A):=by
  have E:A=A8 (AA s):=by rw[hA,p1]
  unfold Bd BC;rw[<-p4];unfold preB;rw[E];unfold A8;by_cases a:(AA s).getD 0 0=45
  ·rw[wd a,wd<|w4 a,wd a,wd<|w4 a];refine⟨rfl,?_⟩;cases z:AA s with
   |nil=>rw[z]at a;exact wh a (by decide)
   |cons c r=>
    rw[z]at a;have a:c=45:=a;rw[a];rfl
  ·rw[wc a,wc (by rw[w8 a];decide),wc a,wc<|by rw[w8 a];decide];exact⟨rfl,rfl⟩
 have u:(Bd s).natAbs=(AE 0 A).toNat:=by rw[i.1];split<;>omega
 have U:0<AN s/\(AN s).toNat<10^600/\qj (Bd s) (AN s)=1/\(Bs s=true->B=decDigits (AN s).toNat/\AN s≠1)/\(Bs s=false->AN s=1):=by
  unfold AN;rw[<-p2, <-hB];cases a:Bs s with
  |false=>
   rw[wc<|by decide];exact⟨by decide,Kv 600 (by decide),Int.gcd_one,(fun k=>by cases k),fun _=>rfl⟩
  |true=>
   rw[a]at b;have b:(A1 B&&decide (B≠[48])&&decide (B≠[49]))=true:=b;rw[zd,zd,w5,w5]at b;obtain⟨⟨l,T⟩,L⟩:=b;have v:=(Gs l).2.1;have hp:=Ji l T;have G:BC B=AE 0 B:=by unfold BC;rw[wc<|EZ v]
   rw[wd rfl,G];refine⟨hp,PT (k:=600) v w,?_,fun _=>⟨Pq l,?_⟩,(fun k=>by cases k)⟩
   ·have g:=d a;rw[Ha]at g;have g:qj (AE 0 A) (AE 0 B)=1:=by omega
    rw[i.1];split
    ·rw[Int.neg_gcd];exact g
    ·exact g
   ·intro e;have:=Pq l;rw[e]at this;exact L<|this.trans vC
 obtain⟨P,M,J,I,S⟩:=U;obtain⟨j,m⟩:=PD (n:=Bd s) P J;have j:(Au s).num=Bd s:=j;have m:((Au s).den:Int)=AN s:=m;have y:(Au s).den=(AN s).toNat:=by omega
 refine⟨?_,j,m,?_,?_⟩
 ·have K:itoa (Bd s)=AA s:=by
   rw[i.2];unfold itoa;by_cases f:preB s=true
   ·have q:A≠[48]:=by
     have o:preB s=true:=f;rw[o]at fm;simpa using fm
    have:=Ji fa q;rw[i.1,wd f,wd f,wd (by omega),Int.natAbs_neg];rw[show(AE 0 A).natAbs=(AE 0 A).toNat by omega, <-x]
   ·rw[i.1,wc f,wc f,wc (by omega), <-x]
  unfold AU;rw[j,y,K];obtain⟨D,N,H⟩:=Go.Pe.BQ s;cases a:Bs s with
  |false=>
   rw[S a,wd<|show yu 1=1 from rfl];exact(H a).1
  |true=>
   obtain⟨R,W⟩:=I a;obtain⟨m1,m2⟩:=N a;rw[wc (by omega), <-R,hB,p2,m2];have V:s.drop (AA s).length=47::s.drop ((AA s).length+1):=by
    have h0:∀t:Z,Bs t=true->t.drop (AA t).length=47::t.drop ((AA t).length+1):=by
     intro t;induction t with
     |nil=>intro h;cases h
     |cons c r O=>
      intro h;rw[Go.Pe.Ek];by_cases e:c=47
      ·rw[wd e,e];rfl
      ·rw[wc e];have F:Bs r=true:=by
        unfold Bs at h ⊢;rw[List.any_cons]at h;simpa [e]using h
       exact O F
    exact h0 s a
   rw[<-V];conv=>lhs;rw[D]
   have:=List.take_append_drop (AA s).length s;rw[<-D]at this ⊢;exact this
 ·rw[j,u];exact PT (k:=600) C l1
 ·rw[y];exact M
end Go.Sp
namespace Go.Sp
def AX(n:Int):Z:=zy n
def P0(s:Z)(n:Int):Z:=Lib.repeatL s n.toNat
end Go.Sp
namespace Go.Pe
open Go.Det
def hO:Am:=⟨[i64],fun n=>Sp.CI n,[.str],fun n=>Sp.AX n,false⟩
def VW:Am:=⟨[u64,i64],fun i=>decide (0<=i.1)&&decide (i.1<1000000000000000000)&&decide (i.2=10),[.str],fun i=>Sp.AX i.1,false⟩
def Tf:Am:=⟨[.str,i64],fun i=>decide (0<=i.2)&&decide (i.2<=1000)&&decide (i.1.length<=1000),[.str],fun i=>Sp.P0 i.1 i.2,false⟩
def AbZ:Am:=⟨[AY],fun a=>Sp.Bc a,[.str],fun a=>Sp.AX<|zf a,false⟩
def Rg:AV:=X7 [(211,hO),(179,P1),(212,GG),(213,VW),(214,Tf)]
open Sp
section
open List Int Prod
namespace T185
def T(a:AG):Tr:=tree Rg false 9 185<|Ae ([AY]) a
def L1(v3:Bool)(v4:List Int)(a:Nat)(b:List Int):Tr:=re ((T (0,[])).R.L)<|Aw 69 [(3,.dat Sh.bool v3),(4,.dat (Sh.list<|Sh.int jj) v4),(5,.sl 0 1 0 a none),(6,.nil)] [(0,.arr false 216 (Sh.int jj) b)] 1
theorem Ai(a:AG):T a=.ite (!decide (0<length (snd a))) (.ck (CI<|fst a)<|.leaf (.dat Sh.str<|AX<|fst a) []) (.ck (j5 a)<|L1 (decide (zf a<0)) (BA<|Ag<|zf a) 1<|[1000000000000000000]):=by kernel_rfl
def L2(v3:Bool)(v4:List Int)(b a:Nat)(o1:List Z)(c:List Int):Tr:=re ((stepT Rg<|L1 false [] 0 []).L.L.L.L.L.L.L.L.L)<|Aw 69 [(3,.dat Sh.bool v3),(4,.dat (Sh.list<|Sh.int jj) v4),(5,.sl 0 1 0 b none),(6,.sl 1 1 0 a none)] [(1,.arr false 9 Sh.str o1),(0,.arr true 216 (Sh.int jj) c)] 2
def L3(b:Int)(o1:List Int)(a:Nat):Tr:=re ((stepT Rg<|L1 false [] 0 []).R.L.L.L)<|Aw 69 [(6,.nil),(10,.ptr 0 0),(11,.dat i64 b)] [(1,.arr false 5 (Sh.int IntKind.u8) o1),(0,jk 253 [.ptr 0 0,.sl 1 1 0 a none])] 2
def L4(a:Int):Tr:=re ((stepT Rg<|L1 false [] 0 []).R.L.R)<|Aw 69 [(6,.nil),(10,.ptr 0 0),(11,.dat i64 a)] [(0,jk 253 [.ptr 0 0,.nil])] 1
def L5(a:Int):Tr:=re ((stepT Rg<|L1 false [] 0 []).R.R)<|Aw 69 [(6,.nil),(10,.ptr 0 0),(11,.dat i64 a)] [(0,jk 253 [PV.nilp,.nil])] 1
theorem Al(v3:Bool)(v4:List Int)(a:Nat)(c:List Int):stepT Rg (L1 v3 v4 a c)=let d:=BA<|As v4 % As (take a c);let b':=BA<|As v4/As (take a c);let g:=decide (1<=1)&&decide (0<1)&&decide ((3*1+2000)*16<=562949953421312);let f:=zg .i64<|0-1;let h:=AX<|getD d 0 0;let e:=18-(↑(length h):Int);.di ((length v4:Int)>0) (.ck (decide (0+a<=length c)&&true&&Sz v4 (take a c))<|.di ((↑(length d):Int)>0) (.cd (0<(↑(length d):Int))<|.ck (decide ((0:Sh.T u64)<=getD d 0 0)&&decide (getD d 0 0<(1000000000000000000:Sh.T u64))&&decide (10=10))<|.di ((↑(length b'):Int)>0) (.ck (decide (0<=zg .i64 e)&&decide (zg .i64 e<=1000)&&decide (1<=1000))<|.cd (length (P0 [(48:UInt8)]<|zg .i64 e)+length h<=4611686018427387904)<|.ck g<|L2 v3 b' a 1 ([P0 [(48:UInt8)] (zg .i64 e)++AX (getD d 0 0)]) c)<|.ck g<|L2 v3 b' a 1 ([AX<|getD d 0 0]) c)<|.di ((↑(length b'):Int)>0) (.ck true<|.ck true<|.ck true<|L2 v3 b' a 1 ([P0 [(48:UInt8)] (zg .i64<|18-1)++[(48:UInt8)]]) c)<|.ck true<|L2 v3 b' a 1 ([[(48:UInt8)]]) c) (.ite v3 (.ite true (.ck true<|L3 f (yp (fun b=>(↑(yg b):Int)) [(45:UInt8)]) 1)<|L4 f)<|L5 f):=by kernel_rfl
def L6(a:Nat)(c:Int)(d:List Int)(b:Nat)(e:List Z):Tr:=re ((stepT Rg<|L2 false [] 0 0 [] []).R.L.L.L)<|Aw 69 [(6,.sl 0 1 0 a none),(10,.ptr 1 0),(11,.dat i64 c)] [(2,.arr false 5 (Sh.int IntKind.u8) d),(1,jk 253 [.ptr 1 0,.sl 2 1 0 b none]),(0,.arr false 9 Sh.str e)] 3
def L7(a:Nat)(b:Int)(c:List Z):Tr:=re ((stepT Rg<|L2 false [] 0 0 [] []).R.L.R)<|Aw 69 [(6,.sl 0 1 0 a none),(10,.ptr 1 0),(11,.dat i64 b)] [(1,jk 253 [.ptr 1 0,.nil]),(0,.arr false 9 Sh.str c)] 2
def L8(a:Nat)(b:Int)(c:List Z):Tr:=re ((stepT Rg<|L2 false [] 0 0 [] []).R.R)<|Aw 69 [(6,.sl 0 1 0 a none),(10,.ptr 1 0),(11,.dat i64 b)] [(1,jk 253 [PV.nilp,.nil]),(0,.arr false 9 Sh.str c)] 2
theorem AH(v3:Bool)(v4:List Int)(a c:Nat)(o1:List Z)(d:List Int):stepT Rg (L2 v3 v4 a c o1 d)=let e:=BA<|As v4 % As (take a d);let b':=BA<|As v4/As (take a d);let h:=decide ((3*(c+1)+2000)*16<=562949953421312);let i:=zg .i64<|(↑c:Int)-1;let j:=decide (c=length o1);let f:=Nat.add c 1;let h':=decide (1<=1)&&true&&j&&h;let k:=AX<|getD e 0 0;let g:=18-(↑(length k):Int);.di ((length v4:Int)>0) (.ck (decide (0+a<=length d)&&true&&Sz v4 (take a d))<|.di ((↑(length e):Int)>0) (.cd (0<(↑(length e):Int))<|.ck (decide ((0:Sh.T u64)<=getD e 0 0)&&decide (getD e 0 0<(1000000000000000000:Sh.T u64))&&decide (10=10))<|.di ((↑(length b'):Int)>0) (.ck (decide (0<=zg .i64 g)&&decide (zg .i64 g<=1000)&&decide (1<=1000))<|.cd (length (P0 [(48:UInt8)]<|zg .i64 g)+length k<=4611686018427387904)<|.ck h'<|L2 v3 b' a f (o1++[P0 [(48:UInt8)] (zg .i64 g)++AX (getD e 0 0)]) d)<|.ck h'<|L2 v3 b' a f (o1++[AX<|getD e 0 0]) d)<|.di ((↑(length b'):Int)>0) (.ck true<|.ck true<|.ck (j&&h)<|L2 v3 b' a f (o1++[P0 [(48:UInt8)] (zg .i64<|18-1)++[(48:UInt8)]]) d)<|.ck (j&&h)<|L2 v3 b' a f (o1++[[(48:UInt8)]]) d) (.ite v3 (.ite true (.ck true<|L6 c i (yp (fun b=>(↑(yg b):Int)) [(45:UInt8)]) 1 o1)<|L7 c i o1)<|L8 c i o1):=by kernel_rfl
theorem ET(d:Nat)(c:Int)(e:List Int)(a:Nat)(f:List Z):stepT Rg (L6 d c e a f)=let g:=getD f (toNat c) [];.di (c>=0) (.ck (decide (0<=c)&&decide (c<(↑d:Int)))<|.cd (toNat c<length f)<|.ck (decide (a=length e)&&decide ((3*(a+length (yp (fun b=>(↑(yg b):Int)) g))+2000)*1<=562949953421312))<|L6 d (zg .i64<|c-1) (e++yp (fun b=>(↑(yg b):Int)) g) (Nat.add a<|length<|yp (fun b=>(↑(yg b):Int)) g) f) (.cd (0<a)<|.ck (decide (0<(↑a:Int))&&decide (toNat (↑a:Int)<=length e)&&decide (toNat (↑a:Int)<=9223372036854775807)&&List.all e fun x=>decide (0<=x)&&decide (x<256))<|.leaf (.dat Sh.str<|yp (fun x=>z7<|toNat x)<|take (toNat (↑a:Int)) e) []):=by kernel_rfl
theorem Hs(c:Nat)(a:Int)(d:List Z):stepT Rg (L8 c a d)=let e:=getD d (toNat a) [];let b':=zg .i64<|a-1;.cd (a>=0) (.ck (decide (0<=a)&&decide (a<(↑c:Int)))<|.cd (toNat a<length d)<|.di (0<length (yp (fun b=>(↑(yg b):Int)) e)) (.cd ((3*length (yp (fun b=>(↑(yg b):Int)) e)+2000)*1<=562949953421312)<|L6 c b' (yp (fun b=>(↑(yg b):Int)) e) (length<|yp (fun b=>(↑(yg b):Int)) e) d)<|L7 c b' d):=by kernel_rfl
end T185
end
theorem MJ{f:FuncId}{sp:Am}{q:List V->H->Option (V×H)}(hp:A6.prim f=none)(d:∃i,A6.fn f=some i)(p:A6.spec f=some q)
  (c:∀(F:Fz) (h:H) (args:List V) (i:(By sp.ins).T),Gh h->MG F (Ae sp.ins i) args->sp.pre i=true->∃v,q args h=some (v,h)/\PC F (one<|Ae sp.outs<|sp.f i) v):Af A6 f sp:=by
 refine .of0 ⟨hp,d,fun F h args i e j g a b=>?_⟩;obtain⟨v,n,l⟩:=c F h args i g a b;refine⟨[(v,h)],1,fun m r=>?_,fun _=>⟨_,rfl⟩,fun x o=>?_⟩
 ·obtain⟨k,rfl⟩:∃k,m=k+1:=⟨m-1,by omega⟩;rw[Bl];simp only[p,n]
 ·cases yx.1 o;exact⟨yf _,fun _ _=>rfl,j,F,fun _ _ h=>h,fun _ _ h=>.inl h,e,l⟩
theorem AcS:∃cs t fz,(5,O.cells cs t fz)∈GC/\eqU cs Lib.pow10Tab=true:=⟨_,_,_,List.mem_cons_self ..,by kernel_rfl⟩
theorem ZE{h:H}(c:Gh h):SC h=true:=by
 obtain⟨cs,t,fz,b,a⟩:=AcS;have d:=c _ b;unfold SC;rw[d];exact a
theorem xQ:Af A6 211 hO:=by
 refine MJ (q:=YF) (by kernel_rfl) (Bb<|by kernel_rfl) rfl fun F h args (n:Int) hg a hp=>?_
 have hp:Sp.CI n=true:=hp;have a:args=[.int .i64 n]:=by
  have:=a (fun _=>none) 0;simp only[Ae,hO,Bf]at this;obtain⟨v,vs,rfl,b,rfl⟩:=this;obtain rfl:=CU b;rfl
 subst a;refine⟨.str<|zy n,?_,fun ρ N=>KT _⟩;have:=EK hp;have d:decide (-9223372036854775808<=n)=true:=w4 (by omega);have c:decide (n<=9223372036854775807)=true:=w4 (by omega);simp only[YF,ZE hg,d,c,Bool.and_self,we]
theorem bV:Af A6 214 Tf:=by
 refine MJ (q:=TC) (by kernel_rfl) (Bb<|by kernel_rfl) rfl fun F h args (i:Z×Int) hg a hp=>?_
 obtain⟨s,n⟩:=i;have hp:(decide (0<=n)&&decide (n<=1000)&&decide (s.length<=1000))=true:=hp;rw[zd,zd,w5,w5,w5]at hp;obtain⟨⟨h0,h1⟩,h2⟩:=hp;obtain⟨c,rfl⟩:=yo h0;have a:args=[.str s,.int .i64 (c:Int)]:=by
  have:=a (fun _=>none) 0;simp only[Ae,Tf,Bf]at this;obtain⟨v,vs,rfl,d,w,ws,rfl,e,rfl⟩:=this;obtain rfl:=FI d;obtain rfl:=CU e;rfl
 subst a;refine⟨.str<|Sp.P0 s (c:Int),?_,fun ρ N=>KT _⟩;have f:j8 c 9223372036854775807=true:=qe (by omega);have b:j8 (EP s*c) 140737488355328=true:=qe (by
  rw[Da];have:s.length*c<=1000*1000:=Nat.mul_le_mul h2 (by omega);omega)
 show(bif j8 c 9223372036854775807&&j8 (EP s*c) 140737488355328 then some (V.str<|Lib.repeatL s c,h)else none)=_;rw[f,b];rfl
theorem mU:Af A6 213 VW:=by
 refine MJ (q:=fmtQ) (by kernel_rfl) (Bb<|by kernel_rfl) rfl fun F h args (i:Int×Int) hg a hp=>?_
 obtain⟨u,b⟩:=i;have hp:(decide (0<=u)&&decide (u<1000000000000000000)&&decide (b=10))=true:=hp;rw[zd,zd,w5,w5,w5]at hp;obtain⟨⟨h0,h1⟩,rfl⟩:=hp;obtain⟨c,rfl⟩:=yo h0;have a:args=[.int .u64 (c:Int),.int .i64 10]:=by
  have:=a (fun _=>none) 0;simp only[Ae,VW,Bf]at this;obtain⟨v,vs,rfl,d,w,ws,rfl,f,rfl⟩:=this;obtain rfl:=CU d;obtain rfl:=CU f;rfl
 subst a;refine⟨.str<|Sp.AX (c:Int),?_,fun ρ N=>KT _⟩;have g:j8 c 18446744073709551615=true:=qe (by omega);have e:Sp.AX (c:Int)=zl c:=Lib.itoa_nonneg _;rw[e];show(bif SC h&&(j8 c 18446744073709551615&&Nat.beq 10 10)then some (V.str<|zl c,h)else none)=_;rw[ZE hg,g];rfl
namespace T185
abbrev qP(s:Z):List Int:=yp (fun b=>(↑(yg b):Int)) s
theorem Vd:∀s:Z,yp (fun x:Int=>z7<|yu x) (qP s)=s
 |[]=>rfl
 |b::s=>by
  have:=Vd s;simp only[qP,List.map_cons]at this ⊢;rw[this];simp
theorem Zx:∀s:Z,(List.all (qP s) fun x=>decide ((0:Int)<=x)&&decide (x<(256:Int)))=true
 |[]=>rfl
 |b::s=>by
  have a:=Zx s;have c:=b.toNat_lt;simp only[qP,List.map_cons,zz]at a ⊢;rw[a,Bool.and_true,zd,w5,w5];omega
theorem rV(a b:Z):qP a++qP b=qP (a++b):=by simp[qP]
variable {Q:PV->Ob->Prop}
theorem Fh(c:List Z)(T:Z)(q:T.length<=1000000)(m:c.length<=1000000)(k:∀ob,Q (.dat .str T) ob):∀(i:Nat) (a:Z) (b:Int) (n:Nat),i<=c.length->b=(i:Int)-1->n=a.length->0<a.length->a++(c.take i).reverse.flatten=T->
  Ends Rg (L6 c.length b (qP a) n c) Q
 |0,a,b,n,_,l,g,h0,d=>by
  have d:a=T:=by simpa using d
  subst d g;refine zj (ET ..) (zq (w8<|by omega)<|zc (w4 h0)<|zc (Ab (Ab (Ab (w4<|by omega)<|w4<|by simp)<|w4<|by simp;omega)<|Zx a)<|ze ?_);have e:yp (fun x:Int=>z7<|yu x) (jl (yu (a.length:Int))<|qP a)=a:=by
   rw[zh,yc (by simp),Vd]
  rw[e];exact k _
 |i+1,a,b,n,j,l,g,h0,d=>by
  have p:List.getD c (yu b) []=c[i]:=by
   rw[show yu b=i from by omega];simp[show i<c.length from j]
  have h:a++c[i]++(c.take i).reverse.flatten=T:=by
   have o:c.take (i+1)=c.take i++[c[i]]:=y8 j;rw[<-d,o,List.reverse_append,je,List.singleton_append,List.flatten_cons,y9]
  have f:=wi yz h;simp only[zk]at f;refine zj (ET ..) (zc (w4<|by omega)<|zc (ad (by omega)<|by omega)<|zc (w4<|by omega) ?_);rw[p];refine zc (Ab (w4<|by simp[g])<|w4<|by rw[yv];omega) ?_;rw[rV,wr (b-1) (by omega)<|by omega];exact Fh c T q m k i (a++c[i]) (b-1) _ (by omega) (by omega) (by rw[zk,yv,g];rfl) (by rw[zk];omega) h
theorem FX(a:List Z)(T:Z)(k:T.length<=1000000)(j:a.length<=1000000)(m:∀ob,Q (.dat .str T) ob)(i:Nat)(l:i+1=a.length)(b:Int)(o:b=(i:Int))(c:0<(a[i]'(by omega)).length)(h:a.reverse.flatten=T):
  Ends Rg (L8 a.length b a) Q:=by
 have d:i<a.length:=by omega
 have n:List.getD a (yu b) []=a[i]:=by
  rw[show yu b=i from by omega];simp[d]
 have g:a[i]++(a.take i).reverse.flatten=T:=by
  have f:a.take (i+1)=a.take i++[a[i]]:=y8 d;rw[l,ym]at f;rw[<-h];conv=>rhs;rw[f]
  rw[List.reverse_append,je,List.singleton_append,List.flatten_cons]
 have e:=wi yz g;simp only[zk]at e;refine zj (Hs ..) (zc (w4<|by omega)<|zc (ad (by omega)<|by omega)<|zc (w4<|by omega) ?_);rw[n];refine zc (w4<|by rw[yv];exact c) (zc (w4<|by rw[yv];omega) ?_);rw[wr (b-1) (by omega)<|by omega];exact Fh a T k j m i a[i] (b-1) _ (by omega) (by omega) (by rw[yv]) c g
end T185
theorem Vn{r:Int}(h0:0<r)(e:r<18446744073709551616):BA r=[r]:=by
 have f:Ay Ao [r]:=by
  intro x a;rw[yx]at a;subst a;exact⟨by omega,e⟩
 have d:Sp.nz [r]:=by
  unfold Sp.nz;simp;omega
 have:=IF (b:=Ao) (by decide) f d;have c:j9 Ao [r]=r:=by simp[j9]
 rw[c]at this;exact this.symm
theorem Mf:BA 0=[]:=by
 unfold BA;rfl
theorem Qv:As [1000000000000000000]=1000000000000000000:=by simp[As,j9]
theorem cS(n:Nat):P0 [48] (n:Int)=List.replicate n 48:=by
 unfold P0;rw[zh];induction n with
 |zero=>rfl
 |succ n a=>rw[Lib.repeatL,a];rfl
theorem T1(V:Nat):As (BA (V:Int))=(V:Int):=Dd (b:=Ao) (by decide) (by omega)
theorem pL{V:Nat}(a:(V:Int)<(Ao:Int)^9000):Sz (BA (V:Int)) [1000000000000000000]=true:=by
 obtain⟨n1,c,d⟩:=Dh (n:=(V:Int)) (by omega) a (by omega);have b:=K2 (n:=(V:Int)) (by omega) a;unfold Sz;refine Ab (Ab (Ab (Ab n1 ?_)<|w4 b)<|w4<|by decide) (w4<|by rw[Qv];decide);decide
theorem WA(V:Nat):BA (As (BA (V:Int))/As (jl 1 [1000000000000000000]))=BA ((V/10^18:Nat):Int):=by
 rw[T1,show jl 1 [(1000000000000000000:Int)]=[1000000000000000000]from rfl,Qv];congr 1
theorem Vc(V:Nat):BA (As (BA (V:Int)) % As (jl 1 [1000000000000000000]))=BA ((V % 10^18:Nat):Int):=by
 rw[T1,show jl 1 [(1000000000000000000:Int)]=[1000000000000000000]from rfl,Qv];congr 1
theorem JX{V:Nat}(h:0<V):0<(BA (V:Int)).length:=by
 rcases yw (BA (V:Int)).length with e|e
 ·have a:=T1 V;rw[yb.1 e]at a;have b:As []=0:=rfl;rw[b]at a;omega
 ·exact e
theorem NZ:∀(k u:Nat),u<10^(k+1)->Lib.nDigits u<=k+1
 |0,u,h=>by rw[Lib.nDigits_small<|by omega];omega
 |k+1,u,h=>by
  by_cases c:u<10
  ·rw[Lib.nDigits_small c];omega
  ·rw[Lib.nDigits_big c];have:u/10<10^(k+1):=by rw[qk]at h;omega
   have:=NZ k (u/10) this;omega
theorem TR{r:Nat}(h:r<10^18):(zl r).length<=18:=by
 rw[yi];exact NZ 17 r h
theorem M7(r:Nat):AX (r:Int)=zl r:=Lib.itoa_nonneg r
theorem Sx(r:Nat)(h:r<10^18):P0 [48] ((18:Int)-((zl r).length:Int))++zl r=Gz 18 r:=by
 have:=TR h;rw[show(18:Int)-((zl r).length:Int)=((18-(zl r).length:Nat):Int)from by omega,cS,yi];rfl
structure Small(V:Nat):Prop where
 h:(V:Int)<(Ao:Int)^9000
theorem Small.le{a b:Nat}(h:Small b)(c:a<=b):Small a:=⟨zx (Int.ofNat_le.mpr c) h.h⟩
theorem Small.div{V:Nat}(h:Small V):Sz (BA (V:Int)) [1000000000000000000]=true:=pL h.h
namespace T185
variable {Q:PV->Ob->Prop}
def Exit(neg:Bool)(G:List Z)(Q:PV->Ob->Prop):Prop:=Ends Rg (.ite neg (.ite true (.ite true (L6 G.length (zg IntKind.i64<|(G.length:Int)-1) (yp (fun b=>(↑(yg b):Int)) [(45:UInt8)]) 1 G) .fail)<|L7 G.length (zg IntKind.i64<|(G.length:Int)-1) G)<|L8 G.length (zg IntKind.i64<|(G.length:Int)-1) G) Q
theorem A2(neg:Bool)(G:List Z)(hG:G.length<=1000000)(a:Exit neg G Q):∀(f V:Nat) (o1:List Z),V<f->Small V->o1++(if V=0 then[]else Cv f V)=G->Ends Rg (L2 neg (BA (V:Int)) 1 o1.length o1 [1000000000000000000]) Q
 |0,V,o1,h,_,_=>by omega
 |f+1,V,o1,h,k,d=>by
  rcases yw V with h0|h0
  ·subst h0;have d:o1=G:=by simpa using d
   subst d;refine zj (AH ..) (zq (by rw[show((0:Nat):Int)=0 from rfl,Mf];rfl) ?_);exact a
  have e:V % 10^18<10^18:=Nat.mod_lt _ (by decide);rw[wc<|by omega]at d;have l:∀s,s=(if V/10^18=0 then zl (V % 10^18)else Gz 18<|V % 10^18)->(o1++[s])++(if V/10^18=0 then[]else Cv f<|V/10^18)=G:=by
   rintro s rfl;rw[<-d,y9];congr 1;have m:Cv (f+1) V=if V<10^18 then[zl V]else Gz 18 (V % 10^18)::Cv f (V/10^18):=rfl
   rw[m];by_cases c:V<10^18
   ·rw[wd c,wd (by omega),wd (by omega),Nat.mod_eq_of_lt c];rfl
   ·rw[wc c,wc (by omega),wc<|by omega];rfl
  have o:o1.length+1<=1000000:=by
   have:=wi yz<|l _ rfl;simp only[zk,List.length_singleton]at this;omega
  have next:∀s,s=(if V/10^18=0 then zl (V % 10^18)else Gz 18<|V % 10^18)->Ends Rg (L2 neg (BA ((V/10^18:Nat):Int)) 1 (Nat.add o1.length 1) (o1++[s]) [1000000000000000000]) Q:=by
   intro s n;have:=A2 neg G hG a f (V/10^18) (o1++[s]) (by omega) (k.le<|Nat.div_le_self _ _)<|l s n;rw[zk]at this;exact this
  refine zj (AH ..) (zc (w4 (by have:=JX h0;omega))<|zc (Ab rfl k.div) ?_);rw[WA,Vc];rcases yw (V % 10^18)with i|i
  ·have q0:V/10^18≠0:=by omega
   rw[i,show((0:Nat):Int)=0 from rfl,Mf];refine zq rfl (zc (w4 (by have:=JX (V:=V/10^18) (by omega);omega))<|zc rfl (zc rfl (zc (Ab (w4 rfl)<|w4<|by omega)<|next _ ?_)));have hp:=Sx 0 (by decide);rw[qc<|by omega]at hp;rw[wc q0,i, <-hp];rfl
  ·rw[Vn (r:=((V % 10^18:Nat):Int)) (by omega)<|by omega];have j:List.getD [((V % 10^18:Nat):Int)] 0 0=((V % 10^18:Nat):Int):=rfl;rw[j,M7];have q:=TR e;have g:((V % 10^18:Nat):Int)<1000000000000000000:=by omega
   have p:0<(zl<|V % 10^18).length:=by
    rw[yi,Lib.nDigits];split<;>omega
   refine zc rfl (zc rfl (zc (Ab (Ab (w4<|Int.natCast_nonneg _)<|w4 g) rfl) ?_));rw[wr _ (by omega)<|by omega];by_cases q0:V/10^18=0
   ·rw[q0];refine zq (by rw[show((0:Nat):Int)=0 from rfl,Mf];rfl) (zc (Ab (Ab rfl (w4 rfl))<|w4<|by omega) ?_);have:=next _ rfl;rw[wd q0,q0]at this;exact this
   ·have b:=Sx _ e;refine zc (w4 (by have:=JX (V:=V/10^18) (by omega);omega)) (zc (Ab (ad (by omega)<|by omega) rfl)<|zc (w4 ?_) (zc (Ab (Ab rfl (w4 rfl))<|w4<|by omega)<|next _ ?_))
    ·rw[<-zk,b];unfold Gz;rw[zk,List.length_replicate];omega
    ·rw[wc q0];exact b
end T185
end Go.Pe
namespace Go.Sp
theorem Ga{n d:Int}(a:d≠0):(z6 n d).num.natAbs<=n.natAbs/\(z6 n d).den<=d.natAbs:=by
 rw[qp,qq,wc a];refine⟨?_,Nat.div_le_self _ _⟩;refine qz (qu _ _) ?_;rw[yt,Int.natAbs_sign_of_ne_zero a,Nat.one_mul];exact yf _
theorem K1{n d:Int}{k:Nat}(a:d≠0)(c:n.natAbs<10^k)(b:d.natAbs<10^k):Hf k (z6 n d):=
 ⟨yy (Ga a).1 c,yy (Ga a).2 b⟩
theorem Hf.mono{j k:Nat}{q:Rat}(h:Hf j q)(a:j<=k):Hf k q:=
 ⟨qt h.1 (qf (by decide) a),qt h.2<|qf (by decide) a⟩
theorem DW{a b i j:Nat}(d:a<10^i)(c:b<10^j):a*b<10^(i+j):=by
 rw[Nat.pow_add];exact yy (Nat.mul_le_mul_left _<|Nat.le_of_lt c) ((Nat.mul_lt_mul_right<|Nat.pow_pos<|by decide).2 d)
theorem Je(q:Rat):(q.den:Int)≠0:=by have:=q.den_pos;omega
theorem Hf.mul{p q:Rat}{i j:Nat}(hp:Hf i p)(a:Hf j q):Hf (i+j) (p*q):=by
 have h:=Rat.divInt_mul_divInt p.num q.num (d₁:=p.den) (d₂:=q.den);rw[zr,zr]at h;rw[h];refine K1 ?_ ?_ ?_
 ·exact Int.mul_ne_zero (Je p)<|Je q
 ·rw[yt];exact DW hp.1 a.1
 ·rw[yt,zm,zm];exact DW hp.2 a.2
theorem Hf.add{p q:Rat}{i j:Nat}(hp:Hf i p)(a:Hf j q):Hf (i+j+1) (p+q):=by
 have h:=qd p.num q.num (Je p)<|Je q;rw[zr,zr]at h;rw[h];have a1:=DW hp.1 a.2;have a2:=DW a.1 hp.2;have a3:=DW hp.2 a.2;rw[Nat.add_comm]at a2;refine K1 (Int.mul_ne_zero (Je p)<|Je q) ?_ ?_
 ·refine yy (Int.natAbs_add_le _ _) ?_;rw[yt,yt,zm,zm,qk];omega
 ·rw[yt,zm,zm,qk];omega
theorem Hf.neg{q:Rat}{k:Nat}(h:Hf k q):Hf k (-q):=by
 unfold Hf at*;rw[jh,ji,Int.natAbs_neg];exact h
theorem Hf.sub{p q:Rat}{i j:Nat}(hp:Hf i p)(a:Hf j q):Hf (i+j+1) (p-q):=by
 rw[Rat.sub_eq_add_neg];exact hp.add a.neg
theorem Hf.inv{q:Rat}{k:Nat}(h:Hf k q)(h0:q≠0):Hf k q⁻¹:=by
 have e:=Rat.inv_divInt q.num q.den;rw[zr]at e;rw[e];exact K1 (fun x=>h0<|qg.mp x) (by rw[zm];exact h.2) h.1
theorem Hf.div{p q:Rat}{i j:Nat}(hp:Hf i p)(a:Hf j q)(h0:q≠0):Hf (i+j) (p/q):=by
 rw[Rat.div_def];exact hp.mul<|a.inv h0
def RJ(n:Int):Bool:=decide (600<(zl n.natAbs).length)
def Uo(q:Rat):Bool:=RJ q.num||RJ q.den
theorem Gn{u k:Nat}(h:u<10^k)(a:1<=k):(zl u).length<=k:=by
 rw[yi];obtain⟨j,rfl⟩:∃j,k=j+1:=⟨k-1,by omega⟩;exact Go.Pe.NZ j u h
theorem CP(u:Nat){k:Nat}(h:(zl u).length<=k):u<10^k:=by
 rw[yi]at h;exact qt (Lib.lt_pow_nDigits u) (qf (by decide) h)
theorem LQ{q:Rat}{k:Nat}(h:Hf k q)(a:1<=k):(AU q).length<=2*k+2:=by
 have b:=Gn h.1 a;have c:=Gn h.2 a;have d:(zy q.num).length<=k+1:=by
  unfold zy;split
  ·rw[zu];omega
  ·rw[show q.num.toNat=q.num.natAbs by omega];omega
 unfold AU;split
 ·omega
 ·rw[zk,zu];omega
def Bj(s:Z):Bool:=decide (AU (Au s)=s)&&decide (s.length<=4000)
theorem F5{s:Z}(h:Bj s=true):AU (Au s)=s/\s.length<=4000:=by
 unfold Bj at h;rwa [zd,w5,w5]at h
theorem RT{q:Rat}{k:Nat}(h:Hf k q)(a:k<=1999):Bj (AU q)=true:=by
 have b:=LQ (h.mono a) (by decide);unfold Bj;rw[DJ,w4 rfl,w4<|by omega];rfl
theorem CQ{s:Z}(h:At s=0):Bj s=true/\Hf 600 (Au s):=by
 obtain⟨b,_,_,a⟩:=MO h;exact⟨by rw[<-b];exact RT a (by decide),a⟩
theorem T7{s:Z}(h:Bj s=true):Hf 4000 (Au s):=by
 obtain⟨d,f⟩:=F5 h;have e:(AU<|Au s).length<=4000:=by rw[d];exact f
 generalize Au s=q at*;have a:=CP q.num.natAbs<|yf _;have b:=CP q.den<|yf _;have g:(zl q.num.natAbs).length<=(zy q.num).length:=by
  unfold zy;split
  ·rw[zu];omega
  ·rw[show q.num.toNat=q.num.natAbs by omega];exact yf _
 unfold AU at e;split at e
 ·next c=>exact⟨CP (k:=4000) _ (by omega),by rw[c];exact Kv 4000<|by decide⟩
 ·rw[zk,zu]at e;exact⟨CP (k:=4000) _ (by omega),CP (k:=4000) _<|by omega⟩
theorem JI(q:Rat):EU (AU q)=Mt q.num:=by
 have h0:AU q=[48]↔q=0:=by
  have:AU (0:Rat)=[48]:=by
   unfold AU;rw[wd<|show Rat.den 0=1 from rfl];show zy 0=[48];unfold zy;rw[wc (by decide),show(0:Int).toNat=0 from rfl,qc<|by decide];rfl
  rw[<-this];exact⟨aS,fun h=>by rw[h]⟩
 unfold EU Mt;by_cases a:q=0
 ·rw[wd<|h0.2 a,a];rfl
 ·rw[wc<|fun h=>a<|h0.1 h];have e:q.num≠0:=fun h=>a<|qg.mp h
  have d:(AU q).getD 0 0=(zy q.num).getD 0 0:=by
   unfold AU;split
   ·rfl
   ·have:zy q.num≠[]:=by unfold zy;split;exact List.cons_ne_nil _ _;exact pB _
    cases b:zy q.num with
    |nil=>exact wh b this
    |cons c r=>rfl
  rw[d];unfold zy;by_cases h:q.num<0
  ·rw[wd h,wd h];rfl
  ·rw[wc h,wc h,wc<|EZ<|D3 _,wd<|by omega]
theorem Wa(n:Int)(h:n≠0):zy (-n)=if n<0 then(zy n).drop 1 else 45::zy n:=by
 unfold zy;by_cases c:n<0
 ·rw[wc (by omega),wd c,wd c,show(-n).toNat=n.natAbs by omega];rfl
 ·rw[wd (by omega),wc c,wc c,show(-n).natAbs=n.toNat by omega]
theorem VS(q:Rat):GD (AU q)=AU (-q):=by
 have a:=JI q;unfold EU at a;unfold GD;by_cases h0:AU q=[48]
 ·rw[wd h0]at a ⊢;have:q.num=0:=by
   unfold Mt at a;split at a
   ·exact wh a (by decide)
   ·split at a
    ·exact wh a (by decide)
    ·omega
  have:q=0:=qg.mp this;rw[this];rfl
 ·rw[wc h0]at a ⊢;have b:q.num≠0:=by
   intro h;rw[h]at a;split at a<;>exact wh a (by decide)
  have e:AU (-q)=if q.num<0 then(AU q).drop 1 else 45::AU q:=by
   unfold AU;rw[jh,ji,Wa _ b];by_cases c:q.num<0
   ·rw[wd c,wd c];have:zy q.num=45::zl q.num.natAbs:=by unfold zy;rw[wd c]
    rw[this];split<;>rfl
   ·rw[wc c,wc c];split<;>rfl
  rw[e];unfold Mt at a;by_cases c:q.num<0
  ·rw[wd c]at a ⊢;split at a
   ·next k=>rw[wd k]
   ·exact wh a (by decide)
  ·rw[wc c,wd<|show q.num>0 by omega]at a;rw[wc c];split at a
   ·exact wh a (by decide)
   ·next k=>rw[wc k]
open Go.Lib
theorem My:∀(f n l:Nat) (a:Z),l<=a.length->n<10^f->HL f n l a=if n=0 then a else decDigits n++a
 |0,n,l,a,_,b=>by rw[Nat.pow_zero]at b;rw[wd<|by omega];rfl
 |f+1,n,l,a,d,b=>by
  rw[qk]at b;unfold HL;by_cases h:n=0
  ·rw[wd ⟨h,d⟩,wd h]
  ·rw[wc<|fun k=>h k.1,wc h,My f (n/10) l _ (by rw[zu];omega)<|by omega];by_cases c:n/10=0
   ·rw[wd c,decDigits_one (by omega),show n % 10=n by omega];rfl
   ·have e:=Gq (n/10) (n % 10) (by omega) (by omega);rw[show 10*(n/10)+n % 10=n by omega]at e;rw[wc c,e,y9];rfl
theorem iP{d:Nat}(h:d<10):Gz 1 d=[z7<|48+d]:=by
 unfold Gz;rw[nDigits_small h,decDigits_one h];rfl
theorem U6:∀(k f n l:Nat) (a:Z),a.length+(k+1)=l->n<10^(k+1)->k+1<=f->HL f n l a=Gz (k+1) n++a
 |k,0,n,l,a,_,_,h=>by omega
 |0,f+1,n,l,a,c,b,_=>by
  unfold HL;rw[wc (by omega),iP (by omega),My f (n/10) l _ (by rw[zu];omega) (by rw[show n/10=0 by omega];exact Nat.pow_pos<|by decide),wd (by omega),show n % 10=n by omega];rfl
 |k+1,f+1,n,l,a,c,b,d=>by
  rw[qk]at b;have e:=RE (k+1) (n/10) (n % 10) (by omega) (by omega);rw[show 10*(n/10)+n % 10=n by omega]at e;unfold HL;rw[wc (by omega),U6 k f (n/10) l _ (by rw[zu];omega) (by omega) (by omega),e,y9];rfl
theorem PY{n:Int}(h0:0<=n)(a:n<9223372036854775808):Iz n 1=decDigits n.toNat:=by
 show HL 64 n.toNat 1 []=_;unfold HL;rw[wc<|by simp];rw[My 63 (n.toNat/10) 1 _ (by simp)<|by omega];by_cases h:n.toNat<10
 ·rw[wd (by omega),decDigits_one h,show n.toNat % 10=n.toNat by omega]
 ·have e:=Gq (n.toNat/10) (n.toNat % 10) (by omega) (by omega);rw[show 10*(n.toNat/10)+n.toNat % 10=n.toNat by omega]at e;rw[wc (by omega),e]
theorem eR{n:Int}(h0:0<=n)(a:n<1000000000):Iz n 9=Gz 9 n.toNat:=by
 show HL 64 n.toNat 9 []=_;rw[U6 8 64 n.toNat 9 [] rfl (by omega) (by decide),List.append_nil]
def Dp(n d:Int):Z:=AU<|z6 n d
theorem dD(n:Int):itoa n=(if n<0 then[45]else[])++decDigits n.natAbs:=by
 unfold itoa;split
 ·rfl
 ·rw[show n.toNat=n.natAbs by omega];rfl
end Go.Sp
namespace Go.Sp
def vR(a:Bool×List Int):Int:=if a.1=true then -An a.2 else An a.2
def Cu(a:Bool×List Int):Bool:=Ba a.2&&decide (a.2.length<=3000)&&(!a.1||decide (a.2≠[]))
def Il(l:List Int)(i:Int):Int:=l.getD i.toNat 0
def mO(a b:List Int):Bool:=Ba a&&Ba b&&decide (a.length<=9000)&&decide (b.length<=9000)
def Ij(a b:List Int):List Int:=BL<|An a+An b
def Jc(a b:List Int):List Int:=BL<|An a-An b
def Nq(a b:Bool×List Int):Bool:=rN<|vR a+vR b
def NC(a b:Bool×List Int):List Int:=rW<|vR a+vR b
def Ib(a b:Bool×List Int):Bool:=rN<|vR a*vR b
def HT(a b:Bool×List Int):List Int:=rW<|vR a*vR b
def SA(a:Bool×List Int):Bool:=rN<| -vR a
def S6(a:Bool×List Int):List Int:=rW<| -vR a
def I3(a b:Bool×List Int):Bool:=rN<|vR a/vR b
def IN(a b:Bool×List Int):List Int:=rW<|vR a/vR b
def FO(a:Bool×List Int):Z:=AX<|vR a
def Iv(n d:Bool×List Int):Z:=Dp (vR n)<|vR d
def lX(a:Z):Int:=if Ee a=true then IP a else 0
def VB(a:Z):Int:=if Ee a=true then Uy a else 0
def CR(a b:Z):Z:=AU<|Au a+Au b
def J6(a b:Z):Z:=AU<|Au a-Au b
def Ka(a b:Z):Z:=AU<|Au a*Au b
def Rb(a:Z):Z:=AU (Au a)⁻¹
def KK(a b:Z):Z:=AU<|Au a/Au b
def E0(a b:Z):Int:=if Au a<Au b then -1 else if Au b<Au a then 1 else 0
def M6(a:Z):Z:=AX (Au a).floor
def H5(a:Z):Bool:= !Bs a
def FH(a:Z):Int:=if 600<(A8<|AA a).length\/600<(S5 a).length then 4 else 0
def Ep(a:Z):Bool:=Bj a&&decide (a.length<=3000)
def eP(a:Z):Bool:=Ep a&&decide (Au a≠0)
end Go.Sp
namespace Go.Pe
open Sp
open Go.Det
def Xq:Am:=⟨[li,i64],fun i=>decide (0<=(i.2:Int)),[i64],fun i=>Il i.1 i.2,false⟩
def Xx:Am:=⟨[li,li],fun i=>mO i.1 i.2,[li],fun i=>Ij i.1 i.2,false⟩
def Xo:Am:=⟨[li,li],fun i=>mO i.1 i.2&&decide (An i.2<=An i.1),[li],fun i=>Jc i.1 i.2,false⟩
def jF:Am:=⟨[Ic,Ic],fun i=>Cu i.1&&Cu i.2,[Ic],fun i=>(Nq i.1 i.2,NC i.1 i.2),false⟩
def Z7:Am:=⟨[Ic,Ic],fun i=>Cu i.1&&Cu i.2,[Ic],fun i=>(Ib i.1 i.2,HT i.1 i.2),false⟩
def YY:Am:=⟨[Ic],fun a=>Cu a,[Ic],fun a=>(SA a,S6 a),false⟩
def Zi:Am:=⟨[Ic,Ic],fun i=>Cu i.1&&Cu i.2&&decide (0<Sp.vR i.2),[Ic],fun i=>(I3 i.1 i.2,IN i.1 i.2),false⟩
def PA:Am:=⟨[Ic],fun a=>Cu a,[.str],fun a=>FO a,false⟩
def MC:Am:=⟨[Ic,Ic],fun i=>Cu i.1&&Cu i.2&&decide (Sp.vR i.2≠0),[.str],fun i=>Iv i.1 i.2,false⟩
def kC:Am:=⟨[i64,i64],fun i=>CI i.1&&CI i.2&&decide ((i.2:Int)≠0),[.str],fun i=>Dp i.1 i.2,false⟩
def OB:Am:=⟨[.str],fun s=>Bj s,[i64,i64,.bool],fun s=>(lX s,VB s,Ee s),false⟩
def RL:Am:=⟨[.str,.str],fun i=>Bj i.1&&Bj i.2,[.str],fun i=>CR i.1 i.2,false⟩
def iX:Am:=⟨[.str,.str],fun i=>Bj i.1&&Ep i.2,[.str],fun i=>J6 i.1 i.2,false⟩
def Ws:Am:=⟨[.str,.str],fun i=>Bj i.1&&Bj i.2,[.str],fun i=>Ka i.1 i.2,false⟩
def yO:Am:=⟨[.str],fun s=>eP s,[.str],fun s=>Rb s,false⟩
def zS:Am:=⟨[.str,.str],fun i=>Bj i.1&&eP i.2,[.str],fun i=>KK i.1 i.2,false⟩
def Sc:Am:=⟨[.str,.str],fun i=>Bj i.1&&Ep i.2,[i64],fun i=>E0 i.1 i.2,false⟩
def Y9:Am:=⟨[.str],fun s=>Bj s,[.str],fun s=>M6 s,false⟩
def SG:Am:=⟨[.str],fun s=>decide (s.length<=1000000),[.bool],fun s=>H5 s,false⟩
def TL:Am:=⟨[.str],fun s=>decide (s.length<=1000000),[i64],fun s=>FH s,false⟩
def XR0:AV:=X7 []
def WK:AV:=X7 [(195,Xq),(193,SU)]
def XR2:AV:=X7 [(155,IM),(156,Xx),(157,ZO),(158,Xo),(159,Y7),(154,R4)]
def XR3:AV:=X7 [(99,QI)]
def qN:AV:=WY [(93,[3,7,9])] [] [(93,[(3,[2,3]),(7,[8,10]),(9,[8,10])])] [(153,YY),(130,Mk),(154,R4),(155,IM),(96,PA)]
def fL:AV:=WY [(40,[3,5,7,11])] [] [(40,[(3,[0,1]),(5,[0,1]),(7,[0,1]),(11,[1,6])])] [(97,Ii),(93,MC),(98,Aai),(99,QI)]
def zW:AV:=WY [(33,[5]),(34,[5])] [] [(33,[(5,[0,1])]),(34,[(5,[0,1])])] [(91,OB),(40,kC),(92,NX),(94,jF),(95,Z7),(93,MC)]
def XR7:AV:=X7 [(147,yO),(34,Ws),(33,RL),(84,YO)]
def XR8:AV:=X7 [(37,iX),(38,MN),(128,Qb),(144,qJ),(145,yP),(146,gK)]
def XR9:AV:=X7 [(92,NX),(150,Zi),(96,PA),(148,SG)]
def Yt:Am:=⟨[],fun _=>true,[.bool],fun _=>true,false⟩
theorem nX:Af A6 8 Yt:=by
 refine .of0 ⟨by kernel_rfl,Bb (by kernel_rfl),fun F h args i b d c a _=>?_⟩;have f:args=[]:=by
  have:=a (fun _=>none) 0;simpa [Ae,Yt]using this
 subst f;refine⟨[(.bool true,h)],1,fun m k=>?_,fun _=>⟨_,rfl⟩,fun x g=>?_⟩
 ·obtain⟨e,rfl⟩:∃e,m=e+1:=⟨m-1,by omega⟩;have j:A6.spec 8=some fun args h=>bif uL h GC then(match I9 A7 8 args with|some v=>some (v,h)|none=>none)else none:=rfl
  rw[Bl];simp only[j,Abt c,we];rfl
 ·cases yx.1 g;exact⟨yf _,fun _ _=>rfl,d,F,fun _ _ h=>h,fun _ _ h=>.inl h,b,fun ρ N=>D4 _⟩
end Go.Pe
namespace Go.Sp
def Pt(a:AG):Int:=if BA (Ag<|vI a)=[]then 0 else 64*((BA<|Ag<|vI a).length-1)+FD ((BA<|Ag<|vI a).getD ((BA<|Ag<|vI a).length-1) 0)
def EF(a:AG):Bool:=RJ<|vI a
def I5(a:Ak):Bool:=EF a.1||EF a.2
def Kj(a:Ak):Z:=if C5 a.2=true then AX (vI a.1)else AX (vI a.1)++47::AX (vI a.2)
def PI(a:Ak):Z:=if I5 a=true then[]else Kj a
def Pu(a:Ak):Int:=if I5 a=true then 4 else 0
def Fb:List Z->Int
 |[]=>0
 |s::l=>if At s≠0 then At s else Fb l
def P4(a:Ak):Int:=Mt<|vI a.1
def NM(a b:Z):Int:=Fb [a,b]
def fI(e:Int)(q:Rat):Z:=if e≠0 then[]else if Uo q=true then[]else AU q
def fB(e:Int)(q:Rat):Int:=if e≠0 then e else if Uo q=true then 4 else 0
def ES(a:Z)(e:Int)(w:Z)(bad:Int):Bool:=if (if bad=0 then FH w else bad)≠0 then decide (a=[])&&decide (e=(if bad=0 then FH w else bad))else decide (e=0)&&decide (a=w)
end Go.Sp
namespace Go.Pe
open Sp
open Go.Det
def pM:Am:=⟨[AY],fun a=>Bc a,[i64],fun a=>Pt a,false⟩
def YD:Am:=⟨[AY],fun a=>Bc a,[.bool],fun a=>EF a,false⟩
def TD:Am:=⟨[.str,.str],fun i=>Tq i.1 i.2,[.str],fun i=>A8 i.1,false⟩
def Yx:Am:=⟨[AB],fun a=>Sp.Df (a:Ak),[.bool],fun a=>I5 a,false⟩
def fR:Am:=⟨[AB],fun a=>Sp.Df (a:Ak),[.str],fun a=>Kj a,false⟩
def Y5:Am:=⟨[AB],fun a=>Sp.Df (a:Ak),[.str,i64],fun a=>(PI a,Pu a),false⟩
def Zp:Am:=⟨[.list .str],fun l=>decide (yz (α:=Z) l<=1000)&&List.all (α:=Z) l (fun s=>decide (s.length<=1000000)),[i64],fun l=>Fb l,false⟩
def gT:Am:=⟨[AB],fun a=>j5 (a:Ak).1,[i64],fun a=>P4 a,false⟩
def XX0:AV:=X7 []
def XX1:AV:=X7 [(179,P1),(228,WW)]
def AcY:AV:=X7 [(210,pM),(185,AbZ),(174,TD)]
def XX2:AV:=X7 [(184,YD),(138,O9),(185,AbZ)]
def XX3:AV:=X7 [(122,Fc),(161,Ks)]
end Go.Pe
namespace Go.Sp
abbrev BM:=Z×Z
def Es:Option BM->List BM->Int
 |_,[]=>0
 |o,p::l=>if NM p.1 p.2≠0 then NM p.1 p.2 else match o with
  |some q=>if E0 p.1 q.1<=0 then 11 else Es (some p) l
  |none=>Es (some p) l
def B2(t:List BM):Int:=if t=[]then 12 else if 64<t.length then 5 else Es none t
def Fk(s:Z):Ak:=((Vu s,VZ s),(SH s,Sy s))
def EI(p:BM):Ak×Ak:=(Fk p.1,Fk p.2)
def Vt(t:List BM):List (Ak×Ak):=if B2 t≠0 then[]else t.map EI
def J5(k:Nat)(t:List BM):Bool:=t.all fun p=>decide (p.1.length<=k)&&decide (p.2.length<=k)
end Go.Sp
namespace Go.Pe
open Sp
open Go.Det
abbrev CE:Sh:=.pair .str .str
abbrev YH:Sh:=.pair AB AB
def ZM:Am:=⟨[.list CE],fun l=>decide (yz (α:=BM) l<=1000)&&J5 1000000 l,[.list YH,i64],fun l=>(Vt l,B2 l),false⟩
def Lz:Am:=⟨[.list CE],fun l=>decide (yz (α:=BM) l<=1000)&&J5 1000000 l,[i64],fun l=>B2 l,false⟩
def XT1:AV:=X7 [(168,Hd),(169,G3),(171,Zp),(55,NH),(56,V7)]
def XT2:AV:=X7 [(123,ZM)]
def XT4:AV:=X7 [(62,Fc),(36,Sc)]
end Go.Pe
namespace Go.Sp
theorem Ve(q:Rat):S5 (AU q)=zl q.den:=by
 obtain⟨_,a,b⟩:=FA q;unfold S5;rw[a,b];by_cases h:q.den=1
 ·rw[wc (by simpa using h),h,qc<|by decide];rfl
 ·rw[wd<|w4 h,wc h]
theorem XK(q:Rat):FH (AU q)=if Uo q=true then 4 else 0:=by
 obtain⟨b,_,_⟩:=FA q;unfold FH;rw[Ve,b,(Dw q.num).2.1];have a:Uo q=true↔600<(zl q.num.natAbs).length\/600<(zl q.den).length:=by
  unfold Uo RJ;rw[Bool.or_eq_true,w5,w5,zm]
 by_cases h:Uo q=true
 ·rw[wd<|a.1 h,wd h]
 ·rw[wc<|fun k=>h<|a.2 k,wc h]
theorem ZU(q:Rat):ES (fI 0 q) (fB 0 q) (AU q) 0=true:=by
 unfold ES fI fB;rw[XK];by_cases h:Uo q=true
 ·simp[h]
 ·simp[h]
theorem OV{e:Int}(h:e≠0)(q:Rat)(w:Z):ES (fI e q) (fB e q) w e=true:=by
 unfold ES fI fB;simp[h]
theorem YI(a b:Z):NM a b=if At a≠0 then At a else At b:=by
 show(if At a≠0 then At a else if At b≠0 then At b else 0)=_;by_cases h:At a≠0
 ·rw[wd h,wd h]
 ·rw[wc h,wc h];by_cases k:At b≠0
  ·rw[wd k]
  ·rw[wc k];omega
theorem JD{a b:Z}(h:NM a b=0):At a=0/\At b=0:=by
 rw[YI]at h;by_cases k:At a≠0
 ·rw[wd k]at h;exact wh h k
 ·rw[wc k]at h;exact⟨by omega,h⟩
theorem R6:AU 0=[48]:=by
 unfold AU;rw[wd<|show Rat.den 0=1 from rfl];show zy 0=[48];unfold zy;rw[wc (by decide),show(0:Int).toNat=0 from rfl,qc<|by decide];rfl
theorem Mb{s:Z}(h:Bj s=true):s=[48]↔Au s=0:=by
 obtain⟨a,_⟩:=F5 h;constructor
 ·rintro rfl;rw[<-R6,DJ]
 ·intro e;rw[<-a,e,R6]
theorem JM{s:Z}(h:Ep s=true):Bj s=true/\s.length<=3000:=by
 unfold Ep at h;rwa [zd,w5]at h
theorem AbR{s:Z}(h:Ep s=true)(h0:s≠[48]):eP s=true:=by
 unfold eP;rw[h,yk];exact w4 fun e=>h0<|(Mb (JM h).1).2 e
theorem fZ{s:Z}(h:eP s=true):Ep s=true/\Au s≠0:=by
 unfold eP at h;rwa [zd,w5]at h
theorem OS{q:Rat}{k:Nat}(h:Hf k q)(a:k<=400000):(AU q).length<=1000000:=by
 have:=LQ (h.mono<|show k<=k+1 by omega) (by omega);omega
structure Nu(k:Nat)(s:Z)(q:Rat):Prop where
 t:s=AU q
 z:Hf k q
theorem Nu.rat{k:Nat}{s:Z}{q:Rat}(h:Nu k s q):Au s=q:=by rw[h.t,DJ]
theorem Nu.num{k:Nat}{s:Z}{q:Rat}(h:Nu k s q)(a:k<=1999):Bj s=true:=by rw[h.t];exact RT h.z a
theorem Nu.Ep{k:Nat}{s:Z}{q:Rat}(h:Nu k s q)(a:k<=1400):Sp.Ep s=true:=by
 unfold Sp.Ep;rw[h.num (by omega),yk,w5,h.t];have:=LQ (h.z.mono<|show k<=k+1 by omega) (by omega);omega
theorem Nu.len{k:Nat}{s:Z}{q:Rat}(h:Nu k s q)(a:k<=1999):s.length<=1000000:=by
 rw[h.t];exact OS h.z (by omega)
theorem Nu.Mb{k:Nat}{s:Z}{q:Rat}(h:Nu k s q)(a:k<=1999):s=[48]↔q=0:=by
 rw[Sp.Mb<|h.num a,h.rat]
theorem Nu.cmp{i j:Nat}{a b:Z}{p q:Rat}(d:Nu i a p)(c:Nu j b q):E0 a b=if p<q then -1 else if q<p then 1 else 0:=by
 unfold E0;rw[d.rat,c.rat]
theorem Qm{a:Z}(h:At a=0):Nu 600 a (Au a):=by
 obtain⟨t,_,_,z⟩:=MO h;exact⟨t.symm,z⟩
theorem Sj(n:Int):AX n=AU (n:Rat):=by
 unfold AU AX;rw[wd<|Rat.den_intCast ..,Rat.num_intCast]
theorem jZ(p q:Rat):(if q<p then(-1:Int)else if p<q then 1 else 0)= -(if p<q then(-1:Int)else if q<p then 1 else 0):=by
 by_cases h:p<q
 ·have:¬q<p:=Rat.not_lt.2<|Rat.le_of_lt h;rw[wc this,wd h,wd h];rfl
 ·rw[wc h,wc h];split<;>rfl
end Go.Sp
