import Derived.Test.YtlohiljbghionaaGreatDoorX11
import Derived.Test.YtlohiljbghionaaGreatDoorX12
import Derived.Test.YtlohiljbghionaaGreatDoorX10
import Derived.Test.YtlohiljbghionaaGreatDoorX07
import Derived.Test.YtlohiljbghionaaGreatDoorX09
/- A part of a proof (no law is stated here). Made by program out of texts by AI agents. -/
noncomputable section
open Go.Pe.Ends renaming tt -> zc, leaf -> ze, ite -> zg, Ah -> zh, ff -> zo, eq -> zV
open Bool renaming and_eq_true -> zd, true_and -> zT
open Int renaming toNat_natCast -> zf, lt_of_lt_of_le -> zj, mul_le_mul_of_nonneg_left -> zn, mul_le_mul_of_nonneg_right -> zp, le_of_lt -> zw, lt_of_le_of_lt -> zx, natAbs_natCast -> zP, pow_succ -> z7, le_trans -> z8, mul_nonneg -> yb, tdiv_eq_ediv_of_nonneg -> ye, tmod_eq_emod_of_nonneg -> yf, natAbs_mul -> yh, eq_ofNat_of_zero_le -> yk, le_refl -> yo
open Go.IntKind renaming wrap -> zi
open Go.Sp renaming AJ -> zk, vI -> zS, B9 -> z6, gI -> yn, first -> yq, preB -> yr
open List renaming length_drop -> zl, length_cons -> zm, length_take -> zq, length_append -> zr, all_cons -> zt, getD_eq_getElem?_getD -> zy, getElem?_eq_getElem -> zL, length_eq_zero_iff -> zM, take_of_length_le -> zO, take_length -> zR, length -> zY, findIdx?_cons -> yd, all_eq_true -> yj
open Go.Lib renaming itoa -> zu, decDigits -> zX
open Nat renaming le_refl -> zz, zero_le -> zN, lt_of_le_of_lt -> zU, pow_le_pow_right -> zZ, pow_succ -> ya, lt_of_lt_of_le -> yi, le_trans -> ym, sub -> yp
open UInt8 renaming ofNat -> zK, toNat_inj -> zQ
open Rat renaming divInt -> zW, num_divInt_den -> yg
open Go.Pe.Ad renaming of -> yc
namespace Go.Pe
open Sp
open Go.Det
theorem lG:D3 Pg:=
 Ac T106n.ok (Ac T176.ok<|Ac T127.ok<|Ac T139.ok<|Ac T143.ok<|Ac (Gq (by kernel_rfl)<|BI<|by kernel_rfl)<|Ac (Gq (by kernel_rfl)<|BI<|by kernel_rfl) AP)
theorem Qs(k:Nat):Ec 18 (k:Int)=((min 18 k:Nat):Int):=by unfold Ec;split<;>omega
theorem lW(n:Int):zi .u8 n=n % 256:=by simp[zi,IntKind.bits,IntKind.signed]
theorem Y3(k:Nat):(10:Int)^k<=(Am:Int)^k:=by
 induction k with
 |zero=>exact yo _
 |succ k c=>
  rw[z7,z7];have a:=zp c (show(0:Int)<=10 by decide);have d:=zn (show(10:Int)<=(Am:Int)by decide) (zw<|AN (b:=Am) (by decide) k);exact z8 a d
theorem FC{n:Int}(h0:0<=n)(h:n<(10:Int)^(6000:Nat)):BV (CI n)=true:=by
 refine EW ?_;have a:=Y3 6000;have c:(Am:Int)^6000<=(Am:Int)^9000:=AM (by decide) (by decide);have b:Af n=n:=by rw[Aj];omega
 rw[b];exact zj h<|z8 a c
theorem Mw(m n:Int):Hl (Cv m,Ct m) (Cv n,Ct n)=Cv (m*n)/\Hi (Cv m,Ct m) (Cv n,Ct n)=Ct (m*n):=by
 constructor
 ·show Cv (zS (CI _)*zS (CI _))=_;rw[CJ,CJ]
 ·show Ct (zS (CI _)*zS (CI _))=_;rw[CJ,CJ]
theorem kU{a b:Br}(h:0<=zS a+zS b):GI a b=CI (zS a+zS b):=by
 unfold GI;split
 ·next c=>
  have:=El c.2.2;rw[BG c.1,BG c.2.1]at h ⊢;exact(BW<|by omega).symm
 ·rfl
theorem MH{m v:Int}(e:0<=m)(f:0<=v):Lt (Cv m,Ct m) (v,C5 v)=Cv (m+v)/\LG (Cv m,Ct m) (v,C5 v)=Ct (m+v):=by
 have d:zS (Cv m,Ct m)=m:=CJ m;have c:zS (v,C5 v)=v:=by rw[DY,EG]
 have:=kU (a:=(Cv m,Ct m)) (b:=(v,C5 v)) (by rw[d,c];omega);rw[d,c]at this;exact⟨wi Prod.fst this,wi Prod.snd this⟩
theorem MM(n:Nat):Tq ((10:Int),C5 (10:Int)) (n:Int)=Cv (10^n)/\Tm ((10:Int),C5 (10:Int)) (n:Int)=Ct (10^n):=by
 have e:Sp.pI (zS ((10:Int),C5 (10:Int))) (n:Int)=10^n:=by rw[QY,DY,EG,zf]
 unfold Tq Tm;rw[e];exact⟨rfl,rfl⟩
theorem bI:BV ((10:Int),C5 (10:Int))=true:=by rw[DY];decide
theorem Y4{n:Nat}(h:n<=18):eB (zS ((10:Int),C5 (10:Int))) (n:Int)=true:=by
 unfold eB;have e:Sp.pI (zS ((10:Int),C5 (10:Int))) (n:Int)=10^n:=by rw[QY,DY,EG,zf]
 rw[e];have a:(10:Int)^n<=10^18:=AM (by decide) h;have h0:(0:Int)<10^n:=AN (by decide) n;have d:(10:Int)^18<18446744073709551616^1:=by decide
 have c:(18446744073709551616:Int)^(1:Nat)<=18446744073709551616^(4000:Nat):=AM (by decide) (by decide);have b:Af ((10:Int)^n)=10^n:=by rw[Aj];omega
 rw[b];exact Aa (Aa (w4<|by omega)<|w4<|by omega)<|w4<|zx a<|zj d c
theorem Sd{v:Int}(h0:0<=v)(h:v<1000000000000000000):BV (v,C5 v)=true:=by
 rw[DY];unfold BV;exact Aa (Kq<|DT (by omega)<|by omega)<|w4<|zN _
theorem V2{w:Z}(a:Ai w=true)(h:w.length<=18):0<=AA 0 w/\AA 0 w<1000000000000000000:=by
 have:=A6 a;have c:(10:Int)^w.length<=10^18:=AM (by decide) h;have b:(10:Int)^18=1000000000000000000:=by decide
 omega
namespace T126
variable {Q:PV->Ob->Prop}
theorem Cc(W:Z)(neg:Bool)(x:Int)(g:List Int)(A:Int)(w:Z)(n:Nat)(l:w=W.take n)(hW:Ai W=true)(z:n=min 18 W.length)(C:1<=W.length)(a f:Int)(a0:0<=a)(y:BV (CI a)=true)(m:BV (CI<|a*10^n)=true)
  (h:Ends Pg (L5 (W.drop n) neg (Cv<|a*10^n+AA 0 w) (Ct<|a*10^n+AA 0 w) f) Q):
  ∀(r:Z) (j:Nat),w.drop j=r->j<=w.length->Ends Pg (L7 W neg x g A w (AA 0<|w.take j) w.length w.length j (w.map fun b=>(b.toNat:Int)) (Cv a) (Ct a) f) Q
 |[],j,o,k=>by
  have e:Ai w=true:=by rw[l];exact A8 hW n
  have i:w.length=n:=by rw[l,zq];omega
  have I:j=w.length:=drop_nil o k;subst I;have p:=V2 e (by omega);obtain⟨c,t,S⟩:∃c t,w=c::t:=by
   cases w with
   |nil=>simp at i;omega
   |cons c t=>exact⟨c,t,rfl⟩
  have v:((((w.getD 0 0).toNat:Int)==(45:Int))=false):=by
   rw[S]at e ⊢;unfold Ai at e;rw[zt,zd]at e;have:=CL e.1;unfold G4 at this;show(((c.toNat:Int)==(45:Int))=false);simp;omega
  have K:(W.drop n).take (yp W.length n)=W.drop n:=zO (by rw[zl];exact zz _);have p0:0<=a*10^n:=yb a0 (zw<|AN (by decide) n);have F:BV (Cv<|10^n,Ct<|10^n)=true:=by
   refine FT (FC (n:=(10:Int)^n) (zw<|AN (by decide) n) ?_);have N:(10:Int)^n<=10^18:=AM (by decide) (by omega);have P:(10:Int)^18<10^19:=by decide
   have J:(10:Int)^19<=10^(6000:Nat):=AM (by decide) (by decide);exact zx N<|zj P J
  refine zh (Dm ..) (zo (by simp)<|zc (w4<|by omega) ?_);rw[v,Qs, <-z,(MM n).1,(MM n).2,zR];refine zo rfl (zc rfl (zc (Aa bI<|Y4<|by omega)<|zc (Aa y F)<|zc rfl ?_));rw[(Mw _ _).1,(Mw _ _).2,(MH p0 p.1).1,(MH p0 p.1).2,zf,K];exact zc (Aa m<|Sd p.1 p.2) (zc (by simp;omega) h)
 |c::r,j,o,k=>by
  have e:Ai w=true:=by rw[l];exact A8 hW n
  have i:w.length=n:=by rw[l,zq];omega
  obtain⟨u,M,T⟩:=drop_cons (d:=0) o;have s:BH c=true:=by
   unfold Ai at e;rw[yj]at e;exact e c<|Oz o
  have E:=CL s;have q:(w.take j).length=j:=by rw[zq];omega
  have R:=A6<|A8 e j;rw[q]at R;have U:(10:Int)^j<=10^17:=AM (by decide) (by omega);have B:(10:Int)^17=100000000000000000:=by decide
  have O:(w.map fun b=>(b.toNat:Int)).getD j 0=(c.toNat:Int):=by
   rw[zy,List.getElem?_map,zL u];have:w[j]=c:=by rw[<-M,zy,zL u];rfl
   rw[this];rfl
  have L:zi .u8 ((c.toNat:Int)-48)=G4 c:=by
   rw[lW];unfold G4 at E ⊢;omega
  have H:zi .i64 (zi .i64 (AA 0 (w.take j)*10)+zi .i64 (G4 c))=AA 0 (w.take<|j+1):=by
   rw[KQ o,CE];show _=10*AA 0 (w.take j)+G4 c;generalize AA 0 (w.take j)=D at*;rw[wr (D*10) (by omega) (by omega),wr (G4 c) (by omega) (by omega),wr _ (by omega)<|by omega];omega
  have G:zi .i64 ((j:Int)+1)=((j+1:Nat):Int):=by rw[wr _ (by omega)<|by omega];omega
  refine zh (Dm ..) (zc (by simp;omega) ?_);rw[zf,O,L,H,G];refine zc (by simp;omega) (zc (by simp;omega) (zo (w8<|by omega) ?_));exact Cc W neg x g A w n l hW z C a f a0 y m h r (j+1) T u
theorem CT(W:Z)(neg:Bool)(x:Int)(z:Int)(w:Z)(n:Nat)(k:w=W.take n)(hW:Ai W=true)(y:n=min 18 W.length)(B:1<=W.length)(a f:Int)(p:a=0)(a0:0<=a)(H:BV (CI a)=true)(l:BV (CI<|a*10^n)=true)
  (g:Ends Pg (L5 (W.drop n) neg (Cv<|a*10^n+AA 0 w) (Ct<|a*10^n+AA 0 w) f) Q):
  ∀(r:Z) (j:Nat),w.drop j=r->j<=w.length->Ends Pg (L3 W neg x z w (AA 0<|w.take j) w.length w.length j (w.map fun b=>(b.toNat:Int)) 0 f) Q
 |[],j,m,i=>by
  have e:Ai w=true:=by rw[k];exact A8 hW n
  have h:w.length=n:=by rw[k,zq];omega
  have I:j=w.length:=drop_nil m i;subst I;have o:=V2 e (by omega);obtain⟨c,t,S⟩:∃c t,w=c::t:=by
   cases w with
   |nil=>simp at h;omega
   |cons c t=>exact⟨c,t,rfl⟩
  have v:((((w.getD 0 0).toNat:Int)==(45:Int))=false):=by
   rw[S]at e ⊢;unfold Ai at e;rw[zt,zd]at e;have:=CL e.1;unfold G4 at this;show(((c.toNat:Int)==(45:Int))=false);simp;omega
  have K:(W.drop n).take (yp W.length n)=W.drop n:=zO (by rw[zl];exact zz _);have p0:0<=a*10^n:=yb a0 (zw<|AN (by decide) n);have E:BV (Cv<|10^n,Ct<|10^n)=true:=by
   refine FT (FC (n:=(10:Int)^n) (zw<|AN (by decide) n) ?_);have N:(10:Int)^n<=10^18:=AM (by decide) (by omega);have P:(10:Int)^18<10^19:=by decide
   have J:(10:Int)^19<=10^(6000:Nat):=AM (by decide) (by decide);exact zx N<|zj P J
  refine zh (BE ..) (zo (by simp)<|zc (w4<|by omega) ?_);rw[v,Qs, <-y,(MM n).1,(MM n).2,zR];refine zo rfl (zc rfl (zc (Aa bI<|Y4<|by omega)<|zc (Aa (show BV ((0:Int),[])=true by decide) E)<|zc rfl ?_));rw[show Hl ((0:Int),[]) (Cv<|10^n,Ct<|10^n)=Cv (a*10^n)by rw[p];exact(Mw 0 _).1,show Hi ((0:Int),[]) (Cv<|10^n,Ct<|10^n)=Ct (a*10^n)by rw[p];exact(Mw 0 _).2,(MH p0 o.1).1,(MH p0 o.1).2,zf,K];exact zc (Aa l<|Sd o.1 o.2) (zc (by simp;omega) g)
 |c::r,j,m,i=>by
  have e:Ai w=true:=by rw[k];exact A8 hW n
  have h:w.length=n:=by rw[k,zq];omega
  obtain⟨u,M,T⟩:=drop_cons (d:=0) m;have s:BH c=true:=by
   unfold Ai at e;rw[yj]at e;exact e c<|Oz m
  have C:=CL s;have q:(w.take j).length=j:=by rw[zq];omega
  have R:=A6<|A8 e j;rw[q]at R;have U:(10:Int)^j<=10^17:=AM (by decide) (by omega);have A:(10:Int)^17=100000000000000000:=by decide
  have O:(w.map fun b=>(b.toNat:Int)).getD j 0=(c.toNat:Int):=by
   rw[zy,List.getElem?_map,zL u];have:w[j]=c:=by rw[<-M,zy,zL u];rfl
   rw[this];rfl
  have L:zi .u8 ((c.toNat:Int)-48)=G4 c:=by
   rw[lW];unfold G4 at C ⊢;omega
  have G:zi .i64 (zi .i64 (AA 0 (w.take j)*10)+zi .i64 (G4 c))=AA 0 (w.take<|j+1):=by
   rw[KQ m,CE];show _=10*AA 0 (w.take j)+G4 c;generalize AA 0 (w.take j)=D at*;rw[wr (D*10) (by omega) (by omega),wr (G4 c) (by omega) (by omega),wr _ (by omega)<|by omega];omega
  have F:zi .i64 ((j:Int)+1)=((j+1:Nat):Int):=by rw[wr _ (by omega)<|by omega];omega
  refine zh (BE ..) (zc (by simp;omega) ?_);rw[zf,O,L,G,F];refine zc (by simp;omega) (zc (by simp;omega)<|zo (w8<|by omega) ?_);exact CT W neg x z w n k hW y B a f p a0 H l g r (j+1) T u
theorem iL(W:Z)(neg:Bool)(o1:Int)(d:List Int)(f:Int)(hW:Ai W=true)(k:1<=W.length)(n:Nat)(j:n=min 18 W.length)
  (h:Ends Pg (L7 W neg o1 d f (W.take n) 0 (W.take n).length (W.take n).length 0 ((W.take n).map fun b=>(b.toNat:Int)) o1 d f) Q):Ends Pg (L5 W neg o1 d f) Q:=by
 have e:(W.take n).length=n:=by rw[zq];omega
 have a:=A8 hW n;have i:((((W.take n).getD 0 0).toNat:Int)==(45:Int))=false/\((((W.take n).getD 0 0).toNat:Int)==(43:Int))=false:=by
  cases g:W.take n with
  |nil=>rw[g]at e;simp at e;omega
  |cons c t=>
   rw[g]at a;unfold Ai at a;rw[zt,zd]at a;have:=CL a.1;unfold G4 at this;show(((c.toNat:Int)==(45:Int))=false)/\(((c.toNat:Int)==(43:Int))=false);constructor<;>(simp;omega)
 refine zh (DU ..) (zc (by simp;omega) ?_);rw[Qs, <-j,zf,i.1,i.2];exact zc (by simp;omega) (zc (w4<|by omega) (zc (w4<|by omega)<|zc (w4<|by omega) (zo rfl (zc (w4<|by omega)<|zo rfl h))))
theorem fE(W:Z)(neg:Bool)(o1:Int)(e:Int)(hW:Ai W=true)(j:1<=W.length)(n:Nat)(i:n=min 18 W.length)
  (h:Ends Pg (L3 W neg o1 e (W.take n) 0 (W.take n).length (W.take n).length 0 ((W.take n).map fun b=>(b.toNat:Int)) o1 e) Q):Ends Pg (L1 W neg o1 e) Q:=by
 have d:(W.take n).length=n:=by rw[zq];omega
 have a:=A8 hW n;have f:((((W.take n).getD 0 0).toNat:Int)==(45:Int))=false/\((((W.take n).getD 0 0).toNat:Int)==(43:Int))=false:=by
  cases g:W.take n with
  |nil=>rw[g]at d;simp at d;omega
  |cons c t=>
   rw[g]at a;unfold Ai at a;rw[zt,zd]at a;have:=CL a.1;unfold G4 at this;show(((c.toNat:Int)==(45:Int))=false)/\(((c.toNat:Int)==(43:Int))=false);constructor<;>(simp;omega)
 refine zh (Al ..) (zc (by simp;omega) ?_);rw[Qs, <-i,zf,f.1,f.2];exact zc (by simp;omega) (zc (w4<|by omega)<|zc (w4<|by omega) (zc (w4<|by omega)<|zo rfl (zc (w4<|by omega)<|zo rfl h)))
theorem pG(n:Int)(h:0<=n):(HI (Cv n,Ct n),HT (Cv n,Ct n))=CI (-n):=by
 show Fs (CI n)=_;unfold Fs;split
 ·next c=>
  have:=CJ n;rw[BG c.1]at this;rw[this,BW (n:= -n)];by_cases a: -9223372036854775808<n/\n<9223372036854775808
  ·omega
  ·exfalso;have e:CI n=(1,BS<|Af n):=by unfold CI;rw[wc a,wc<|by omega]
   rw[e]at this;have:(1:Int)=n:=this;omega
 ·rw[CJ]
theorem Vw{a D:Int}{W:Z}{n:Nat}(b:0<=a)(hW:Ai W=true)(f:n<=W.length)(j:a*10^W.length+AA 0 W=D):(a*10^n+AA 0 (W.take n))*10^(W.drop n).length+AA 0 (W.drop n)=D/\a<=D/\a*10^n<=D:=by
 have h:AA 0 W=AA 0 (W.take n)*10^(W.drop n).length+AA 0 (W.drop n):=by
  conv=>lhs;rw[<-List.take_append_drop n W]
  rw[CE,Ef]
 have c:W.length=n+(W.drop n).length:=by rw[zl];omega
 have d:(10:Int)^W.length=10^n*10^(W.drop n).length:=by rw[<-Int.pow_add, <-c]
 have i:=(A6 hW).1;have e:a*10^W.length=a*10^n*10^(W.drop n).length:=by rw[d,Int.mul_assoc]
 have one:∀k:Nat,(1:Int)<=10^k:=fun k=>by have:=AN (show(0:Int)<10 by decide) k;omega
 have l:a<=a*10^W.length:=by have:=zn (one W.length) b;omega
 have g:a*10^n<=a*10^n*10^(W.drop n).length:=by
  have:=zn (one (W.drop n).length) (yb b (show(0:Int)<=10^n by have:=one n;omega));omega
 refine⟨?_,by omega,by omega⟩;rw[Int.add_mul, <-e];omega
theorem Co(neg:Bool)(h D:Int)(b:D<(10:Int)^(6000:Nat))(g:∀ob,Q (.agg [.dat i64<|Cv<|if neg=true then -D else D,.dat (.nlist u64)<|Ct<|if neg=true then -D else D]) ob):∀(f:Nat) (W:Z) (a:Int),W.length<f->W.length<=6000->0<=a->Ai W=true->a*10^W.length+AA 0 W=D->Ends Pg (L5 W neg (Cv a) (Ct a) h) Q
 |0,W,a,l,_,_,_,_=>by omega
 |f+1,W,a,l,m,e,hW,i=>by
  cases d:W with
  |nil=>
   subst d;have i:a=D:=by rw[<-i];simp[AA]
   subst i;have j:=FC e b;refine zh (DU ..) (zo (by simp)<|zg (fun c=>zc (EL j).1<|ze ?_)<|fun c=>ze ?_)
   ·have:=pG a e;rw[c,wd rfl]at g;have p:HI (Cv a,Ct a)=Cv (-a):=wi Prod.fst this;have s:HT (Cv a,Ct a)=Ct (-a):=wi Prod.snd this;rw[p,s];exact g _
   ·rw[c,wc<|by decide]at g;exact g _
  |cons c t=>
   rw[<-d];have k:1<=W.length:=by rw[d];simp
   obtain⟨u,r,q⟩:=Vw (n:=min 18 W.length) e hW (by omega) i;have v:=(A6<|A8 hW<|min 18 W.length).1;have o:0<=a*10^(min 18 W.length):=yb e (zw<|AN (by decide) _);refine iL W neg _ _ h hW k _ rfl (Cc W neg _ _ h _ _ rfl hW rfl k a h e (FC e<|zx r b) (FC o<|zx q b) ?_ _ 0 rfl (zN _));exact Co neg h D b g f (W.drop<|min 18 W.length) _ (by rw[zl];omega) (by rw[zl];omega) (by omega) (BO hW _) u
theorem An(neg:Bool)(W:Z)(g:W.length<=5999)(hW:Ai W=true)(h:∀ob,Q (.agg [.dat i64<|Cv<|if neg=true then -AA 0 W else AA 0 W,.dat (.nlist u64)<|Ct<|if neg=true then -AA 0 W else AA 0 W]) ob)(d:W=[]->∀ob v,(v=.agg [.dat i64 0,.nil]\/v=.agg [.dat i64<|HI ((0:Int),[]),.dat (.nlist u64)<|HT ((0:Int),[])])->Q v ob):Ends Pg (L1 W neg 0 0) Q:=by
 cases b:W with
 |nil=>
  refine zh (Al ..) (zo (by simp) (zg (fun c=>zc (by decide)<|ze<|d b _ _<|.inr rfl)<|fun c=>ze<|d b _ _<|.inl rfl))
 |cons c t=>
  rw[<-b];have f:1<=W.length:=by rw[b];simp
  have e:AA 0 W<(10:Int)^(6000:Nat):=zj (A6 hW).2 (AM (by decide)<|by omega);obtain⟨i,l,j⟩:=Vw (a:=0) (n:=min 18 W.length) (D:=AA 0 W) (yo _) hW (by omega) (by rw[Int.zero_mul,Int.zero_add]);have k:=(A6<|A8 hW<|min 18 W.length).1;refine fE W neg 0 0 hW f _ rfl (CT W neg 0 0 _ _ rfl hW rfl f 0 0 rfl (yo _) (by decide) (by rw[Int.zero_mul];decide) ?_ _ 0 rfl (zN _));exact Co neg 0 _ e h (W.length+1) (W.drop<|min 18 W.length) _ (by rw[zl];omega) (by rw[zl];omega) (by omega) (BO hW _) i
theorem ok:Ag Bm 126 M5:=by
 refine Cj lG<|fun(s:Z) a=>?_;have a:(decide (s.length<=5999)&&(if s.getD 0 0=45 then Ai (s.drop 1)else Ai s))=true:=a;rw[zd,w5]at a;obtain⟨k,a⟩:=a;have fin:∀D,Cb s=D->∀ob,Ad M5 s (.agg [.dat i64<|Cv D,.dat (.nlist u64)<|Ct D]) ob:=by
  rintro D rfl ob;exact yc rfl rfl rfl
 have b:Cb s=0->∀ob v,(v=.agg [.dat i64 0,.nil]\/v=.agg [.dat i64<|HI ((0:Int),[]),.dat (.nlist u64)<|HT ((0:Int),[])])->Ad M5 s v ob:=by
  rintro h ob v (rfl|rfl)
  ·refine yc rfl rfl ?_;show((0:Int),([]:List Int))=(Cv<|Cb s,Ct<|Cb s);rw[h];rfl
  ·refine yc rfl rfl ?_;show Fs ((0:Int),([]:List Int))=(Cv<|Cb s,Ct<|Cb s);rw[h];rfl
 refine zV (Ap s) ?_;conv=>zeta
 cases s with
 |nil=>
  refine zo (by decide) (zo (by decide) (zh (AK ..)<|zo (by decide)<|ze<|b rfl _ _ (.inl rfl)))
 |cons c r=>
  have m:(c::r).take 1=[c]:=rfl;have i:(c::r).getD 0 0=c:=rfl;rw[i]at a;have e:(List.drop 1 (c::r)).take (yp (c::r).length 1)=r:=by show r.take ((r.length+1)-1)=r;rw[Nat.add_sub_cancel];exact zR
  have j:decide (((c::r).length:Int)>=1)=true:=w4 (by simp;omega);have l:decide (1<=(c::r).length)=true:=w4 (by simp);rw[m,e];refine zc j<|zc l<|zc j<|zc l<|zg (fun d=>?_)<|fun d=>?_
  ·have f:c=45:=by simpa using d
   rw[wd f]at a;rw[d];have g:Cb (c::r)= -AA 0 r:=by unfold Cb;rw[i,wd f];rfl
   refine zc (by simp) (An true r (by simp at k;omega) a (fin _<|by rw[g,wd rfl])<|fun h0=>b (by rw[g,h0];rfl))
  ·have f:c≠45:=by rintro rfl;exact wh d (by decide)
   rw[wc f]at a;rw[d];have g:Cb (c::r)=AA 0 (c::r):=by unfold Cb;rw[i,wc f]
   exact An false (c::r) k a (fin _<|by rw[g,wc<|by decide]) (fun h0=>by cases h0)
end T126
namespace T168
theorem loop{Q:PV->Ob->Prop}(l:List Int)(g:l.length<=1000000):∀(r:List Int) (i:Nat),l.drop i=r->i<=l.length->Q (.dat i64<|yq r) []->Ends Mj (L1 l ((l.length:Int)) i) Q
 |[],i,h,k,a=>by
  refine zh (Al ..) ?_;conv=>zeta
  have:¬i<l.length:=by
   intro c;have:=List.drop_eq_getElem_cons c;rw[h]at this;cases this
  have f:i=l.length:=by omega
  subst f;simpa [yq]using a
 |x::r,i,h,k,a=>by
  obtain⟨c,e,j⟩:=drop_cons (d:=0) h;refine zh (Al ..) ?_;conv=>zeta
  rw[EF,wd (by simp;omega),EF,wd (by simp;omega),EF];simp only[zf,e];by_cases b:x=0
  ·subst b;rw[wc (by simp),wr _ (by omega)<|by omega];exact loop l g r (i+1) j c (by simpa [yq]using a)
  ·rw[wd<|by simpa using b];simpa [yq,b]using a
theorem ok:Ag Bm 168 F7:=by
 refine Cj Er<|fun l a=>?_;refine zV (Ap l) ?_;conv=>zeta
 exact loop l (by simpa [F7]using a) l 0 rfl (zN _) (yc rfl rfl rfl)
end T168
theorem T169.ok:Ag Bm 169 HW:=by
 refine Cj Er<|fun⟨c,e⟩ _=>?_;refine zV (T169.Ap c e) ?_;conv=>zeta
 have key:∀x:Int,x=BJ c e->Ad HW (c,e) (.dat i64 x) []:=fun x a=>yc rfl rfl a
 simp only[EF,Gr];cases c
 ·exact key _ rfl
 ·exact key _ rfl
theorem gL:D3 KY:=
 Ac T168.ok (Ac T169.ok<|Ac T166.ok<|Ac T124.ok<|Ac T167.ok<|Ac T170.ok<|Ac T126.ok<|Ac T105.ok<|Ac T106n.ok AP)
theorem G3{s:Z}(h:AQ s=true):s≠[]/\Ai s=true:=by
 unfold AQ at h;rw[zd,zd,w5]at h;exact h.1
theorem JE{s:Z}(h:Ai s=true)(b:s.length<=5999):D2 s=true/\Cb s=AA 0 s:=by
 have h0:s.getD 0 0≠45:=by
  cases s with
  |nil=>decide
  |cons c r=>
   unfold Ai at h;rw[zt,zd]at h;have:=CL h.1;rintro a;have a:c=45:=a;subst a;exact wh this (by decide)
 unfold D2 Cb;rw[wc h0,wc h0,h,Bool.and_true];exact⟨w4 b,rfl⟩
theorem mH{a b L:Int}(c:0<=a)(f:0<=b)(g:a<L)(d:b<L):0<=yn a b/\yn a b<L:=by
 rw[HU];obtain⟨x,rfl⟩:=yk c;obtain⟨y,rfl⟩:=yk f;have e:Int.gcd (x:Int) (y:Int)=Nat.gcd x y:=rfl;rw[e];refine⟨Int.natCast_nonneg _,?_⟩;rcases Nat.eq_zero_or_pos x with h|h
 ·subst h;rw[Nat.gcd_zero_left];exact d
 ·have:=Nat.gcd_le_left y h;omega
namespace T122
variable {Q:PV->Ob->Prop}
def E(A B:Z)(b a:Bool):Int:=if a=false then 1 else if 600<A.length\/600<B.length then 4 else if b=true/\yn (AA 0 A) (AA 0 B)≠1 then 1 else 0
theorem GP(A B:Z)(a:Bool)(k:Ai A=true)(b:a=true->Ai B=true)(C:A.length<=600)(z:B.length<=600)(d:∀ob,Q (.dat i64<|if a=true/\yn (AA 0 A) (AA 0 B)≠1 then 1 else 0) ob):Ends KY (L8 A B a) Q:=by
 refine zh (Jb ..)<|zg (fun c=>?_)<|fun c=>?_
 ·have b:=b c;obtain⟨y,j⟩:=JE k (by omega);obtain⟨r3,r4⟩:=JE b (by omega);have f:=A6 k;have e:=A6 b;have l:AA 0 A<(10:Int)^(6000:Nat):=zj f.2 (AM (by decide)<|by omega);have i:AA 0 B<(10:Int)^(6000:Nat):=zj e.2 (AM (by decide)<|by omega);have p:CU A=Cv (AA 0 A):=by unfold CU;rw[j]
  have s:C0 A=Ct (AA 0 A):=by unfold C0;rw[j]
  have o:CU B=Cv (AA 0 B):=by unfold CU;rw[r4]
  have w:C0 B=Ct (AA 0 B):=by unfold C0;rw[r4]
  have m:SQ (Cv<|AA 0 A,Ct<|AA 0 A) (Cv<|AA 0 B,Ct<|AA 0 B)=Cv (yn (AA 0 A)<|AA 0 B):=by
   unfold SQ;rw[LM,LM]
  have n:RW (Cv<|AA 0 A,Ct<|AA 0 A) (Cv<|AA 0 B,Ct<|AA 0 B)=Ct (yn (AA 0 A)<|AA 0 B):=by
   unfold RW;rw[LM,LM]
  obtain⟨r,t⟩:=mH f.1 e.1 l i;have u:X4 (Cv<|yn (AA 0 A)<|AA 0 B,Ct<|yn (AA 0 A)<|AA 0 B) ((1:Int),C5 (1:Int))=BY (yn (AA 0 A)<|AA 0 B) 1:=by
   unfold X4;rw[LM,DY,EG]
  rw[p,s,o,w,m,n,u];have v:BV ((1:Int),C5 (1:Int))=true:=by rw[DY];decide
  refine zc y<|zc r3<|zc (Aa (FT<|FC f.1 l)<|FT<|FC e.1 i)<|zc rfl (zc (Aa (FT<|FC r t) v) ?_);refine zh (VQ ..)<|zc rfl (ze ?_);generalize yn (AA 0 A) (AA 0 B)=g at*;have:BJ (BY g 1 !=0) 1=if a=true/\g≠1 then 1 else 0:=by
   unfold BY BJ;by_cases h:g=1
   ·subst h;rw[c];rfl
   ·have x:(if a=true/\g≠1 then(1:Int)else 0)=1:=wd ⟨c,h⟩;rw[x];rcases Int.lt_or_gt_of_ne h with q|q
    ·rw[wd q];rfl
    ·rw[wc (by omega),wd q];rfl
  rw[this];exact d _
 ·refine zh QP<|zc rfl (ze ?_);rw[wc<|by rw[c];simp]at d;exact d _
theorem Cc(A B:Z)(e a c d:Bool)(g:c= !a)(f:d=true↔600<A.length\/600<B.length)(j:a=true->Ai A=true/\(e=true->Ai B=true))(b:∀ob,Q (.dat i64<|E A B e a) ob):Ends KY (L7 A B e<|yq [BJ c 1,BJ d 4]) Q:=by
 subst g;unfold E at b;cases a with
 |false=>
  refine zh (Dm ..)<|zc ?_<|ze<|b _;cases d<;>rfl
 |true=>
  rw[wc<|by decide]at b;cases d with
  |true=>
   rw[wd<|f.1 rfl]at b;exact zh (Dm ..)<|zc rfl (ze<|b _)
  |false=>
   have l:¬(600<A.length\/600<B.length):=fun h=>by have:=f.2 h;cases this
   rw[wc l]at b;obtain⟨k,i⟩:=j rfl;exact zh (Dm ..) (zo rfl (GP A B e k i (by omega) (by omega) b))
theorem BP(A B:Z)(b a:Bool)(d:a=true->Ai A=true/\(b=true->Ai B=true))(e:∀ob,Q (.dat i64<|E A B b a) ob):Ends KY (L4 A B b a) Q:=by
 refine zh (Cf ..)<|zc rfl (zg (fun c=>zc rfl (zc rfl ?_))<|fun c=>zc rfl (zc rfl ?_))
 ·have c:=w6 c;exact Cc A B b a _ _ rfl ⟨fun _=>.inl (by omega),fun _=>rfl⟩ d e
 ·have c:=w7 c;exact Cc A B b a _ _ rfl ⟨fun h=>.inr (by have:=w6 h;omega),fun h=>w4<|by omega⟩ d e
theorem Co(A B:Z)(a:Bool)(b:∀ob,Q (.dat i64<|E A B a false) ob):Ends KY (L5 A B a) Q:=by
 refine zh (DU ..)<|zc rfl (zg (fun c=>zc rfl (zc rfl ?_))<|fun c=>zc rfl (zc rfl ?_))
 ·have c:=w6 c;exact Cc A B a false _ _ rfl ⟨fun _=>.inl (by omega),fun _=>rfl⟩ (fun h=>by cases h) b
 ·have c:=w7 c;exact Cc A B a false _ _ rfl ⟨fun h=>.inr (by have:=w6 h;omega),fun h=>w4<|by omega⟩ (fun h=>by cases h) b
theorem Iw(A B:Z)(a:Bool)(b:Ai A=true/\(a=true->Ai B=true))(d:∀ob,Q (.dat i64<|E A B a true) ob):Ends KY (L6 A B a) Q:=by
 refine zh (Fj ..)<|zc rfl (zg (fun c=>zc rfl (zc rfl ?_))<|fun c=>zc rfl (zc rfl ?_))
 ·have c:=w6 c;exact Cc A B a true _ _ rfl ⟨fun _=>.inl (by omega),fun _=>rfl⟩ (fun _=>b) d
 ·have c:=w7 c;exact Cc A B a true _ _ rfl ⟨fun h=>.inr (by have:=w6 h;omega),fun h=>w4<|by omega⟩ (fun _=>b) d
theorem Ti{F:Tr}(A B:Z)(f:Bool)(k:B.length<=1000000)(j:Ai A=true)(a:Bool)(b:a=(!f||(AQ B&&decide (B≠[48])&&decide (B≠[49]))))(g:∀ob,Q (.dat i64<|E A B f a) ob)
  (h:(f=true->Ends KY (.ite (decide (B.length<=1000000)) (.ite (AQ B) (.ite (!B==[(48:UInt8)]) (L4 A B f<|!B==[(49:UInt8)])<|L5 A B f)<|L5 A B f) .fail) Q)->(f=false->a=true)->Ends KY F Q):Ends KY F Q:=by
 refine h (fun i=>zc (w4 k) ?_) (fun i=>by rw[b,i];rfl);rw[i]at b;refine zg (fun c=>zg (fun d=>?_)<|fun d=>?_)<|fun c=>?_
 ·have d:B≠[48]:=by simpa using d
  have e:a=(!B==[(49:UInt8)]):=by
   rw[b,c,w4 d];by_cases h:B=[49]
   ·rw[h];rfl
   ·rw[w4 h];simp[h]
  rw[<-e];exact BP A B f a (fun _=>⟨j,fun _=>(G3 c).2⟩) g
 ·have d:B=[48]:=by simpa using d
  have e:a=false:=by rw[b,w8<|fun h=>h d];simp
  rw[e]at g;exact Co A B f g
 ·have e:a=false:=by rw[b,c];simp
  rw[e]at g;exact Co A B f g
theorem Du(s:Z):(Ay s).length<=s.length/\(zk s).length<=s.length:=by
 unfold Ay zk;cases s.findIdx? (fun x=>x==47)with
 |none=>simp
 |some i=>simp;omega
theorem WK(s:Z):(A3 s).length<=s.length:=by
 unfold A3;split
 ·simp
 ·exact zz _
theorem ok:Ag Bm 122 Ej:=by
 refine Cj gL<|fun(a:Z) p=>?_;have p:a.length<=1000000:=w6 p;have r:=WK a;obtain⟨t,s⟩:=Du<|A3 a;have j:∀b,b=Hj a->∀ob,Ad Ej a (.dat i64<|E (Ay<|A3 a) (zk<|A3 a) (Bh<|A3 a) b) ob:=by
  rintro b rfl ob;exact yc rfl rfl rfl
 have g:Hj a=(AQ (Ay<|A3 a)&&(!yr a||decide (Ay (A3 a)≠[48]))&&(!Bh (A3 a)||(AQ (zk<|A3 a)&&decide (zk (A3 a)≠[48])&&decide (zk (A3 a)≠[49])))):=rfl;refine zV (Ap a) (zc (Aa (w4 rfl)<|w4 p) (zc (Aa (w4 rfl)<|w4<|by omega)<|zc (w4<|by omega) ?_));generalize Ay (A3 a)=A at*;generalize zk (A3 a)=B at*;generalize Bh (A3 a)=f at*;refine zg (fun c=>?_)<|fun c=>?_
 ·have l:=(G3 c).2;refine zg (fun d=>?_)<|fun d=>?_
  ·have i:Hj a=(!f||(AQ B&&decide (B≠[48])&&decide (B≠[49]))):=by rw[g,c,d];rfl
   refine Ti A B f (by omega) l (Hj a) i (j _ rfl)<|fun m o=>zh (Al ..)<|zg m<|fun e=>?_;have q:=o e;exact Iw A B f ⟨l,fun h=>by rw[e]at h;cases h⟩<|j true q.symm
  ·by_cases k:A=[48]
   ·have i:Hj a=false:=by rw[g,d,w8<|fun h=>h k];simp
    have n:(!A==[(48:UInt8)])=false:=by rw[k];rfl
    rw[n];refine zh (AK ..) (zg (fun e=>zo rfl (Co A B f<|j false i.symm)) (fun e=>BP A B f false (fun h=>by cases h)<|j false i.symm))
   ·have n:(!A==[(48:UInt8)])=true:=by simp[k]
    have i:Hj a=(!f||(AQ B&&decide (B≠[48])&&decide (B≠[49]))):=by rw[g,c,d,w4 k];rfl
    rw[n];refine Ti A B f (by omega) l (Hj a) i (j _ rfl)<|fun m o=>zh (AK ..)<|zg (fun e=>zc rfl (m e))<|fun e=>?_;have q:=o e;exact BP A B f true (fun _=>⟨l,fun h=>by rw[e]at h;cases h⟩)<|j true q.symm
 ·have i:Hj a=false:=by rw[g,c];simp
  exact zh (BE ..)<|zg (fun e=>Co A B f<|j false i.symm)<|fun e=>Co A B f<|j false i.symm
end T122
theorem DH(c:UInt8)(r:Z):Ay (c::r)=if c=47 then[]else c::Ay r:=by
 unfold Ay;rw[yd];by_cases h:c=47
 ·subst h;rfl
 ·rw[wc (by simpa using h),wc h];cases r.findIdx? (fun x=>x==47)<;>rfl
namespace T128
theorem An{Q:PV->Ob->Prop}(s:Z)(k:s.length<=9223372036854775807):∀(r:Z) (i:Nat),s.drop i=r->i<=s.length->(∀ob,Q (.dat i64 (((i+(Ay r).length:Nat)):Int)) ob)->Ends Mj (L1 s i) Q
 |[],i,h,e,a=>by
  have j:i=s.length:=drop_nil h e;subst j;exact zh (Al ..) (zo (by simp)<|ze<|a _)
 |c::r,i,h,e,a=>by
  obtain⟨f,g,l⟩:=drop_cons (d:=0) h;have m:zi .i64 ((i:Int)+1)=((i+1:Nat):Int):=by rw[wr _ (by omega)<|by omega];omega
  rw[DH]at a;refine zh (Al ..) (zc (by simp;omega) ?_);rw[zf,g,m];refine zc (by simp;omega)<|zg (fun d=>?_)<|fun d=>?_
  ·have b:c=47:=by
    have:(c.toNat:Int)=47:=by simpa using d
    exact zQ.1 (by show _=47;omega)
   rw[wd b]at a;exact ze<|a _
  ·have b:c≠47:=by rintro rfl;exact wh d (by decide)
   rw[wc b]at a;refine An s k r (i+1) l f<|fun ob=>?_;have:=a ob;rw[zm]at this;rw[show i+1+(Ay r).length=i+((Ay r).length+1)by omega];exact this
theorem ok:Ag Bm 128 OL:=by
 refine Cj Er<|fun(s:Z) a=>?_;have a:s.length<=1000000:=w6 a;refine zV (Ap s) (An s (by omega) s 0 rfl (zN _) (fun ob=>yc rfl rfl ?_));rw[Nat.zero_add];rfl
theorem mT:Ag Bm 128 V9:=by
 refine Cj Er<|fun(s:Z) a=>?_;have a:s.length<=9223372036854775807:=w6 a;refine zV (Ap s)<|An s a s 0 rfl (zN _) (fun ob=>yc rfl rfl ?_);rw[Nat.zero_add];rfl
end T128
namespace T129
variable {Q:PV->Ob->Prop}
theorem R1{s:Z}{r:Z}{c:UInt8}{i:Nat}(h:s.drop i=c::r):Ai (s.drop i)=(BH c&&Ai (s.drop<|i+1)):=by
 obtain⟨_,_,a⟩:=drop_cons (d:=0) h;rw[a,h];rfl
theorem An(s:Z)(l:s.length<=9223372036854775807):∀(r:Z) (i:Nat),s.drop i=r->i<=s.length->(∀ob,Q (.bl<|Ai<|s.drop i) ob)->Ends Mj (L1 s s i) Q
 |[],i,h,f,a=>by
  have k:i=s.length:=drop_nil h f;rw[h]at a;subst k;exact zh (Al ..) (zo (by simp)<|ze<|a _)
 |c::r,i,h,f,a=>by
  obtain⟨g,j,m⟩:=drop_cons (d:=0) h;have n:zi .i64 ((i:Int)+1)=((i+1:Nat):Int):=by rw[wr _ (by omega)<|by omega];omega
  rw[R1 h]at a;refine zh (Al ..) (zc (by simp;omega) ?_);rw[zf,j,n];refine zc (by simp;omega) (zg (fun d=>?_)<|fun d=>zc (by simp;omega)<|zg (fun e=>?_)<|fun e=>?_)
  ·have d:=w6 d;have b:BH c=false:=by unfold BH;rw[w8<|by omega];rfl
   rw[b]at a;exact ze<|a _
  ·have e:=w6 e;have b:BH c=false:=by unfold BH;rw[w8 (p:=c.toNat<=57) (by omega),Bool.and_false]
   rw[b]at a;exact ze<|a _
  ·have d:=w7 d;have e:=w7 e;have b:BH c=true:=by unfold BH;exact Aa (w4<|by omega) (w4<|by omega)
   rw[b,zT]at a;exact An s l r (i+1) m g a
theorem AV(s:Z)(l:s.length<=9223372036854775807):∀(r:Z) (i:Nat),s.drop i=r->i<=s.length->(∀ob,Q (.bl<|Ai<|s.drop i) ob)->Ends Mj (L2 s s i) Q
 |[],i,h,f,a=>by
  have k:i=s.length:=drop_nil h f;rw[h]at a;subst k;exact zh (AK ..) (zo (by simp)<|ze<|a _)
 |c::r,i,h,f,a=>by
  obtain⟨g,j,m⟩:=drop_cons (d:=0) h;have n:zi .i64 ((i:Int)+1)=((i+1:Nat):Int):=by rw[wr _ (by omega)<|by omega];omega
  rw[R1 h]at a;refine zh (AK ..) (zc (by simp;omega) ?_);rw[zf,j,n];refine zc (by simp;omega) (zg (fun d=>?_)<|fun d=>zc (by simp;omega)<|zg (fun e=>?_)<|fun e=>?_)
  ·have d:=w6 d;have b:BH c=false:=by unfold BH;rw[w8<|by omega];rfl
   rw[b]at a;exact ze<|a _
  ·have e:=w6 e;have b:BH c=false:=by unfold BH;rw[w8 (p:=c.toNat<=57) (by omega),Bool.and_false]
   rw[b]at a;exact ze<|a _
  ·have d:=w7 d;have e:=w7 e;have b:BH c=true:=by unfold BH;exact Aa (w4<|by omega) (w4<|by omega)
   rw[b,zT]at a;exact AV s l r (i+1) m g a
theorem mT:Ag Bm 129 QX:=by
 refine Cj Er<|fun(s:Z) g=>?_;have g:s.length<=9223372036854775807:=w6 g;have i:∀b ob,b=AQ s->Ad QX s (.bl b) ob:=fun b ob k=>yc rfl rfl k
 refine zV (Ap s) ?_;conv=>zeta
 cases s with
 |nil=>exact zc rfl (ze<|i _ _ rfl)
 |cons c r=>
  have f:(c::r).getD 0 0=c:=rfl;rw[f];refine zo (by simp;omega) (zg (fun d=>zc (by simp)<|zg (fun e=>ze<|i _ _ ?_)<|fun e=>?_)<|fun d=>?_)
  ·have d:=w6 d;have a:c=48:=by
    have:(c.toNat:Int)=48:=by simpa using e
    exact zQ.1 (by show _=48;omega)
   have j:r≠[]:=by rintro rfl;simp at d
   unfold AQ;rw[f,w8 (p:=c≠48)<|fun h=>h a,w8 (p:=c::r=[48])<|by intro h;simp at h;exact j h.2];simp
  ·have a:c≠48:=by rintro rfl;exact wh e (by decide)
   refine An (c::r) g (c::r) 0 rfl (zN _) (fun ob=>i _ _ ?_);unfold AQ;rw[f,w4 a];simp
  ·have d:=w7 d;have j:r=[]:=by
    have:r.length=0:=by simp at d;omega
    exact zM.1 this
   subst j;refine AV [c] g [c] 0 rfl (zN _) (fun ob=>i _ _ ?_);unfold AQ;rw[f];by_cases a:c=48
   ·subst a;rfl
   ·rw[w4 a];simp
end T129
theorem fN:D3 mC:=Ac T155.ok AP
namespace T97
variable {Q:PV->Ob->Prop}
theorem Ox{v:Int}(a: -9223372036854775808<=v/\v<9223372036854775808):∃q d:Nat,Af v=d+1000000000*q/\d<1000000000/\zi .i64 (Int.tdiv v 1000000000)=(if v<0 then -(q:Int)else q)/\Int.tmod v 1000000000=(if v<0 then -(d:Int)else d):=by
 refine⟨v.natAbs/1000000000,v.natAbs % 1000000000,by rw[Aj];omega,by omega,?_,?_⟩
 ·by_cases h:v<0
  ·have:=Int.neg_tdiv (-v) 1000000000;rw[Int.neg_neg]at this;rw[this,ye (by omega),wd h,wr _ (by omega)<|by omega];omega
  ·rw[ye (by omega),wc h,wr _ (by omega)<|by omega];omega
 ·by_cases h:v<0
  ·have:=Int.neg_tmod (-v) 1000000000;rw[Int.neg_neg]at this;rw[this,yf (by omega),wd h];omega
  ·rw[yf (by omega),wc h];omega
theorem AV(neg:Bool)(D:Int)(l:∀(w:List Int) ob,Av z6 w->Sp.val z6 w=D->Q (.agg [.dat .bool<|B5 neg w,.dat li<|At w]) ob):∀(f:Nat) (v:Int) (o1:List Int),Af v<f->(-9223372036854775808<=v/\v<9223372036854775808)->o1.length<=100->(Af v≠0->Af v*1000000000^o1.length<=9223372036854775808)->Av z6 o1->Sp.val z6 o1+(z6:Int)^o1.length*Af v=D->Ends mC (L2 v o1.length neg o1) Q
 |0,v,o1,o,k,s,m,e,a=>by
  have:=AI v;omega
 |f+1,v,o1,o,k,s,m,e,a=>by
  obtain⟨q,d,s1,s2,s3,s4⟩:=Ox k;by_cases h0:v=0
  ·subst h0;have p:Af 0=0:=rfl;rw[p,Int.mul_zero,Int.add_zero]at a;refine zh (AK ..)<|zo rfl ?_;rw[zR];exact zc (by simp;omega)<|ze<|l _ _ e a
  ·have h:Af v≠0:=by rw[Aj];omega
   have n:=m h;have j:o1.length<=10:=by
    rcases Nat.lt_or_ge 10 o1.length with g|g
    ·exfalso;have r:(1000000000:Int)^11<=1000000000^o1.length:=AM (by decide) g;have t:(9223372036854775808:Int)<1000000000^11:=by decide
     have u:=zp (show 1<=Af v by have:=AI v;omega) (show(0:Int)<=1000000000^o1.length by omega);omega
    ·exact g
   have eq:Af (if v<0 then -(q:Int)else q)=q:=by rw[Aj];split<;>omega
   have go:Ends mC (L2 (if v<0 then -(q:Int)else q) (Nat.add o1.length 1) neg<|o1++[(d:Int)]) Q:=by
    have:=AV neg D l f (if v<0 then -(q:Int)else q) (o1++[(d:Int)]) (by rw[eq];omega) (by have:=Aj v;split<;>omega) (by simp;omega) (fun _=>by
     rw[eq,zr];show(q:Int)*1000000000^(o1.length+1)<=_;rw[z7, <-Int.mul_assoc,Int.mul_right_comm];have r:=zp (show(q:Int)*1000000000<=Af v by omega) (show(0:Int)<=1000000000^o1.length from zw<|AN (by decide) _);omega) (EO e<|by omega) (by
     rw[eq,B4,zr];show Sp.val z6 o1+(z6:Int)^o1.length*(d:Int)+(z6:Int)^(o1.length+1)*(q:Int)=D;rw[I9,Int.add_assoc, <-Int.mul_add, <-a,s1])
    rw[zr]at this;exact this
   refine zh (AK ..) (zc (by simpa using h0)<|zc rfl ?_);rw[s3,s4];refine zg (fun c=>zc (by simp;omega)<|zc rfl ?_) (fun c=>zc (by simp;omega)<|zc rfl ?_)
   ·have c:=w6 c;have b:v<0:=by split at c<;>omega
    rw[wd b]at c;rw[wd b,wd b];rw[wd b]at go;have i:zi .i64 (0 - -(d:Int))=(d:Int):=by rw[wr _ (by omega)<|by omega];omega
    rw[i];exact go
   ·have c:=w7 c;have i:(if v<0 then -(d:Int)else(d:Int))=(d:Int):=by split at c<;>split<;>omega
    rw[i];exact go
theorem ok:Ag Bm 97 IA:=by
 refine Cj fN<|fun(v:Int) f=>?_;have f:=El (n:=v) f;have fin:∀(w:List Int) ob,Av z6 w->Sp.val z6 w=Af v->Ad IA v (.agg [.dat .bool<|B5 (decide (v<0)) w,.dat li<|At w]) ob:=by
  intro w ob j i;refine yc rfl rfl ?_;have:=Lp (neg:=decide (v<0)) j i;have e:(if decide (v<0)=true then -Af v else Af v)=v:=by
   rw[Aj];by_cases h:v<0
   ·rw[wd<|w4 h];omega
   ·rw[wc<|by simpa using h];omega
  rw[e]at this;exact this
 obtain⟨q,d,s1,s2,s3,s4⟩:=Ox f;have a:=AI v;refine zV (Ap v) ?_;conv=>zeta
 by_cases h0:v=0
 ·subst h0;exact zh (Al ..) (zo rfl (zc rfl (ze<|fin [] _ (fun x b=>by cases b) rfl)))
 ·have eq:Af (if v<0 then -(q:Int)else q)=q:=by rw[Aj];split<;>omega
  have go:Ends mC (L2 (if v<0 then -(q:Int)else q) 1 (decide (v<0)) [(d:Int)]) (Ad IA v):=by
   refine AV (decide (v<0)) (Af v) fin (q+1) _ [(d:Int)] (by rw[eq];omega) (by have:=Aj v;split<;>omega) (by simp) (fun _=>?_) (fun x b=>by rw[List.mem_singleton]at b;subst b;show 0<=_/\_<(1000000000:Int);omega) ?_
   ·rw[eq];show(q:Int)*1000000000^1<=_;have:=Aj v;omega
   ·rw[eq,D5,s1];show(d:Int)+(1000000000:Int)^1*(q:Int)=_;omega
  refine zh (Al ..) (zc (by simpa using h0)<|zc rfl ?_);rw[s3,s4];refine zg (fun c=>zc rfl (zc rfl ?_))<|fun c=>zc rfl (zc rfl ?_)
  ·have c:=w6 c;have a:v<0:=by split at c<;>omega
   rw[wd a]at c;rw[wd a,wd a];rw[wd a]at go;have g:zi .i64 (0 - -(d:Int))=(d:Int):=by rw[wr _ (by omega)<|by omega];omega
   rw[g];exact go
  ·have c:=w7 c;have g:(if v<0 then -(d:Int)else(d:Int))=(d:Int):=by split at c<;>split<;>omega
   rw[g];exact go
end T97
theorem jB:D3 yG:=Ac T128.ok<|Ac T149.ok<|Ac T97.ok AP
theorem BC:∀(s:Z),Ay s=s.take (Ay s).length/\(Bh s=true->(Ay s).length<s.length/\zk s=s.drop ((Ay s).length+1))/\(Bh s=false->Ay s=s/\zk s=[])
 |[]=>⟨rfl,(fun h=>(by cases h)),fun _=>⟨rfl,rfl⟩⟩
 |c::r=>by
  obtain⟨d,i,f⟩:=BC r;have j:zk (c::r)=if c=47 then r else zk r:=by
   unfold zk;rw[yd];by_cases h:c=47
   ·subst h;rfl
   ·rw[wc (by simpa using h),wc h];cases r.findIdx? (fun x=>x==47)<;>rfl
  have e:Bh (c::r)=(decide (c=47)||Bh r):=by
   unfold Bh;rw[List.any_cons];congr 1
  rw[DH,j,e];by_cases h:c=47
  ·rw[wd h,wd h,w4 h];exact⟨rfl,(fun _=>⟨by simp,rfl⟩),fun h=>by cases h⟩
  ·rw[wc h,wc h,w8 h];refine⟨?_,fun g=>?_,fun g=>?_⟩
   ·rw[zm,List.take_succ_cons, <-d]
   ·obtain⟨b,a⟩:=i g;refine⟨by simp;omega,?_⟩;rw[zm,List.drop_succ_cons];exact a
   ·obtain⟨b,a⟩:=f g;exact⟨by rw[b],a⟩
theorem T92.ok:Ag Bm 92 QG:=by
 refine Cj jB<|fun(a:Z) d=>?_;have d:(D2 (Ay a)&&D2 (zk a)&&decide (a.length<=5999))=true:=d;rw[zd,zd,w5]at d;obtain⟨⟨f,m⟩,n⟩:=d;obtain⟨c1,c2,c3⟩:=BC a;have es:AT a=((Ay a).length:Int):=rfl;have k:(Ay a).length<=a.length:=(T122.Du a).1;refine zV (T92.Ap a) (zc (w4<|by omega)<|zg (fun c=>?_)<|fun c=>?_)
 ·have c:(Ay a).length=a.length:=by
   have:((Ay a).length:Int)=(a.length:Int):=by simpa [es]using c
   omega
  have b:Bh a=false:=by
   cases h:Bh a with
   |false=>rfl
   |true=>have:=(c2 h).1;omega
  obtain⟨g,i⟩:=c3 b;rw[g]at f;refine zc f<|zc rfl (ze<|yc rfl rfl ?_);show((EJ a,EM a),(false,Sp.rW 1))=((Bu a,Bn a),(Bb a,A4 a));unfold Bu Bn Bb A4 A0 AE EJ EM;rw[g,b];rfl
 ·have e:(Ay a).length<a.length:=by
   have:((Ay a).length:Int)≠(a.length:Int):=by simpa [es]using c
   omega
  have b:Bh a=true:=by
   cases h:Bh a with
   |true=>rfl
   |false=>have:=(c3 h).1;rw[this]at e;omega
  obtain⟨g,i⟩:=c2 b;have l:zi .i64 (((Ay a).length:Int)+1)=(((Ay a).length+1:Nat):Int):=by rw[wr _ (by omega)<|by omega];omega
  have j:(a.drop<|(Ay a).length+1).take (yp a.length<|(Ay a).length+1)=a.drop ((Ay a).length+1):=zO (by rw[zl];exact zz _);rw[es,l,zf,zf,j, <-c1, <-i];refine zc (by simp;omega) (zc (by simp;omega)<|zc f<|zc m<|ze<|yc rfl rfl ?_);show((EJ<|Ay a,EM<|Ay a),(EJ<|zk a,EM<|zk a))=((Bu a,Bn a),(Bb a,A4 a));unfold Bu Bn Bb A4 A0 AE EJ EM;rw[b];rfl
theorem eN:D3 Sk:=Ac T128.mT<|Ac T129.mT<|Ac T92.ok<|Ac T130.ok AP
namespace T62
variable {Q:PV->Ob->Prop}
theorem iS{g:Int}(h0:0<=g):BL g=[1]↔g=1:=by
 constructor
 ·intro h;have:=C1 (b:=z6) (by decide) h0;have h:Sp.dg z6 g=[1]:=h;rw[h]at this;rw[<-this];rfl
 ·rintro rfl;rfl
theorem BP(s:Z)(t:Ai (Ay s)=true)(l:Bh s=true->Ai (zk s)=true)(B:(Ay s).length<=600)(H:(zk s).length<=600)(I:s.length<=5999)
  (a:∀ob,Q (.dat i64<|if Bh s=true/\yn (AA 0<|Ay s) (AA 0<|zk s)≠1 then 1 else 0) ob):Ends Sk (L4 s<|AT s) Q:=by
 obtain⟨L,A,G⟩:=BC s;have es:AT s=((Ay s).length:Int):=rfl;refine zh (Cf ..) ?_;conv=>zeta
 rw[es];refine zg (fun c=>?_)<|fun c=>?_
 ·have c:=w6 c;have f:Bh s=true:=by
   cases h:Bh s with
   |true=>rfl
   |false=>have:=(G h).1;rw[this]at c;omega
  have l:=l f;obtain⟨J,z⟩:=JE t (by omega);obtain⟨r3,r4⟩:=JE l (by omega);have p:=A6 t;have o:=A6 l;have q:∀k:Nat,(10:Int)^k<=(z6:Int)^k:=by
   intro k;induction k with
   |zero=>exact yo _
   |succ k F=>
    rw[z7,z7];have j:=zp F (show(0:Int)<=10 by decide);have v:=zn (show(10:Int)<=(z6:Int)by decide) (zw<|AN (b:=z6) (by decide) k);exact z8 j v
  have u:AA 0 (Ay s)<(z6:Int)^600:=zj p.2 (z8 (q _)<|AM (by decide) B);have r:AA 0 (zk s)<(z6:Int)^600:=zj o.2 (z8 (q _) (AM (by decide) H));have E:Bn s=BL (AA 0<|Ay s):=by
   unfold Bn A0 Sp.rW;rw[z,show Af (AA 0<|Ay s)=AA 0 (Ay s)by rw[Aj];omega]
  have w:A4 s=BL (AA 0<|zk s):=by
   unfold A4 AE Sp.rW;rw[wd f,r4,show Af (AA 0<|zk s)=AA 0 (zk s)by rw[Aj];omega]
  obtain⟨n1,_,v1,K⟩:=Gw (k:=600) p.1 u (by decide);obtain⟨n2,_,v2,l2⟩:=Gw (k:=600) o.1 r (by decide);have n:FN s=true:=by
   unfold FN;rw[J,r3];exact w4 I
  rw[E,w];refine zc n (zh (DU ..)<|zc (Aa (Aa (Aa n1 n2)<|w4<|by omega)<|w4<|by omega) ?_);have y:Cd (BL<|AA 0<|Ay s) (BL<|AA 0<|zk s)=BL (yn (AA 0<|Ay s)<|AA 0<|zk s):=by
   unfold Cd;rw[v1,v2]
  rw[y];obtain⟨C,_⟩:=mH p.1 o.1 u r;generalize yn (AA 0<|Ay s) (AA 0<|zk s)=g at*;have j:=iS C;by_cases h:g=1
  ·rw[wc<|fun x=>x.2 h]at a;rw[j.2 h];exact zh (Fj ..)<|zo rfl (zc rfl (zo rfl (ze<|a _)))
  ·rw[wd ⟨f,h⟩]at a;have i:BL g≠[1]:=fun x=>h<|j.1 x
   refine zh (Fj ..)<|zg (fun d=>ze<|a _)<|fun d=>?_;have d:(BL g).length=1:=by
    have:((BL g).length:Int)=1:=by simpa using d
    omega
   obtain⟨x,D⟩:=List.length_eq_one_iff.1 d;rw[D]at i ⊢;have m:x≠1:=fun e=>i (by rw[e])
   exact zc rfl (zc (by simpa using m)<|ze<|a _)
 ·have c:=w7 c;have f:Bh s=false:=by
   cases h:Bh s with
   |false=>rfl
   |true=>have:=(A h).1;omega
  rw[wc<|fun x=>by rw[f]at x;cases x.1]at a;exact ze<|a _
theorem AV(s:Z)(r:Ai (Ay s)=true)(w:s.length<=9223372036854775807)(a:∀ob,Q (.dat i64<|T122.E (Ay s) (zk s) (Bh s)<|!Bh s||(AQ (zk s)&&decide (zk s≠[48])&&decide (zk s≠[49]))) ob):Ends Sk (L2 s<|AT s) Q:=by
 obtain⟨x,m,j⟩:=BC s;have es:AT s=((Ay s).length:Int):=rfl;have t:=T122.Du s;have rY:(Bh s=true->Ai (zk s)=true)->(∀ob,Q (.dat i64<|T122.E (Ay s) (zk s) (Bh s) true) ob)->Ends Sk (L3 s<|AT s) Q:=by
  intro o a;unfold T122.E at a;rw[wc<|by decide]at a;have b:s.length=(Ay s).length+(if Bh s=true then 1+(zk s).length else 0):=by
   cases h:Bh s with
   |true=>obtain⟨l,i⟩:=m h;rw[wd rfl,i,zl];omega
   |false=>obtain⟨l,i⟩:=j h;rw[wc (by decide),l];rfl
  have k:Bh s=false->(zk s).length=0:=fun h=>by rw[(j h).2];rfl
  refine zh (BE ..) ?_;conv=>zeta
  rw[es,wr ((s.length:Int)-((Ay s).length:Int)) (by omega) (by omega),wr _ (by omega)<|by omega];refine zg (fun c=>?_)<|fun c=>zg (fun d=>?_)<|fun d=>?_
  ·have c:=w6 c;rw[wd<|.inl<|by omega]at a;exact ze<|a _
  ·have c:=w7 c;have d:=w6 d;have:600<(zk s).length:=by split at b<;>omega
   rw[wd<|.inr this]at a;exact ze<|a _
  ·have c:=w7 c;have d:=w7 d;have q:(zk s).length<=600:=by
    cases h:Bh s with
    |true=>rw[h,wd rfl]at b;omega
    |false=>have:=k h;omega
   rw[wc<|by omega]at a;exact BP s r o (by omega) q (by split at b<;>omega) a
 refine zh (AK ..) ?_;conv=>zeta
 cases g:Bh s with
 |false=>
  rw[g]at a;have u:¬(AT s<(s.length:Int)):=by rw[es,(j g).1];omega
  exact zo (w8 u) (rY (fun h=>by rw[g]at h;cases h)<|by rw[g];exact a)
 |true=>
  rw[g]at a;obtain⟨l,i⟩:=m g;have v:zi .i64 (((Ay s).length:Int)+1)=(((Ay s).length+1:Nat):Int):=by rw[wr _ (by omega)<|by omega];omega
  have n:(s.drop<|(Ay s).length+1).take (yp s.length<|(Ay s).length+1)=s.drop ((Ay s).length+1):=zO (by rw[zl];exact zz _);rw[es,v,zf,n, <-i];rw[es]at rY;have bad:(!true||(AQ (zk s)&&decide (zk s≠[48])&&decide (zk s≠[49])))=false->∀ob,Q (.dat i64 1) ob:=by
   intro h ob;have:=a ob;rw[h]at this;exact this
  refine zc (by simp;omega) (zc (by simp;omega)<|zc (w4<|by omega)<|zg (fun d=>ze<|bad ?_ _)<|fun d=>zc (by simp;omega)<|zg (fun e=>ze<|bad ?_ _)<|fun e=>zc (by simp;omega)<|zg (fun f=>ze<|bad ?_ _)<|fun f=>?_)
  ·have d:AQ (zk s)=false:=by simpa using d
   rw[d];rfl
  ·have e:zk s=[48]:=by simpa using e
   rw[w8 (p:=zk s≠[48])<|fun h=>h e];simp
  ·have f:zk s=[49]:=by simpa using f
   rw[w8 (p:=zk s≠[49])<|fun h=>h f];simp
  ·have d:AQ (zk s)=true:=by simpa using d
   have e:zk s≠[48]:=by simpa using e
   have f:zk s≠[49]:=by simpa using f
   rw[d,w4 e,w4 f]at a;exact rY (fun _=>(G3 d).2) (by rw[g];exact a)
theorem An(a s:Z)(g:s=A3 a)(q:a.length<=9223372036854775807)(b:∀ob,Q (.dat i64<|As a) ob):Ends Sk (L1 a s) Q:=by
 obtain⟨k,r,o⟩:=BC s;have es:AT s=((Ay s).length:Int):=rfl;have n:s.length<=a.length:=by rw[g];exact T122.WK a
 have m:=T122.Du s;have j:As a=T122.E (Ay s) (zk s) (Bh s) (AQ (Ay s)&&(!yr a||decide (Ay s≠[48]))&&(!Bh s||(AQ (zk s)&&decide (zk s≠[48])&&decide (zk s≠[49])))):=by rw[g];rfl
 rw[j]at b;have tk:s.take (Ay s).length=Ay s:=k.symm;refine zh (Al ..) ?_;conv=>zeta
 rw[show AT s=((Ay s).length:Int)from rfl,zf,tk];refine zc (w4<|by omega) (zc (by simp;omega) (zc (w4<|by omega)<|zg (fun d=>?_)<|fun d=>?_))
 ·have d:AQ (Ay s)=false:=by simpa using d
  rw[d]at b;exact ze<|b _
 ·have d:AQ (Ay s)=true:=by simpa using d
  have i:=(G3 d).2;have l:a.length≠0:=by
   intro h;have h:=zM.1 h;have:s=[]:=by rw[g,h];rfl
   rw[this]at d;exact wh d (by decide)
  rw[d,zT]at b;refine zc (w4<|by omega) (zg (fun e=>zc (by simp;omega)<|zg (fun f=>?_)<|fun f=>?_)<|fun e=>?_)
  ·have c:yr a=true:=by
    unfold yr;refine w4<|zQ.1 ?_;have:((a.getD 0 0).toNat:Int)=45:=by simpa using e
    show _=45;omega
   have f:Ay s=[48]:=by simpa using f
   rw[c,w8 (p:=Ay s≠[48])<|fun h=>h f]at b;exact ze<|b _
  ·have f:Ay s≠[48]:=by simpa using f
   rw[w4 f,Bool.or_true,zT]at b;exact AV s i (by omega) b
  ·have c:yr a=false:=by
    unfold yr;refine w8<|fun h=>?_;rw[h]at e;exact wh e (by decide)
   rw[c,Bool.not_false,Bool.true_or,zT]at b;exact AV s i (by omega) b
theorem ok:Ag Bm 62 Ej:=by
 refine Cj eN<|fun(a:Z) b=>?_;have b:a.length<=1000000:=w6 b;have g:∀ob,Ad Ej a (.dat i64<|As a) ob:=fun ob=>yc rfl rfl rfl
 refine zV (Ap a) ?_;conv=>zeta
 cases a with
 |nil=>exact zo rfl (An [] [] rfl (ym b<|by decide) g)
 |cons c r=>
  have f:(c::r).getD 0 0=c:=rfl;rw[f];refine zc (by simp) (zc (by simp) (zg (fun d=>zc (by simp) ?_)<|fun d=>?_))
  ·have h:c=45:=by
    have:(c.toNat:Int)=45:=by simpa using d
    exact zQ.1 (by show _=45;omega)
   have e:(List.drop 1 (c::r)).take (yp (c::r).length 1)=r:=by show r.take ((r.length+1)-1)=r;rw[Nat.add_sub_cancel];exact zR
   rw[e];exact An (c::r) r (by unfold A3;rw[f,wd h];rfl) (ym b<|by decide) g
  ·have h:c≠45:=by rintro rfl;exact wh d (by decide)
   exact An (c::r) (c::r) (by unfold A3;rw[f,wc h]) (ym b<|by decide) g
end T62
theorem Qj:D3 vM:=
 Ac T161.ok (Ac T143.ok<|Ac T190.ok<|Ac T170.ok<|Ac T106n.ok<|Ac T139.ok<|Ac T127.ok<|Ac T105.ok<|Ac T124.ok<|Ac T126.ok AP)
theorem Mz{a:Br}(h:Pb a=true):BV a=true/\Af (zS a)<(Am:Int)^4000:=by
 unfold Pb at h;rw[zd,w5]at h;refine⟨?_,HN h.1 h.2<|by decide⟩;unfold BV;exact Aa h.1 (w4 (by omega))
theorem kB{x y:Int}(a:Af x<(Am:Int)^4000)(d:Af y<(Am:Int)^4000):Af (x*y)<(Am:Int)^8000:=by
 rw[JN];have h0:=AI x;have c:=AN (b:=Am) (by decide) 4000;have a1:=zn (zw d) h0;have a2:=Int.mul_lt_mul_of_pos_right a c;have a3:(Am:Int)^4000*(Am:Int)^4000=(Am:Int)^8000:=(Int.pow_add _ 4000 4000).symm;rw[a3]at a2;exact zx a1 a2
theorem wO{x:Int}(h:x<(Am:Int)^8000):x<(Am:Int)^9000:=zj h (AM (by decide)<|by decide)
theorem VZ{x y:Int}(a:Af x<(Am:Int)^4000)(b:Af y<(Am:Int)^4000):BV (CI<|x*y)=true:=EW<|wO<|kB a b
theorem T55.ok:Ag Bm 55 SP:=by
 refine Cj Qj<|fun(a:Z) b=>?_;have b:(D2 (Ay a)&&D2 (zk a)&&decide (a.length<=5999))=true:=b;rw[zd,zd,w5]at b;obtain⟨⟨d,e⟩,f⟩:=b;refine zV (T55.Ap a) (zc (Aa (w4 rfl)<|w4<|by omega)<|zg (fun c=>zc d<|zc rfl (ze<|yc rfl rfl ?_))<|fun c=>zc d<|zc e<|ze<|yc rfl rfl ?_)
 ·have c:Bh a=false:=by simpa using c
  show((CU<|Ay a,C0<|Ay a),((1:Int),C5 1))=((Kw a,JU a),(IV a,IU a));unfold IV IU AE;rw[c,Wm];rfl
 ·have c:Bh a=true:=by simpa using c
  show((CU<|Ay a,C0<|Ay a),(CU<|zk a,C0<|zk a))=((Kw a,JU a),(IV a,IU a));unfold IV IU AE;rw[c];rfl
theorem T56.ok:Ag Bm 56 Vl:=by
 refine Cj Qj<|fun(i:((Int×List Int)×(Int×List Int))×((Int×List Int)×(Int×List Int))) c=>?_;obtain⟨a,b⟩:=i;have c:((Pb a.1&&Pb a.2)&&(Pb b.1&&Pb b.2))=true:=c;rw[zd,zd,zd]at c;obtain⟨⟨a1,a2⟩,b1,b2⟩:=c;obtain⟨a1,la1⟩:=Mz a1;obtain⟨a2,la2⟩:=Mz a2;obtain⟨b1,lb1⟩:=Mz b1;obtain⟨b2,lb2⟩:=Mz b2;refine zV (T56.Ap a b)<|zc (Aa a1 b2)<|zc (Aa b1 a2)<|zc (Aa (VZ la1 lb2)<|VZ lb1 la2)<|ze<|yc rfl rfl ?_;show BY (zS<|UO a.1 b.2) (zS<|UO b.1 a.2)=BY _ _;rw[Ul,Ul]
theorem qD{a:Br}(h:Sp.D8 a=true){k:Nat}(c:Af (zS a)<(Am:Int)^k):a.2.length<=k:=by
 rcases O1 h with⟨b,_⟩|b
 ·rw[b];exact zN _
 ·rw[<-b];exact KS (AI _) c
theorem V6{a:Br}(h:Sp.D8 a=true)(b:Af (zS a)<(Am:Int)^4000):Pb a=true:=by
 unfold Pb;exact Aa h<|w4<|qD h b
structure Wu(f:Cq)(q:Rat):Prop where
 n:Sp.D8 f.1=true
 d:Sp.D8 f.2=true
 vn:zS f.1=q.num
 vd:zS f.2=(q.den:Int)
def vF(k:Nat)(q:Rat):Prop:=Af q.num<(Am:Int)^k/\(q.den:Int)<(Am:Int)^k
theorem Wu.den_pos{f:Cq}{q:Rat}(h:Wu f q):0<zS f.2:=by
 rw[h.vd];have:=q.den_pos;omega
theorem Wu.gZ{f:Cq}{q:Rat}(h:Wu f q)(a:vF 4000 q):Sp.gZ f=true:=by
 unfold Sp.gZ Sp.FZ;have b:Af (zS f.2)=(q.den:Int):=by rw[h.vd,Aj,zP]
 exact Aa (Aa (V6 h.n<|by rw[h.vn];exact a.1)<|V6 h.d<|by rw[b];exact a.2)<|w4 h.den_pos
end Go.Pe
namespace Go.Sp
open Go.Lib
theorem Ro{P:Nat->Z->Prop}(b:∀d,d<10->P d [zK<|48+d])(c:∀a d,0<a->d<10->P a (decDigits a)->P (10*a+d) (decDigits a++[zK<|48+d]))(n:Nat):P n (decDigits n):=by
 induction n using Nat.strongRecOn with
 |_ n f=>
  by_cases h:n<10
  ·rw[decDigits_one h];exact b n h
  ·have e:n=10*(n/10)+n % 10:=by omega
   have:=c (n/10) (n % 10) (by omega) (Nat.mod_lt _<|by decide) (f (n/10) (by omega));rw[<-E1 _ _ (by omega) (Nat.mod_lt _<|by decide), <-e]at this;exact this
theorem Oo:∀d:Fin 10,(zK<|48+d.1).toNat=48+d.1:=by decide
theorem JX{d:Nat}(h:d<10):BH (zK<|48+d)=true/\G4 (zK<|48+d)=d:=by
 have e:(zK<|48+d).toNat=48+d:=Oo ⟨d,h⟩;unfold BH G4;rw[e];refine⟨?_,by omega⟩;rw[w4 (by omega),w4<|by omega];rfl
theorem cA{c:UInt8}(h:BH c=true):c=zK (48+(G4 c).toNat)/\(G4 c).toNat<10:=by
 obtain⟨b,d⟩:=CL h;have a:(G4 c).toNat<10:=by omega
 refine⟨zQ.1 ?_,a⟩;rw[Oo ⟨(G4 c).toNat,a⟩];show c.toNat=48+(G4 c).toNat;unfold G4 at*;omega
theorem oF(n:Nat):decDigits n≠[]:=Ro (P:=fun _ l=>l≠[]) (fun _ _=>by simp) (fun _ _ _ _ _=>by simp) n
theorem DS(n:Nat):Ai (decDigits n)=true:=by
 refine Ro (P:=fun _ l=>Ai l=true) (fun d h=>?_) (fun a d _ h b=>?_) n
 ·unfold Ai;rw[zt,(JX h).1];rfl
 ·unfold Ai at*;rw[List.all_append,b,zt,(JX h).1];rfl
theorem Qy(n:Nat):AA 0 (decDigits n)=n:=by
 refine Ro (P:=fun n l=>AA 0 l=n) (fun d h=>?_) (fun a d _ h b=>?_) n
 ·show 10*0+G4 (zK<|48+d)=d;rw[(JX h).2];omega
 ·rw[CE,b];show 10*(a:Int)+G4 (zK<|48+d)=_;rw[(JX h).2];omega
theorem Fh{s:Z}(h:AQ s=true):s≠[]/\Ai s=true/\(s.getD 0 0≠48\/s=[48]):=by
 unfold AQ at h;rw[zd,zd,w5,Bool.or_eq_true,w5,w5]at h;exact⟨h.1.1,h.1.2,h.2⟩
theorem Ia{s:Z}(h:AQ s=true)(h0:s≠[48]):0<AA 0 s:=by
 obtain⟨f,a,b⟩:=Fh h;cases s with
 |nil=>exact wh rfl f
 |cons c r=>
  have d:(c::r).getD 0 0=c:=rfl;rw[d]at b;have j:c≠48:=by
   rcases b with x|x
   ·exact x
   ·exact wh x h0
  unfold Ai at a;rw[zt,zd]at a;have g:=CL a.1;have k:Ai r=true:=a.2;have m:=A6 k;show 0<AA (10*0+G4 c) r;rw[Ef];have i:(0:Int)<10^r.length:=Int.pow_pos (by decide);have n:c.toNat≠48:=fun x=>j<|zQ.1 x
  have e:0<10*0+G4 c:=by show 0<10*0+((c.toNat:Int)-48);have l:0<=((c.toNat:Int)-48):=g.1;omega
  have:=Int.mul_pos e i;omega
theorem OS{s:Z}(h:AQ s=true):s=decDigits (AA 0 s).toNat:=by
 generalize d:s.length=n;induction n generalizing s with
 |zero=>exact wh (zM.1 d) (Fh h).1
 |succ n m=>
  obtain⟨l,b,o⟩:=Fh h;obtain⟨t,c,rfl⟩:∃t c,s=t++[c]:=⟨_,_,(List.dropLast_concat_getLast l).symm⟩;unfold Ai at b;rw[List.all_append,zd,zt,zd]at b;obtain⟨h4,h5,_⟩:=b;obtain⟨b1,b2⟩:=cA h5;obtain⟨d1,_⟩:=CL h5;rw[CE];show t++[c]=decDigits (10*AA 0 t+G4 c).toNat;by_cases a:t=[]
  ·subst a;show[c]=decDigits (10*0+G4 c).toNat;rw[show(10*0+G4 c).toNat=(G4 c).toNat by omega,decDigits_one b2, <-b1]
  ·have g:(t++[c]).getD 0 0=t.getD 0 0:=by
    cases t with
    |nil=>exact wh rfl a
    |cons x r=>rfl
   have i:t.getD 0 0≠48:=by
    rcases o with x|x
    ·rw[g]at x;exact x
    ·have j:=wi zY x;rw[zr]at j;have u:t.length+1=1:=j;exact wh (zM.1<|by omega) a
   have f:AQ t=true:=by
    unfold AQ Ai;rw[w4 a,h4,w4 i];rfl
   have q:=Ia f (fun k=>i (by rw[k];rfl));have p:=m f (by rw[zr]at d;simpa using d);have e:(10*AA 0 t+G4 c).toNat=10*(AA 0 t).toNat+(G4 c).toNat:=by omega
   rw[e,E1 _ _ (by omega) b2, <-p, <-b1]
theorem nV:∀ {a:Z},(∀c∈a,c≠47)->Ay a=a/\AJ a=[]/\Bh a=false:=by
 intro a h;have b:Bh a=false:=by
  unfold Bh;rw[List.any_eq_false];intro x d;simpa using h x d
 exact⟨((Go.Pe.BC a).2.2 b).1,((Go.Pe.BC a).2.2 b).2,b⟩
theorem jJ:∀ {a:Z} (b:Z),(∀c∈a,c≠47)->Ay (a++47::b)=a/\AJ (a++47::b)=b/\Bh (a++47::b)=true:=by
 intro a b h;have d:Bh (a++47::b)=true:=by
  unfold Bh;rw[List.any_eq_true];exact⟨47,by simp,rfl⟩
 have f:∀ {a:Z},(∀c∈a,c≠47)->Ay (a++47::b)=a:=by
  intro a;induction a with
  |nil=>intro _;show Ay (47::b)=[];rw[Go.Pe.DH,wd rfl]
  |cons x r g=>
   intro h;show Ay (x::(r++47::b))=_;rw[Go.Pe.DH,wc (h x (by simp)),g<|fun c d=>h c<|List.mem_cons_of_mem _ d]
 have e:=f h;refine⟨e,?_,d⟩;rw[((Go.Pe.BC _).2.1 d).2,e];simp
theorem PT{s:Z}(h:Ai s=true):∀c∈s,c≠47:=by
 intro c a e;unfold Ai at h;rw[yj]at h;have:=h c a;rw[e]at this;exact wh this (by decide)
theorem EZ{s:Z}(h:Ai s=true):s.getD 0 0≠45:=by
 cases s with
 |nil=>decide
 |cons c r=>
  unfold Ai at h;rw[zt,zd]at h;show c≠45;intro e;rw[e]at h;exact wh h.1 (by decide)
def Bi(q:Rat):Z:=if q.den=1 then itoa q.num else itoa q.num++47::decDigits q.den
def A2(s:Z):Rat:=zW (A0 s)<|AE s
theorem Fi(n:Int):(∀c∈itoa n,c≠47)/\A3 (itoa n)=decDigits n.natAbs/\preB (itoa n)=decide (n<0)/\Cb (itoa n)=n:=by
 unfold itoa;by_cases h:n<0
 ·rw[wd h];refine⟨fun c a=>?_,rfl,(w4 h).symm,?_⟩
  ·rcases List.mem_cons.1 a with rfl|a
   ·decide
   ·exact PT (DS _) c a
  ·show -AA 0 (decDigits n.natAbs)=n;rw[Qy];omega
 ·rw[wc h];have b:=EZ<|DS n.toNat;have e:n.toNat=n.natAbs:=by omega
  refine⟨PT<|DS _,?_,?_,?_⟩
  ·unfold A3;rw[wc b,e]
  ·unfold preB;rw[w8 b,w8 h]
  ·unfold Cb;rw[wc b,Qy];omega
theorem HO(q:Rat):Ay (Bi q)=itoa q.num/\AJ (Bi q)=(if q.den=1 then[]else decDigits q.den)/\Bh (Bi q)=decide (q.den≠1):=by
 unfold Bi;have h:=(Fi q.num).1;by_cases a:q.den=1
 ·rw[wd a,wd a,w8<|not_not_intro a];exact nV h
 ·rw[wc a,wc a,w4 a];exact jJ _ h
theorem Jo(q:Rat):A0 (Bi q)=q.num/\AE (Bi q)=q.den:=by
 obtain⟨b,d,c⟩:=HO q;unfold A0 AE;rw[b,d,c];refine⟨(Fi q.num).2.2.2,?_⟩;by_cases a:q.den=1
 ·rw[wc (by simpa using a),a];rfl
 ·rw[wd<|w4 a,wc a];unfold Cb;rw[wc<|EZ<|DS _,Qy]
theorem Gt(q:Rat):A2 (Bi q)=q:=by
 unfold A2;rw[(Jo q).1,(Jo q).2];exact yg q
theorem Yd{p q:Rat}(h:Bi p=Bi q):p=q:=by
 rw[<-Gt p,h,Gt]
theorem VH(a:Z):Ay (A3 a)=A3 (Ay a)/\AJ (A3 a)=AJ a/\Bh (A3 a)=Bh a/\preB (Ay a)=preB a:=by
 unfold A3 preB;cases a with
 |nil=>exact⟨rfl,rfl,rfl,rfl⟩
 |cons c r=>
  have f:(c::r).getD 0 0=c:=rfl;rw[f,Go.Pe.DH];by_cases b:c=45
  ·subst b;have e:AJ (45::r)=AJ r:=by
    unfold AJ;rw[yd];cases r.findIdx? (fun x=>x==47)<;>rfl
   exact⟨rfl,e.symm,rfl,rfl⟩
  ·rw[wc b];by_cases d:c=47
   ·subst d;exact⟨(Go.Pe.DH _ _),rfl,rfl,rfl⟩
   ·rw[wc d];have g:(c::Ay r).getD 0 0=c:=rfl;rw[g,wc b];exact⟨by rw[Go.Pe.DH,wc d],rfl,rfl,rfl⟩
theorem T1{a:Z}(h:As a=0):Hj a=true/\(Ay<|A3 a).length<=600/\(AJ<|A3 a).length<=600/\(Bh (A3 a)=true->gI (qZ a) (qL a)=1):=by
 unfold As at h;cases b:Hj a with
 |false=>rw[wd b]at h;exact wh h (by decide)
 |true=>
  rw[wc<|by rw[b];decide]at h;split at h
  ·exact wh h (by decide)
  ·next c=>
   split at h
   ·exact wh h (by decide)
   ·next d=>exact⟨rfl,by omega,by omega,fun k=>Classical.byContradiction fun g=>d ⟨k,g⟩⟩
def Mf(k:Nat)(q:Rat):Prop:=q.num.natAbs<10^k/\q.den<10^k
theorem NU{n d:Int}(a:0<d)(h:Int.gcd n d=1):(zW n d).num=n/\((zW n d).den:Int)=d:=by
 have b:d.sign=1:=Int.sign_eq_one_of_pos a;rw[Rat.num_divInt,Rat.den_divInt,wc<|Int.ne_of_gt a,b,Int.one_mul,Int.gcd_comm,h];refine⟨Int.ediv_one _,?_⟩;rw[Nat.div_one,Int.natAbs_of_nonneg<|zw a]
theorem Nr{s:Z}(h:Ai s=true){k:Nat}(a:s.length<=k):(AA 0 s).toNat<10^k:=by
 have b:=A6 h;have d:(10:Int)^s.length<=10^k:=AM (by decide) a;have c:((10^k:Nat):Int)=(10:Int)^k:=by simp
 omega
theorem OY(k:Nat)(h:k≠0):(1:Int).toNat<10^k:=Nat.one_lt_pow h (by decide)
theorem lL:decDigits (Int.toNat 1)=[49]:=by rw[show Int.toNat 1=1 from rfl,decDigits_one<|by decide];rfl
theorem KZ{s:Z}(h:As s=0):Bi (A2 s)=s/\(A2 s).num=A0 s/\((A2 s).den:Int)=AE s/\Mf 600 (A2 s):=by
 obtain⟨m,y,w,d⟩:=T1 h;obtain⟨p1,p2,p3,p4⟩:=VH s;unfold Hj at m;rw[zd,zd]at m;obtain⟨⟨fa,fm⟩,b⟩:=m;unfold qZ qL at d;obtain⟨A,hA⟩:∃A,A=Ay (A3 s):=⟨_,rfl⟩;obtain⟨B,hB⟩:∃B,B=AJ (A3 s):=⟨_,rfl⟩;rw[<-hA]at fa fm y d;rw[<-hB]at b w d;rw[p3]at b d;have x:=(Fh fa).2.1;have z:=OS fa;have v0:=A6 x;have f:A0 s=(if preB s=true then -AA 0 A else AA 0 A)/\Ay s=(if preB s=true then 45::A else A):=by
  have S:A=A3 (Ay s):=by rw[hA,p1]
  unfold A0 Cb;rw[<-p4];unfold preB;rw[S];unfold A3;by_cases a:(Ay s).getD 0 0=45
  ·rw[wd a,wd<|w4 a,wd a,wd<|w4 a];refine⟨rfl,?_⟩;cases v:Ay s with
   |nil=>rw[v]at a;exact wh a (by decide)
   |cons c r=>
    rw[v]at a;have a:c=45:=a;rw[a];rfl
  ·rw[wc a,wc (by rw[w8 a];decide),wc a,wc<|by rw[w8 a];decide];exact⟨rfl,rfl⟩
 have u:(A0 s).natAbs=(AA 0 A).toNat:=by rw[f.1];split<;>omega
 have G:0<AE s/\(AE s).toNat<10^600/\Int.gcd (A0 s) (AE s)=1/\(Bh s=true->B=decDigits (AE s).toNat/\AE s≠1)/\(Bh s=false->AE s=1):=by
  unfold AE;rw[<-p2, <-hB];cases a:Bh s with
  |false=>
   rw[wc<|by decide];exact⟨by decide,OY 600 (by decide),Int.gcd_one,(fun k=>by cases k),fun _=>rfl⟩
  |true=>
   rw[a]at b;have b:(AQ B&&decide (B≠[48])&&decide (B≠[49]))=true:=b;rw[zd,zd,w5,w5]at b;obtain⟨⟨l,W⟩,X⟩:=b;have D:=(Fh l).2.1;have I:=Ia l W;have V:Cb B=AA 0 B:=by unfold Cb;rw[wc<|EZ D]
   rw[wd rfl,V];refine⟨I,Nr (k:=600) D w,?_,fun _=>⟨OS l,?_⟩,(fun k=>by cases k)⟩
   ·have g:=d a;rw[HU]at g;have g:Int.gcd (AA 0 A) (AA 0 B)=1:=by omega
    rw[f.1];split
    ·rw[Int.neg_gcd];exact g
    ·exact g
   ·intro e;have:=OS l;rw[e]at this;exact X<|this.trans lL
 obtain⟨R,H,L,P,O⟩:=G;obtain⟨j,p⟩:=NU (n:=A0 s) R L;have j:(A2 s).num=A0 s:=j;have p:((A2 s).den:Int)=AE s:=p;have C:(A2 s).den=(AE s).toNat:=by omega
 refine⟨?_,j,p,?_,?_⟩
 ·have J:itoa (A0 s)=Ay s:=by
   rw[f.2];unfold itoa;by_cases i:preB s=true
   ·have o:A≠[48]:=by
     have q:preB s=true:=i;rw[q]at fm;simpa using fm
    have:=Ia fa o;rw[f.1,wd i,wd i,wd (by omega),Int.natAbs_neg];rw[show(AA 0 A).natAbs=(AA 0 A).toNat by omega, <-z]
   ·rw[f.1,wc i,wc i,wc (by omega), <-z]
  unfold Bi;rw[j,C,J];obtain⟨E,M,U⟩:=Go.Pe.BC s;cases a:Bh s with
  |false=>
   rw[O a,wd<|show Int.toNat 1=1 from rfl];exact(U a).1
  |true=>
   obtain⟨K,Y⟩:=P a;obtain⟨m1,m2⟩:=M a;rw[wc (by omega), <-K,hB,p2,m2];have N:s.drop (Ay s).length=47::s.drop ((Ay s).length+1):=by
    have h0:∀t:Z,Bh t=true->t.drop (Ay t).length=47::t.drop ((Ay t).length+1):=by
     intro t;induction t with
     |nil=>intro h;cases h
     |cons c r T=>
      intro h;rw[Go.Pe.DH];by_cases e:c=47
      ·rw[wd e,e];rfl
      ·rw[wc e];have F:Bh r=true:=by
        unfold Bh at h ⊢;rw[List.any_cons]at h;simpa [e]using h
       exact T F
    exact h0 s a
   rw[<-N];conv=>lhs;rw[E]
   have:=List.take_append_drop (Ay s).length s;rw[<-E]at this ⊢;exact this
 ·rw[j,u];exact Nr (k:=600) x y
 ·rw[C];exact H
end Go.Sp
namespace Go.Sp
def Cu(n:Int):Z:=zu n
end Go.Sp
namespace Go.Pe
open Go.Det
theorem V1:∀(k u:Nat),u<10^(k+1)->Lib.nDigits u<=k+1
 |0,u,h=>by rw[Lib.nDigits_small<|by omega];omega
 |k+1,u,h=>by
  by_cases c:u<10
  ·rw[Lib.nDigits_small c];omega
  ·rw[Lib.nDigits_big c];have:u/10<10^(k+1):=by rw[ya]at h;omega
   have:=V1 k (u/10) this;omega
end Go.Pe
namespace Go.Sp
theorem Gc{n d:Int}(a:d≠0):(zW n d).num.natAbs<=n.natAbs/\(zW n d).den<=d.natAbs:=by
 rw[Rat.num_divInt,Rat.den_divInt,wc a];refine⟨?_,Nat.div_le_self _ _⟩;refine ym (Int.natAbs_ediv_le_natAbs _ _) ?_;rw[yh,Int.natAbs_sign_of_ne_zero a,Nat.one_mul];exact zz _
theorem Uo{n d:Int}{k:Nat}(a:d≠0)(b:n.natAbs<10^k)(c:d.natAbs<10^k):Mf k (zW n d):=
 ⟨zU (Gc a).1 b,zU (Gc a).2 c⟩
theorem Mf.mono{j k:Nat}{q:Rat}(h:Mf j q)(a:j<=k):Mf k q:=
 ⟨yi h.1 (zZ (by decide) a),yi h.2<|zZ (by decide) a⟩
theorem Ew{a b i j:Nat}(c:a<10^i)(d:b<10^j):a*b<10^(i+j):=by
 rw[Nat.pow_add];exact zU (Nat.mul_le_mul_left _<|Nat.le_of_lt d) ((Nat.mul_lt_mul_right<|Nat.pow_pos<|by decide).2 c)
theorem RI(q:Rat):(q.den:Int)≠0:=by have:=q.den_pos;omega
theorem Mf.add{p q:Rat}{i j:Nat}(a:Mf i p)(b:Mf j q):Mf (i+j+1) (p+q):=by
 have h:=Rat.divInt_add_divInt p.num q.num (RI p)<|RI q;rw[yg,yg]at h;rw[h];have a1:=Ew a.1 b.2;have a2:=Ew b.1 a.2;have a3:=Ew a.2 b.2;rw[Nat.add_comm]at a2;refine Uo (Int.mul_ne_zero (RI p)<|RI q) ?_ ?_
 ·refine zU (Int.natAbs_add_le _ _) ?_;rw[yh,yh,zP,zP,ya];omega
 ·rw[yh,zP,zP,ya];omega
theorem Mf.neg{q:Rat}{k:Nat}(h:Mf k q):Mf k (-q):=by
 unfold Mf at*;rw[Rat.neg_num,Rat.neg_den,Int.natAbs_neg];exact h
theorem Mf.sub{p q:Rat}{i j:Nat}(a:Mf i p)(b:Mf j q):Mf (i+j+1) (p-q):=by
 rw[Rat.sub_eq_add_neg];exact a.add b.neg
theorem Jy{u k:Nat}(h:u<10^k)(a:1<=k):(zX u).length<=k:=by
 rw[Lib.decDigits_length];obtain⟨j,rfl⟩:∃j,k=j+1:=⟨k-1,by omega⟩;exact Go.Pe.V1 j u h
theorem Dx(u:Nat){k:Nat}(h:(zX u).length<=k):u<10^k:=by
 rw[Lib.decDigits_length]at h;exact yi (Lib.lt_pow_nDigits u) (zZ (by decide) h)
theorem MY{q:Rat}{k:Nat}(h:Mf k q)(a:1<=k):(Bi q).length<=2*k+2:=by
 have b:=Jy h.1 a;have d:=Jy h.2 a;have c:(zu q.num).length<=k+1:=by
  unfold zu;split
  ·rw[zm];omega
  ·rw[show q.num.toNat=q.num.natAbs by omega];omega
 unfold Bi;split
 ·omega
 ·rw[zr,zm];omega
def CA(s:Z):Bool:=decide (Bi (A2 s)=s)&&decide (s.length<=4000)
theorem JJ{s:Z}(h:CA s=true):Bi (A2 s)=s/\s.length<=4000:=by
 unfold CA at h;rwa [zd,w5,w5]at h
theorem Pu{q:Rat}{k:Nat}(h:Mf k q)(a:k<=1999):CA (Bi q)=true:=by
 have b:=MY (h.mono a) (by decide);unfold CA;rw[Gt,w4 rfl,w4<|by omega];rfl
theorem Dy{s:Z}(h:As s=0):CA s=true/\Mf 600 (A2 s):=by
 obtain⟨b,_,_,a⟩:=KZ h;exact⟨by rw[<-b];exact Pu a (by decide),a⟩
theorem QD{s:Z}(h:CA s=true):Mf 4000 (A2 s):=by
 obtain⟨d,f⟩:=JJ h;have e:(Bi<|A2 s).length<=4000:=by rw[d];exact f
 generalize A2 s=q at*;have a:=Dx q.num.natAbs<|zz _;have b:=Dx q.den<|zz _;have g:(zX q.num.natAbs).length<=(zu q.num).length:=by
  unfold zu;split
  ·rw[zm];omega
  ·rw[show q.num.toNat=q.num.natAbs by omega];exact zz _
 unfold Bi at e;split at e
 ·next c=>exact⟨Dx (k:=4000) _ (by omega),by rw[c];exact OY 4000<|by decide⟩
 ·rw[zr,zm]at e;exact⟨Dx (k:=4000) _ (by omega),Dx (k:=4000) _<|by omega⟩
theorem KR(q:Rat):EP (Bi q)=OW q.num:=by
 have h0:Bi q=[48]↔q=0:=by
  have:Bi (0:Rat)=[48]:=by
   unfold Bi;rw[wd<|show Rat.den 0=1 from rfl];show zu 0=[48];unfold zu;rw[wc (by decide),show(0:Int).toNat=0 from rfl,Lib.decDigits_one<|by decide];rfl
  rw[<-this];exact⟨Yd,fun h=>by rw[h]⟩
 unfold EP OW;by_cases a:q=0
 ·rw[wd<|h0.2 a,a];rfl
 ·rw[wc<|fun h=>a<|h0.1 h];have e:q.num≠0:=fun h=>a<|Rat.num_eq_zero.mp h
  have b:(Bi q).getD 0 0=(zu q.num).getD 0 0:=by
   unfold Bi;split
   ·rfl
   ·have:zu q.num≠[]:=by unfold zu;split;exact List.cons_ne_nil _ _;exact oF _
    cases d:zu q.num with
    |nil=>exact wh d this
    |cons c r=>rfl
  rw[b];unfold zu;by_cases h:q.num<0
  ·rw[wd h,wd h];rfl
  ·rw[wc h,wc h,wc<|EZ<|DS _,wd<|by omega]
theorem Tt(n:Int)(h:n≠0):zu (-n)=if n<0 then(zu n).drop 1 else 45::zu n:=by
 unfold zu;by_cases c:n<0
 ·rw[wc (by omega),wd c,wd c,show(-n).toNat=n.natAbs by omega];rfl
 ·rw[wd (by omega),wc c,wc c,show(-n).natAbs=n.toNat by omega]
theorem YM(q:Rat):J4 (Bi q)=Bi (-q):=by
 have a:=KR q;unfold EP at a;unfold J4;by_cases h0:Bi q=[48]
 ·rw[wd h0]at a ⊢;have:q.num=0:=by
   unfold OW at a;split at a
   ·exact wh a (by decide)
   ·split at a
    ·exact wh a (by decide)
    ·omega
  have:q=0:=Rat.num_eq_zero.mp this;rw[this];rfl
 ·rw[wc h0]at a ⊢;have b:q.num≠0:=by
   intro h;rw[h]at a;split at a<;>exact wh a (by decide)
  have e:Bi (-q)=if q.num<0 then(Bi q).drop 1 else 45::Bi q:=by
   unfold Bi;rw[Rat.neg_num,Rat.neg_den,Tt _ b];by_cases c:q.num<0
   ·rw[wd c,wd c];have:zu q.num=45::zX q.num.natAbs:=by unfold zu;rw[wd c]
    rw[this];split<;>rfl
   ·rw[wc c,wc c];split<;>rfl
  rw[e];unfold OW at a;by_cases c:q.num<0
  ·rw[wd c]at a ⊢;split at a
   ·next k=>rw[wd k]
   ·exact wh a (by decide)
  ·rw[wc c,wd<|show q.num>0 by omega]at a;rw[wc c];split at a
   ·exact wh a (by decide)
   ·next k=>rw[wc k]
open Go.Lib
theorem Ld:∀(f n l:Nat) (a:Z),l<=a.length->n<10^f->He f n l a=if n=0 then a else decDigits n++a
 |0,n,l,a,_,b=>by rw[Nat.pow_zero]at b;rw[wd<|by omega];rfl
 |f+1,n,l,a,d,b=>by
  rw[ya]at b;unfold He;by_cases h:n=0
  ·rw[wd ⟨h,d⟩,wd h]
  ·rw[wc<|fun k=>h k.1,wc h,Ld f (n/10) l _ (by rw[zm];omega)<|by omega];by_cases c:n/10=0
   ·rw[wd c,decDigits_one (by omega),show n % 10=n by omega];rfl
   ·have e:=E1 (n/10) (n % 10) (by omega) (by omega);rw[show 10*(n/10)+n % 10=n by omega]at e;rw[wc c,e,List.append_assoc];rfl
theorem Y0{d:Nat}(h:d<10):Qz 1 d=[zK<|48+d]:=by
 unfold Qz;rw[nDigits_small h,decDigits_one h];rfl
theorem Tx:∀(k f n l:Nat) (a:Z),a.length+(k+1)=l->n<10^(k+1)->k+1<=f->He f n l a=Qz (k+1) n++a
 |k,0,n,l,a,_,_,h=>by omega
 |0,f+1,n,l,a,c,b,_=>by
  unfold He;rw[wc (by omega),Y0 (by omega),Ld f (n/10) l _ (by rw[zm];omega) (by rw[show n/10=0 by omega];exact Nat.pow_pos<|by decide),wd (by omega),show n % 10=n by omega];rfl
 |k+1,f+1,n,l,a,c,b,d=>by
  rw[ya]at b;have e:=Pr (k+1) (n/10) (n % 10) (by omega) (by omega);rw[show 10*(n/10)+n % 10=n by omega]at e;unfold He;rw[wc (by omega),Tx k f (n/10) l _ (by rw[zm];omega) (by omega) (by omega),e,List.append_assoc];rfl
theorem Ny{n:Int}(h0:0<=n)(a:n<9223372036854775808):Hs n 1=decDigits n.toNat:=by
 show He 64 n.toNat 1 []=_;unfold He;rw[wc<|by simp];rw[Ld 63 (n.toNat/10) 1 _ (by simp)<|by omega];by_cases h:n.toNat<10
 ·rw[wd (by omega),decDigits_one h,show n.toNat % 10=n.toNat by omega]
 ·have e:=E1 (n.toNat/10) (n.toNat % 10) (by omega) (by omega);rw[show 10*(n.toNat/10)+n.toNat % 10=n.toNat by omega]at e;rw[wc (by omega),e]
theorem WU{n:Int}(h0:0<=n)(a:n<1000000000):Hs n 9=Qz 9 n.toNat:=by
 show He 64 n.toNat 9 []=_;rw[Tx 8 64 n.toNat 9 [] rfl (by omega) (by decide),List.append_nil]
def CS(n d:Int):Z:=Bi<|zW n d
theorem W1(n:Int):itoa n=(if n<0 then[45]else[])++decDigits n.natAbs:=by
 unfold itoa;split
 ·rfl
 ·rw[show n.toNat=n.natAbs by omega];rfl
end Go.Sp
namespace Go.Sp
def vR(a:Bool×List Int):Int:=if a.1=true then -Ar a.2 else Ar a.2
def CB(a:Bool×List Int):Bool:=AZ a.2&&decide (a.2.length<=3000)&&(!a.1||decide (a.2≠[]))
def Hg(l:List Int)(i:Int):Int:=l.getD i.toNat 0
def eJ(a b:List Int):Bool:=AZ a&&AZ b&&decide (a.length<=9000)&&decide (b.length<=9000)
def Lf(a b:List Int):List Int:=BL<|Ar a+Ar b
def F9(a b:List Int):List Int:=BL<|Ar a-Ar b
def LZ(a b:Bool×List Int):Bool:=rN<|vR a+vR b
def LU(a b:Bool×List Int):List Int:=rW<|vR a+vR b
def GL(a b:Bool×List Int):Bool:=rN<|vR a*vR b
def Hf(a b:Bool×List Int):List Int:=rW<|vR a*vR b
def QW(a:Bool×List Int):Bool:=rN<| -vR a
def QR(a:Bool×List Int):List Int:=rW<| -vR a
def Gd(a:Bool×List Int):Z:=Cu<|vR a
def Ho(n d:Bool×List Int):Z:=CS (vR n)<|vR d
def YN(a:Z):Int:=if DA a=true then Hz a else 0
def S1(a:Z):Int:=if DA a=true then Ql a else 0
def Ta(a b:Z):Z:=Bi<|A2 a+A2 b
def UX(a b:Z):Z:=Bi<|A2 a-A2 b
def nU(a b:Z):Z:=Bi<|A2 a*A2 b
def fR(a:Z):Z:=Bi (A2 a)⁻¹
def GF(a b:Z):Int:=if A2 a<A2 b then -1 else if A2 b<A2 a then 1 else 0
def FV(a:Z):Bool:=CA a&&decide (a.length<=3000)
def wV(a:Z):Bool:=FV a&&decide (A2 a≠0)
end Go.Sp
namespace Go.Pe
open Sp
open Go.Det
def U3:Au:=⟨[li,i64],fun i=>decide (0<=(i.2:Int)),[i64],fun i=>Hg i.1 i.2,false⟩
def UG:Au:=⟨[li,li],fun i=>eJ i.1 i.2,[li],fun i=>Lf i.1 i.2,false⟩
def U9:Au:=⟨[li,li],fun i=>eJ i.1 i.2&&decide (Ar i.2<=Ar i.1),[li],fun i=>F9 i.1 i.2,false⟩
def Z2:Au:=⟨[IZ,IZ],fun i=>CB i.1&&CB i.2,[IZ],fun i=>(LZ i.1 i.2,LU i.1 i.2),false⟩
def Vz:Au:=⟨[IZ,IZ],fun i=>CB i.1&&CB i.2,[IZ],fun i=>(GL i.1 i.2,Hf i.1 i.2),false⟩
def Wo:Au:=⟨[IZ],fun a=>CB a,[IZ],fun a=>(QW a,QR a),false⟩
def Vb:Au:=⟨[IZ],fun a=>CB a,[.str],fun a=>Gd a,false⟩
def KX:Au:=⟨[IZ,IZ],fun i=>CB i.1&&CB i.2&&decide (Sp.vR i.2≠0),[.str],fun i=>Ho i.1 i.2,false⟩
def Z4:Au:=⟨[i64,i64],fun i=>CC i.1&&CC i.2&&decide ((i.2:Int)≠0),[.str],fun i=>CS i.1 i.2,false⟩
def Mh:Au:=⟨[.str],fun s=>CA s,[i64,i64,.bool],fun s=>(YN s,S1 s,DA s),false⟩
def Wn:Au:=⟨[.str,.str],fun i=>CA i.1&&CA i.2,[.str],fun i=>Ta i.1 i.2,false⟩
def mP:Au:=⟨[.str,.str],fun i=>CA i.1&&FV i.2,[.str],fun i=>UX i.1 i.2,false⟩
def WB:Au:=⟨[.str,.str],fun i=>CA i.1&&CA i.2,[.str],fun i=>nU i.1 i.2,false⟩
def lV:Au:=⟨[.str],fun s=>wV s,[.str],fun s=>fR s,false⟩
def Wa:Au:=⟨[.str,.str],fun i=>CA i.1&&FV i.2,[i64],fun i=>GF i.1 i.2,false⟩
def yK:AW:=X7 []
def TE:AW:=X7 [(195,U3),(193,QK)]
def vT:AW:=X7 [(155,H7),(156,UG),(157,WR),(158,U9),(159,VL),(154,P7)]
def vQ:AW:=X7 [(99,ON)]
def eG:AW:=mB [(93,[3,7,9])] [] [(93,[(3,[2,3]),(7,[8,10]),(9,[8,10])])] [(153,Wo),(130,Ku),(154,P7),(155,H7),(96,Vb)]
def Yp:AW:=mB [(40,[3,5,7,11])] [] [(40,[(3,[0,1]),(5,[0,1]),(7,[0,1]),(11,[1,6])])] [(97,IA),(93,KX),(98,mK),(99,ON)]
def lX:AW:=mB [(33,[5]),(34,[5])] [] [(33,[(5,[0,1])]),(34,[(5,[0,1])])] [(91,Mh),(40,Z4),(92,QG),(94,Z2),(95,Vz),(93,KX)]
def yD:AW:=X7 [(147,lV),(34,WB),(33,Wn),(84,YZ)]
def yJ:AW:=X7 [(37,mP),(38,NJ),(128,OL),(144,aO),(145,mS),(146,Yr)]
def Ui:Au:=⟨[],fun _=>true,[.bool],fun _=>true,false⟩
theorem YF:Ag Bm 8 Ui:=by
 refine .wU ⟨by kernel_rfl,BI (by kernel_rfl),fun F h args i d b c a _=>?_⟩;have g:args=[]:=by
  have:=a (fun _=>none) 0;simpa [Ae,Ui]using this
 subst g;refine⟨[(.bool true,h)],1,fun m k=>?_,fun _=>⟨_,rfl⟩,fun x f=>?_⟩
 ·obtain⟨e,rfl⟩:∃e,m=e+1:=⟨m-1,by omega⟩;have j:Bm.spec 8=some fun args h=>bif eK h F5 then(match HF A7 8 args with|some v=>some (v,h)|none=>none)else none:=rfl
  rw[Be];simp only[j,oN c,we];rfl
 ·cases List.mem_singleton.1 f;exact⟨zz _,fun _ _=>rfl,b,F,fun _ _ h=>h,fun _ _ h=>.inl h,d,fun ρ N=>Dt _⟩
end Go.Pe
namespace Go.Sp
def D9:List Z->Int
 |[]=>0
 |s::l=>if As s≠0 then As s else D9 l
def Ya(a:Cq):Int:=OW<|vI a.1
def Ma(a b:Z):Int:=D9 [a,b]
end Go.Sp
namespace Go.Pe
open Go.Det
def Wd:Au:=⟨[.list .str],fun l=>decide (zY (α:=Z) l<=1000)&&List.all (α:=Z) l (fun s=>decide (s.length<=1000000)),[i64],fun l=>Sp.D9 l,false⟩
def mQ:Au:=⟨[Jv],fun a=>Sp.D8 (a:Sp.Cq).1,[i64],fun a=>Sp.Ya a,false⟩
def tG:AW:=X7 [(122,Ej),(161,Ll)]
end Go.Pe
namespace Go.Sp
abbrev Cs:=Z×Z
def DK:Option Cs->List Cs->Int
 |_,[]=>0
 |o,p::l=>if Ma p.1 p.2≠0 then Ma p.1 p.2 else match o with
  |some q=>if GF p.1 q.1<=0 then 11 else DK (some p) l
  |none=>DK (some p) l
def BF(t:List Cs):Int:=if t=[]then 12 else if 64<t.length then 5 else DK none t
def Zc(s:Z):Cq:=((Kw s,JU s),(IV s,IU s))
def DQ(p:Cs):Cq×Cq:=(Zc p.1,Zc p.2)
def Tl(t:List Cs):List (Cq×Cq):=if BF t≠0 then[]else t.map DQ
def IX(k:Nat)(t:List Cs):Bool:=t.all fun p=>decide (p.1.length<=k)&&decide (p.2.length<=k)
end Go.Sp
namespace Go.Pe
open Sp
open Go.Det
abbrev JA:Sh:=.pair .str .str
abbrev V0:Sh:=.pair Jv Jv
def V7:Au:=⟨[.list JA],fun l=>decide (zY (α:=Cs) l<=1000)&&IX 1000000 l,[.list V0,i64],fun l=>(Tl l,BF l),false⟩
def Kv:Au:=⟨[.list JA],fun l=>decide (zY (α:=Cs) l<=1000)&&IX 1000000 l,[i64],fun l=>BF l,false⟩
def rL:AW:=X7 [(168,F7),(169,HW),(171,Wd),(55,SP),(56,Vl)]
def xJ:AW:=X7 [(123,V7)]
def sV:AW:=X7 [(62,Ej),(36,Wa)]
end Go.Pe
namespace Go.Sp
theorem YA(q:Rat):UU (Bi q)=zX q.den:=by
 obtain⟨_,b,a⟩:=HO q;unfold UU;rw[b,a];by_cases h:q.den=1
 ·rw[wc (by simpa using h),h,Lib.decDigits_one<|by decide];rfl
 ·rw[wd<|w4 h,wc h]
theorem Wb(a b:Z):Ma a b=if As a≠0 then As a else As b:=by
 show(if As a≠0 then As a else if As b≠0 then As b else 0)=_;by_cases h:As a≠0
 ·rw[wd h,wd h]
 ·rw[wc h,wc h];by_cases k:As b≠0
  ·rw[wd k]
  ·rw[wc k];omega
theorem It{a b:Z}(h:Ma a b=0):As a=0/\As b=0:=by
 rw[Wb]at h;by_cases k:As a≠0
 ·rw[wd k]at h;exact wh h k
 ·rw[wc k]at h;exact⟨by omega,h⟩
theorem Ml{s:Z}(h:FV s=true):CA s=true/\s.length<=3000:=by
 unfold FV at h;rwa [zd,w5]at h
theorem oR{s:Z}(h:wV s=true):FV s=true/\A2 s≠0:=by
 unfold wV at h;rwa [zd,w5]at h
theorem ZA{q:Rat}{k:Nat}(h:Mf k q)(a:k<=400000):(Bi q).length<=1000000:=by
 have:=MY (h.mono<|show k<=k+1 by omega) (by omega);omega
structure Nu(k:Nat)(s:Z)(q:Rat):Prop where
 t:s=Bi q
 z:Mf k q
theorem Nu.num{k:Nat}{s:Z}{q:Rat}(h:Nu k s q)(a:k<=1999):CA s=true:=by rw[h.t];exact Pu h.z a
theorem Nu.FV{k:Nat}{s:Z}{q:Rat}(h:Nu k s q)(a:k<=1400):Sp.FV s=true:=by
 unfold Sp.FV;rw[h.num (by omega),zT,w5,h.t];have:=MY (h.z.mono<|show k<=k+1 by omega) (by omega);omega
theorem NS{a:Z}(h:As a=0):Nu 600 a (A2 a):=by
 obtain⟨t,_,_,z⟩:=KZ h;exact⟨t.symm,z⟩
theorem Xd(n:Int):Cu n=Bi (n:Rat):=by
 unfold Bi Cu;rw[wd<|Rat.den_intCast ..,Rat.num_intCast]
theorem ZH(p q:Rat):(if q<p then(-1:Int)else if p<q then 1 else 0)= -(if p<q then(-1:Int)else if q<p then 1 else 0):=by
 by_cases h:p<q
 ·have:¬q<p:=Rat.not_lt.2<|Rat.le_of_lt h;rw[wc this,wd h,wd h];rfl
 ·rw[wc h,wc h];split<;>rfl
def Xv(w:Z):Nat:=max (A3<|Ay w).length (UU w).length
def Cx(n m:Int):Int:=if n=0 then 12 else if m<n then 5 else 0
end Go.Sp
namespace Go.Pe
open Go.Det
def Yq:Au:=⟨[i64,i64],fun _=>true,[i64],fun i=>Sp.Cx i.1 i.2,false⟩
def tJ:AW:=X7 [(50,F7),(51,HW)]
end Go.Pe
namespace Go.Sp
abbrev DL:=BX×BX×BX×List Cs×List Cs
abbrev K9:=BX×Int
abbrev EV:=BX×BX×BX×BX×List K9
abbrev Fg:=BX×List Int
abbrev ER:=List EV×List Fg×List DL
def Bj(a:BX)(lo b:Int):Int:=if As a≠0 then As a else if A2 a<(lo:Rat)\/(b:Rat)<A2 a then 3 else 0
def Yn(seen:List BX):List Cs->Int
 |[]=>0
 |w::l=>if isName w.1=false then 8 else if has seen w.1=true then 9 else if As w.2≠0 then As w.2 else if A2 w.2<0 then 3 else Yn (w.1::seen) l
def NO(l:List Cs):Int:=if 16<l.length then 5 else Yn [] l
def RR:Option BX->List Cs->Int
 |_,[]=>0
 |none,p::l=>RR (some p.2) l
 |some y,p::l=>if GF p.2 y<0 then 11 else RR (some p.2) l
def Mb(l:DL):Int:=first [BJ (!isName l.1) 8,Bj l.2.1 1 10000,Bj l.2.2.1 1 10000,BF l.2.2.2.1]
def Iq(l:DL):Int:=if Mb l≠0 then Mb l else if RR none l.2.2.2.1≠0 then RR none l.2.2.2.1 else NO l.2.2.2.2
def eH:List K9->Int
 |[]=>0
 |o::l=>if isName o.1=false then 8 else if o.2<0\/10<o.2 then 3 else eH l
def Um(s:EV):Int:=first [Bj s.1 (-10000) 10000,Bj s.2.1 (-10000) 10000,Bj s.2.2.1 0 10000,Bj s.2.2.2.1 0 10000,BJ (decide (16<s.2.2.2.2.length)) 5]
def Lx(s:EV):Int:=if Um s≠0 then Um s else eH s.2.2.2.2
def JH:List EV->Int
 |[]=>0
 |s::l=>if Lx s≠0 then Lx s else JH l
def Ee(l:List Int):Bool:=l.any fun n=>decide (n<1)||decide (10000<n)
def Ga(n:Int)(seen:List BX):List Fg->Int
 |[]=>0
 |t::l=>if isName t.1=false then 8 else if has seen t.1=true then 9 else if (t.2.length:Int)≠n then 2 else if Ee t.2=true then 3 else Ga n (t.1::seen) l
def Md(seen:List BX):List DL->Int
 |[]=>0
 |l::r=>if Iq l≠0 then Iq l else if has seen l.1=true then 9 else Md (l.1::seen) r
def OQ(c:ER):Int:=if c.2.2=[]then 12 else if 8<c.2.2.length then 5 else Md [] c.2.2
def SJ(c:ER):Int:=if c.2.1=[]then 12 else if 8<c.2.1.length then 5 else if Ga (c.1.length:Int) [] c.2.1≠0 then Ga (c.1.length:Int) [] c.2.1 else OQ c
def fG(c:ER):Int:=if c.1=[]then 12 else if 36<c.1.length then 5 else if JH c.1≠0 then JH c.1 else SJ c
def H8(l:List Cs)(n m:Nat):Bool:=l.all fun p=>decide (p.1.length<=n)&&decide (p.2.length<=m)
def Ca(l:DL):Bool:=decide (l.1.length<=40)&&decide (l.2.1.length<=20)&&decide (l.2.2.1.length<=20)&&decide (l.2.2.2.1.length<=70)&&decide (l.2.2.2.2.length<=20)&&H8 l.2.2.2.1 20 20&&H8 l.2.2.2.2 40 20
def Ft(s:EV):Bool:=decide (s.1.length<=20)&&decide (s.2.1.length<=20)&&decide (s.2.2.1.length<=20)&&decide (s.2.2.2.1.length<=20)&&decide (s.2.2.2.2.length<=20)
def Ph(t:Fg):Bool:=decide (t.1.length<=40)&&decide (t.2.length<=40)
def Pj(c:ER):Bool:=decide (c.1.length<=38)&&decide (c.2.1.length<=10)&&decide (c.2.2.length<=10)&&c.1.all Ft&&c.2.1.all Ph&&c.2.2.all Ca
def UJ(l:DL):Bool:=decide (l.2.2.2.2.length<=4398046511104)
def zE(s:EV):Bool:=decide (s.2.2.2.2.length<=5864062014805)
def mJ(c:ER):Bool:=decide (c.1.length<=1599289640401)&&decide (c.2.1.length<=3518437208883)&&decide (c.2.2.length<=1466015503701)&&c.1.all zE&&c.2.2.all UJ
def FA(n:Int):Bool:=decide (-100000<n)&&decide (n<100000)
def I1(s:BX)(l:List BX):Int:=if isName s=false then 8 else if has l s=true then 9 else 0
end Go.Sp
namespace Go.Pe
open Sp
open Go.Det
abbrev Ca:Sh:=.pair .str<|.pair .str<|.pair .str<|.pair (.list JA)<|.list JA
abbrev wW:Sh:=.pair .str i64
abbrev Ft:Sh:=.pair .str<|.pair .str<|.pair .str<|.pair .str<|.list wW
abbrev Ph:Sh:=.pair .str sF
abbrev Ve:Sh:=.pair (.list Ft)<|.pair (.list Ph)<|.list Ca
def Xq:Au:=⟨[.str],fun _=>true,[.bool],fun s=>Sp.isName s,false⟩
def Sl:Au:=⟨[.str,i64,i64],fun i=>decide (zY (α:=UInt8) i.1<=1000000)&&FA i.2.1&&FA i.2.2,[i64],fun i=>Bj i.1 i.2.1 i.2.2,false⟩
def qS:Au:=⟨[.list JA],fun l=>H8 l 40 20,[i64],fun l=>NO l,false⟩
def mD:Au:=⟨[Ca],fun l=>Sp.Ca l,[i64],fun l=>Iq l,false⟩
def XQ:Au:=⟨[Ft],fun s=>Sp.Ft s,[i64],fun s=>Lx s,false⟩
def rK:Au:=⟨[Ve],fun c=>Pj c,[i64],fun c=>fG c,false⟩
def TC:Au:=⟨[Ca],fun _=>true,[.bool],fun l=>Sp.Ca l,false⟩
def fH:Au:=⟨[Ve],fun _=>true,[.bool],fun c=>Pj c,false⟩
def Ht:Au:=⟨[Ve],fun c=>mJ c,[Ve],fun c=>c,false⟩
def Wq:Au:=⟨[Ca],fun l=>UJ l,[Ca],fun l=>l,false⟩
def QM:Au:=⟨[.str,.list .str],fun i=>decide (zY (α:=Z) i.2<=1000),[i64],fun i=>I1 i.1 i.2,false⟩
def Jr:Au:=⟨[Ve,Ca],fun i=>mJ i.1&&UJ i.2,[.bool],fun _=>true,false⟩
def uY:AW:=X7 [(122,Ej),(55,SP),(56,Vl),(103,cF),(51,HW)]
def iJ:AW:=X7 [(52,Xq),(50,F7),(51,HW),(122,Ej),(55,SP),(115,mQ)]
def iY:AW:=X7 [(52,Xq),(50,F7),(51,HW),(53,Sl),(54,Kv),(55,SP),(56,Vl),(57,qS)]
def gN:AW:=X7 [(52,Xq),(50,F7),(51,HW),(53,Sl)]
def KL:AW:=X7 [(63,Yq),(64,XQ),(52,Xq),(50,F7),(51,HW),(13,mD)]
def Lo:AW:=X7 []
def sC:AW:=X7 [(62,Ej),(36,Wa),(97,IA),(96,Vb)]
def fK:AW:=X7 [(58,Xq)]
def O9:AW:=X7 [(58,Xq),(59,Sl),(60,Kv),(36,Wa),(61,QM),(62,Ej),(38,NJ)]
def fC:AW:=X7 [(59,Sl),(58,Xq)]
def Ea:AW:=X7 [(67,XQ),(61,QM),(14,mD)]
def Pm:AW:=X7 [(11,TC)]
def BD:AW:=X7 [(12,Wq)]
def vW:AW:=X7 [(8,Ui),(10,Ht),(9,fH),(11,TC),(12,Wq),(13,mD),(14,mD),(15,rK),(16,rK)]
end Go.Pe
