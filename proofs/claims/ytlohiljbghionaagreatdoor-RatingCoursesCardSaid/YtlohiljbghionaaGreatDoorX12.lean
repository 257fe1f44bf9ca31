import Derived.Test.YtlohiljbghionaaGreatDoorX11
import Derived.Test.YtlohiljbghionaaGreatDoorX10
/- A part of a proof (no law is stated here). Made by program out of texts by AI agents. -/
set_option maxRecDepth 10000
open Go.Pe.Ends renaming tt -> zc, leaf -> zm, Ah -> zn, ite -> zq, ff -> zy, eq -> zV
open Go.Sp renaming B9 -> zd, val -> ze, vI -> zl, sg -> qk
open Go.IntKind renaming wrap -> zf
open Int renaming toNat_natCast -> zg, mul_le_mul_of_nonneg_left -> zi, mul_le_mul_of_nonneg_right -> zk, pow_succ -> zr, tdiv_eq_ediv_of_nonneg -> zt, le_of_lt -> zu, tmod_eq_emod_of_nonneg -> zx, mul_comm -> zz, mul_add -> zK, lt_of_mul_lt_mul_left -> zM, mul_assoc -> zN, mul_nonneg -> zO, lt_or_le -> zP, pow_zero -> zQ, mul_ediv_add_emod -> zT, ediv_emod_unique -> zU, mul_left_comm -> zW, one_mul -> zX, tdiv -> zZ, emod_lt_of_pos -> z8, mul_lt_mul_of_pos_right -> yc, mul_one -> yd, emod_nonneg -> yf, lt_of_lt_of_le -> yh, mul_sub -> yi, eq_ofNat_of_zero_le -> yj, mul_zero -> ym, mul_lt_mul_of_pos_left -> yu, tmod -> yv, mul_ediv_cancel_left -> yz, ediv_eq_zero_of_lt -> qd, ediv_nonneg -> qh, le_refl -> qi, mul_neg -> qj, add_assoc -> ql, add_zero -> qm
open Bool renaming and_eq_true -> zh, true_and -> yo
open List renaming take_of_length_le -> zj, replicate -> zo, length_drop -> zp, length_take -> zw, length_eq_zero_iff -> zL, getD_eq_getElem?_getD -> zR, length_append -> zS, dropWhile_cons -> zY, take_length -> z6, take_append_drop -> yb, mem_singleton -> yg, append_assoc -> yn, append_nil -> yp, dropLast_concat_getLast -> yq, nil_append -> yr, getLast?_eq_getElem? -> yw, getElem?_eq_getElem -> yy, mem_cons -> y7, drop_length -> y8, all_eq_true -> y9, all_reverse -> qc, length_eq_one_iff -> qe, drop_eq_nil_of_le -> qg, drop -> qn
open Nat renaming add_sub_cancel -> z7, min_eq_left -> ye, sub -> yt, le_refl -> yx, gcd_comm -> qf, gcd -> qo, add -> qp
open Go.Pe.Ad renaming of -> ya
open BitVec renaming ofInt -> yk
namespace Go.Pe
open Sp
open Go.Det
theorem gJ:D3 IY:=
 Ac T187.ok (Ac T209.ok<|Ac T177.ok<|Ac T208.ok<|Ac T217.ok<|Ac Zv<|Ac T247.ok AP)
theorem Jp{w:List Int}(b:Av Am w)(a:Sp.nz w){k:Nat}(c:w.length=k+1):0<w.getD k 0/\w.getD k 0<18446744073709551616:=by
 have g:=Sp.AX<|AR b k;refine⟨?_,g.2⟩;have e:w.getLast?=some (w.getD k 0):=by
  rw[yw,c,z7,zR,yy<|by omega];rfl
 unfold Sp.nz at a;rw[e]at a;have:w.getD k 0≠0:=fun h=>a (by rw[h])
 omega
namespace T212
set_option maxHeartbeats 1000000 in
theorem ok:Ag Bm 212 Hb:=by
 refine Cj gJ<|fun(i:List Int×List Int) B=>?_;obtain⟨a,b⟩:=i;have B:(B3 a&&B3 b&&decide (a.length<=9000)&&decide (b.length<=9000)&&decide (0<Ao b))=true:=B;rw[zh,zh,zh,zh,w5,w5,w5]at B;obtain⟨⟨⟨⟨na,nb⟩,la9⟩,lb9⟩,l⟩:=B;obtain⟨_,da,za⟩:=Ey na;obtain⟨_,db,zb⟩:=Ey nb;have l:0<ze Am b:=l;have L:=Az (b:=Am) (by decide) da;have hg:∀q r ob,q=BS (Ao a/Ao b)->r=BS (Ao a % Ao b)->Ad Hb (a,b) (PV.tup [PV.dat CZ q,PV.dat CZ r]) ob:=fun q r ob T D=>ya rfl rfl (Prod.ext T D)
 have fin:∀(q r:List Int) ob,Av Am q->Av Am r->ze Am a=ze Am q*ze Am b+ze Am r->ze Am r<ze Am b->Ad Hb (a,b) (PV.tup [PV.dat CZ<|At q,PV.dat CZ<|At r]) ob:=by
  intro q r ob dq dr N hr;have W:=Az (b:=Am) (by decide) dr;obtain⟨u1,u2⟩:=(zU (a:=ze Am a) (b:=ze Am b) (r:=ze Am r) (q:=ze Am q) l).2 ⟨by rw[zz<|ze Am b];omega,W,hr⟩;refine hg _ _ ob ?_ ?_
  ·rw[JD dq];show BS (ze Am q)=BS (ze Am a/ze Am b);rw[u1]
  ·rw[JD dr];show BS (ze Am r)=BS (ze Am a % ze Am b);rw[u2]
 have n:b≠[]:=by rintro rfl;simp[ze]at l
 have hblen:b.length≠0:=fun h=>n<|zL.1 h
 refine zV (Ap a b) (zc (by rw[na,nb];rfl)<|zq (fun c=>?_)<|fun c=>?_)
 ·have c:=w6 c;have m:ze Am a<ze Am b:=by
   unfold BY at c;have c:(if ze Am a<ze Am b then(-1:Int)else if ze Am a>ze Am b then 1 else 0)<0:=c;split at c
   ·assumption
   ·split at c<;>omega
  refine zm<|ya rfl rfl ?_;show([],a)=(BS<|ze Am a/ze Am b,BS<|ze Am a % ze Am b);rw[qd L m,Int.emod_eq_of_lt L m];exact Prod.ext rfl (I3 (by decide) da za)
 ·have c:=w7 c;have hge:ze Am b<=ze Am a:=by
   rcases zP (ze Am a) (ze Am b)with g|g
   ·have:BY (Ao a) (Ao b)= -1:=wd g;omega
   ·exact g
  have hll:b.length<=a.length:=by
   rcases Nat.lt_or_ge a.length b.length with g|g
   ·have:=Ei (b:=Am) (by decide) da db zb g;omega
   ·exact g
  refine zq (fun C=>?_)<|fun C=>?_
  ·have C:b.length=1:=by
    have:(b.length:Int)=1:=by simpa using C
    omega
   obtain⟨d,rfl⟩:=qe.1 C;have hd:0<d/\d<18446744073709551616:=Jp (k:=0) db zb rfl;have T:zf .i64 ((a.length:Int)-1)=(a.length:Int)-1:=wr _ (by omega) (by omega);rw[T,zg];refine zc (by simp;omega) ?_;have:=An (Q:=Ad Hb (a,[d])) a d da hd (by omega) (fun q r ob dq dr N=>by
    refine fin q [r] ob dq (fun x j=>by rw[yg]at j;subst j;exact⟨dr.1,by show x<18446744073709551616;omega⟩) ?_ ?_
    ·rw[val_one,val_one];exact N
    ·rw[val_one,val_one];exact dr.2) a.length [] 0 (by simp) (fun x j=>by cases j) ⟨qi _,hd.1⟩ (by rw[y8];simp[ze])
   rw[yp]at this;exact this
  ·have C:b.length≠1:=by
    have:(b.length:Int)≠1:=by simpa using C
    omega
   obtain⟨k,z⟩:∃k,b.length=k+2:=⟨b.length-2,by omega⟩;obtain⟨y0,y1⟩:=Jp (k:=k+1) db zb z;obtain⟨s,hs,hs63,m,_⟩:=Tc y0 y1;have hB:=Vm hs63;have f:(0:Int)<2^s:=Int.pow_pos (by decide);have h2d:(0:Int)<2^(64-s):=Int.pow_pos (by decide);have hyd:b.getD (k+1) 0<2^(64-s):=by
    rw[hB,zz<|b.getD (k+1) 0]at m;exact zM m<|zu f
   have V:(Am:Int)^(k+1)<=2^s*ze Am b:=by
    have a1:=C2 (b:=Am) (by decide) db zb n;rw[z,show k+2-1=k+1 by omega]at a1;have a2:=zk (show(1:Int)<=2^s by omega)<|zu l;omega
   have hv2:2^s*ze Am b<(Am:Int)^(k+2):=by
    have A:ze Am b=ze Am (b.take<|k+1)+(Am:Int)^(k+1)*b.getD (k+1) 0:=by
     rw[<-AD,zj<|by omega]
    have b2:=Bl (b:=Am) (by decide)<|AL db<|k+1;rw[zw,ye<|by omega]at b2;have hp:=AN (b:=Am) (by decide)<|k+1;have b3:ze Am b<(Am:Int)^(k+1)*2^(64-s):=by
     have:=zi (show b.getD (k+1) 0+1<=2^(64-s)by omega)<|zu hp;rw[zK,yd]at this;omega
    have b4:=yu b3 f;have b5:(2:Int)^s*((Am:Int)^(k+1)*2^(64-s))=(Am:Int)^(k+2):=by
     rw[zW, <-hB];exact(zr ..).symm
    rw[b5]at b4;exact b4
   have hls:∀o:List Int,Av Am o->ze Am o=2^s*ze Am b->Av Am (At o)/\(At o).length=k+2/\ze Am (At o)=2^s*ze Am b/\1<=(At o).getD (k+1) 0:=by
    intro o ho hv;have y:=GS ho;have v:ze Am (At o)=2^s*ze Am b:=by rw[Ij,hv]
    have H:=cR (b:=Am) (by decide) y (Km o) (k:=k+1) (by rw[v];exact V) (by rw[v];exact hv2);have:=(Jp y (Km o) H).1;exact⟨y,H,v,by omega⟩
   have D:zf .i64 (((k+2:Nat):Int)-1)=((k+1:Nat):Int):=by rw[wr _ (by omega)<|by omega];omega
   have e3:zf .i64 (((k+2:Nat):Int)+1)=((k+3:Nat):Int):=by rw[wr _ (by omega)<|by omega];omega
   have e4:zf .i64 ((a.length:Int)+1)=((a.length+1:Nat):Int):=by rw[wr _ (by omega)<|by omega];omega
   have e5:zf .i64 ((a.length:Int)-((k+2:Nat):Int))=((a.length-(k+2):Nat):Int):=by rw[wr _ (by omega)<|by omega];omega
   have e6:zf .i64 (((a.length-(k+2):Nat):Int)+1)=((a.length-(k+2)+1:Nat):Int):=by rw[wr _ (by omega)<|by omega];omega
   have e7:zf .i64 ((64:Int)-(s:Int))=((64-s:Nat):Int):=by rw[wr _ (by omega)<|by omega];omega
   have em:Min.min s 64=s:=by omega
   have M:Min.min (64-s) 64=64-s:=by omega
   rw[z,D,e3,zg,zg,hs];refine zc (by simp;omega) (zc (Cz (by omega) y1) (zc (by simp;omega) ?_));refine Qh (F:=fun i o=>L2 a b s (k+3) b ((k+2:Nat):Int) i o) b s hs63 db (fun i o B ho h=>?_) (fun o hol G S=>?_) (k+2) 0 [] 0 (by omega) rfl (fun x j=>by cases j) ⟨qi _,f⟩ (by simp[ze])
   ·have Z:zf .i64 ((i:Int)+1)=((i+1:Nat):Int):=by rw[wr _ (by omega)<|by omega];omega
    have A:(decide ((0:Int)<=(i:Int))&&decide ((i:Int)<((k+3:Nat):Int)))=true:=by simp;omega
    refine zn (AK ..) (zc (by simp;omega) ?_);rw[Z,e7,zg,zg,zg,zg,em,M];refine zc (by simp;omega) (zc A<|zc (w4<|by omega)<|zc (by simp)<|zc A<|zc (w4<|by omega)<|zq (fun c=>zc (by simp)<|zc (by simp;omega)<|zc (by simp;omega) ?_)<|fun c=>?_)
    ·have c:=w6 c;rw[wd<|by omega]at h;exact h
    ·have c:=w7 c;rw[wc<|by omega]at h;exact h
   obtain⟨vd,vl,O,v1⟩:=hls o G S;have eo:o.take (k+3)=o:=zj (by omega);rw[z];refine zn (AK ..) (zy (by simp) ?_);rw[eo,e4,zg,z,D,zg,hs];refine zc (Aa (by simp;omega)<|D4 (by omega) G) (zc (by simp;omega) ?_);refine Qh (F:=fun i o'=>L3 a b s (k+3) b ((k+2:Nat):Int) ((k+2:Nat):Int) o s (a.length+1) a a.length i o' o) a s hs63 da (fun i o' B ho h=>?_) (fun u hul J Y=>?_) a.length 0 [] 0 (by omega) rfl (fun x j=>by cases j) ⟨qi _,f⟩ (by simp[ze])
   ·have Z:zf .i64 ((i:Int)+1)=((i+1:Nat):Int):=by rw[wr _ (by omega)<|by omega];omega
    have A:(decide ((0:Int)<=(i:Int))&&decide ((i:Int)<((a.length+1:Nat):Int)))=true:=by simp;omega
    refine zn (BE ..) (zc (by simp;omega) ?_);rw[Z,e7,zg,zg,zg,zg,em,M];refine zc (by simp;omega) (zc A<|zc (w4<|by omega)<|zc (by simp)<|zc A<|zc (w4<|by omega)<|zq (fun c=>zc (by simp)<|zc (by simp;omega)<|zc (by simp;omega) ?_)<|fun c=>?_)
    ·have c:=w6 c;rw[wd<|by omega]at h;exact h
    ·have c:=w7 c;rw[wc<|by omega]at h;exact h
   refine zn (BE ..) (zy (by simp) ?_);rw[eo,vl,e5,e6,zg,z,D,zg,hs];refine zc (by simp;omega) ?_;have E:=AN (b:=Am) (by decide)<|a.length-(k+2)+1;have start:ze Am (u.drop<|a.length-(k+2)+1)<ze Am (At o):=by
    have a1:=Ck Am u (a.length-(k+2)+1) (by omega);have a2:=Az (b:=Am) (by decide)<|AL J<|a.length-(k+2)+1;have a3:=Bl (b:=Am) (by decide) da;have a4:=yu a3 f;have a5:(Am:Int)^a.length=(Am:Int)^(a.length-(k+2)+1)*(Am:Int)^(k+1):=by rw[<-Int.pow_add];congr 1;omega
    have a6:=C2 (b:=Am) (by decide) db zb n;rw[z,show k+2-1=k+1 by omega]at a6;have a7:=zi a6<|zu f;have a8:=zi a7<|zu E;rw[a5,zW]at a4;rw[O];refine zM (a:=(Am:Int)^(a.length-(k+2)+1)) ?_<|zu E;omega
   have go:=BP (Q:=Ad Hb (a,b)) s (At o) k a.length vl la9 (by omega) vd v1 (2^s*ze Am a) (fun U P K t I p X N=>by
    have hz:ze Am (U.drop<|k+2)=0:=Iu (b:=Am) (by decide) t (by omega) (by rw[O]at p;omega);refine Iw s hs63 a.length (k+2) (a.length-(k+2)+1) (by omega) la9 U P K t hz X (by omega) I (fun w ob hw R=>?_) (k+2) 0 [] (by omega) rfl (fun x j=>by cases j) (by simp[ze]);have e:ze Am U=2^s*(ze Am a-ze Am P*ze Am b):=by
     rw[O,zN,zz<|ze Am b]at N;rw[yi];omega
    have ew:ze Am w=ze Am a-ze Am P*ze Am b:=by
     rw[R,e];exact yz _ (by omega)
    refine fin P w ob I hw (by omega) ?_;rw[O,e]at p;have:=zM p<|zu f;omega) (a.length-(k+2)+1) u [] (by simp) hul J (fun x j=>by cases j) start (by rw[Y];simp[ze])
   rw[yp,show((a.length-(k+2)+1:Nat):Int)-1=((a.length-(k+2):Nat):Int)by omega]at go;exact go
end T212
theorem X6:Ag Bm 212 Hb:=T212.ok
theorem fD:D3 xY:=fun g sp h=>by cases h
theorem T106n.ok:Ag Bm 106 Xb:=by
 refine Cj fD<|fun(n:Int) _=>?_;refine zV (T106n.Ap n)<|zm<|ya rfl rfl ?_;show(n,[])=(n,C5 n);rw[DY]
theorem fB:D3 rT:=
 Ac T106n.ok (Ac X6<|Ac (T179.ok Ha)<|Ac (T180.ok Ha)<|Ac T160.ok<|Ac T139.ok<|Ac T161.ok AP)
theorem US{m D:Int}(c:0<D):(m % D=0->(-m)/D= -(m/D)/\(-m) % D=0)/\(m % D≠0->(-m)/D= -(m/D)-1/\(-m) % D=D-m % D):=by
 have e:=zT m D;have d:=yf m (show D≠0 by omega);have f:=z8 m c;refine⟨fun h=>?_,fun h=>?_⟩
 ·exact(zU (a:= -m) (b:=D) (r:=0) (q:= -(m/D)) c).2 ⟨by rw[qj];omega,by omega,by omega⟩
 ·exact(zU (a:= -m) (b:=D) (r:=D-m % D) (q:= -(m/D)-1) c).2 ⟨by rw[yi,qj,yd];omega,by omega,by omega⟩
theorem fL{m D:Int}(a:0<=m)(d:0<D):(0<=m/D/\m/D<=m)/\(0<=m % D/\m % D<=m/\m % D<D):=by
 have e:=zT m D;have q0:0<=m/D:=qh a (by omega);have q1:m/D<=m:=Int.ediv_le_self _ a;have b:=yf m (show D≠0 by omega);have c:=z8 m d;have:=zO (show 0<=D by omega) q0;exact⟨⟨q0,q1⟩,b,by omega,c⟩
theorem VW(n:Bool){v:Int}(h:0<=v):Af (qk n v)=v:=by
 rw[Df,Aj];split<;>omega
theorem EW{n:Int}(h:Af n<(Am:Int)^9000):BV (CI n)=true:=by
 have:=Qi h (by omega);unfold BV;exact Aa this.1<|w4 this.2
theorem Z9{a b:Br}(h:0<zl a+zl b):GI a b=CI (zl a+zl b):=by
 unfold GI;split
 ·next c=>
  have:=El c.2.2;rw[BG c.1,BG c.2.1]at h ⊢;exact(BW<|by omega).symm
 ·rfl
theorem Wm:((1:Int),C5 (1:Int))=CI 1:=by rw[DY];rfl
namespace T190
theorem Py{a b:Br}(q:Int)(h: -9223372036854775808<q/\q<9223372036854775808)(c:NW a b=CI q\/(-9223372036854775808<q/\NW a b=Mg (CI<|q+1) (1,[])/\q+1<9223372036854775808)):NW a b=(q,[]):=by
 rcases c with c|⟨d,c,e⟩
 ·rw[c,BW h]
 ·rw[c,BW<|by omega];unfold Mg Fs;rw[wd ⟨rfl,by decide⟩];unfold GI;rw[wd ⟨rfl,rfl,DT (by show _<=q+1+ -1;omega)<|by show q+1+ -1<_;omega⟩];show(q+1+ -1,[])=(q,[]);rw[show q+1+ -1=q by omega]
set_option maxHeartbeats 1000000 in
theorem ok:Ag Bm 190 Gi:=by
 refine Cj fB<|fun(i:(Int×List Int)×(Int×List Int)) w=>?_;obtain⟨a,b⟩:=i;have w:(BV a&&BV b&&decide (0<zl b))=true:=w;rw[zh,zh,w5]at w;obtain⟨⟨ha,hb⟩,hD⟩:=w;obtain⟨oa,_,na,_,va,ba⟩:=words ha;obtain⟨ob,_,nb,_,vb,bb⟩:=words hb;have F:Af (zl b)=zl b:=by rw[Aj];omega
 have E:=AI<|zl a;have e:Af (zl a)=if zl a<0 then -zl a else zl a:=rfl
 obtain⟨⟨q0,q1⟩,u,H,C⟩:=fL (D:=zl b) E hD;obtain⟨z1,z2⟩:=US (m:=Af<|zl a) hD;have l:jG (BS<|Af<|zl a) (BS<|Af<|zl b)=true:=by
  unfold jG;exact Aa (Aa (Aa (Aa na nb)<|w4<|KS E ba)<|w4<|KS (AI _) bb) (w4<|by rw[vb,F];exact hD)
 have fin:∀(q r:Br) v ob,NP Gi.outs v ob=some (true,(q,r))->q=NW a b->r=CI (zl a % zl b)->Ad Gi (a,b) v ob:=fun q r v ob h N L=>ya h rfl (by rw[N,L];rfl)
 have f:Ends rT (L1 (decide (zl a<0)) (BS<|Ao (BS<|Af<|zl a)/Ao (BS<|Af<|zl b)) (BS<|Ao (BS<|Af<|zl a) % Ao (BS<|Af<|zl b)) 0 0 b.1 b.2) (Ad Gi (a,b)):=by
  rw[va,vb,F];obtain⟨P,_,O⟩:=Da (n:=Af (zl a)/zl b) (k:=9000) q0 (by omega) (by omega);obtain⟨nr,_,vr⟩:=Da (n:=Af (zl a) % zl b) (k:=9000) u (by omega) (by omega);have A:BV (CI<|qk (decide (zl a<0))<|Af (zl a) % zl b)=true:=EW (by rw[VW _ u];omega);have J:BV (CI<|qk (decide (zl a<0))<|Af (zl a)/zl b)=true:=EW (by rw[VW _ q0];omega);have R:BV ((1:Int),C5 (1:Int))=true:=by rw[Wm];decide
  have es:LP (Cv<|qk (decide (zl a<0))<|Af (zl a) % zl b,Ct<|qk (decide (zl a<0))<|Af (zl a) % zl b)=Sp.OW (qk (decide (zl a<0))<|Af (zl a) % zl b):=by
   show Sp.OW (zl<|CI _)=_;rw[CJ]
  refine zn (Al ..)<|zc P<|zc nr ?_;rw[O,vr];refine zn (AK ..)<|zc (EL A).1 ?_;rw[es];refine zq (fun c=>?_)<|fun c=>?_
  ·have c:=w6 c;have o:qk (decide (zl a<0)) (Af (zl a) % zl b)<0:=by
    rw[Kp]at c;split at c
    ·assumption
    ·split at c<;>omega
   have j:zl a<0:=by
    rcases zP (zl a) 0 with g|g
    ·exact g
    ·rw[Df,wc<|by simp;omega]at o;omega
   have d:Af (zl a) % zl b≠0:=by
    rw[Df,wd<|w4 j]at o;omega
   obtain⟨z3,z4⟩:=z2 d;refine zc rfl (zc (Aa J R)<|zc (Aa A hb)<|zm<|fin (Mg (CI<|qk (decide (zl a<0))<|Af (zl a)/zl b) (1,C5 1)) (GI (CI<|qk (decide (zl a<0))<|Af (zl a) % zl b) b) _ _ rfl ?_ ?_)
   ·unfold NW;rw[wd ⟨j,d⟩,DY,Df,wd<|w4 j]
   ·have ev:zl a= -Af (zl a):=by rw[e,wd j];omega
    have G:zl (CI<|qk (decide (zl a<0))<|Af (zl a) % zl b)= -(Af (zl a) % zl b):=by rw[CJ,Df,wd<|w4 j]
    have T:zl a % zl b=zl b-Af (zl a) % zl b:=by rw[<-z4, <-ev]
    rw[Z9 (by rw[G];omega),G,T];congr 1;omega
  ·have c:=w7 c;have o:¬(zl a<0/\Af (zl a) % zl b≠0):=by
    rintro⟨j,d⟩;rw[Df,wd<|w4 j,Kp,wd<|by omega]at c;omega
   refine zm<|fin (CI<|qk (decide (zl a<0))<|Af (zl a)/zl b) (CI<|qk (decide (zl a<0))<|Af (zl a) % zl b) _ _ rfl ?_ ?_
   ·unfold NW;rw[wc o]
   ·congr 1;rcases zP (zl a) 0 with g|g
    ·have d:Af (zl a) % zl b=0:=by
      rcases zP 0 (Af (zl a) % zl b)with g2|g2
      ·exact wh ⟨g,by omega⟩ o
      ·omega
     have ev:zl a= -Af (zl a):=by rw[e,wd g];omega
     have:=(z1 d).2;rw[<-ev]at this;rw[this,d,Df];split<;>rfl
    ·rw[Df,wc (by simp;omega),e,wc<|by omega]
 refine zV (Ap a b)<|zq (fun I=>zq (fun o=>zq (fun y=>?_)<|fun y=>?_)<|fun o=>?_)<|fun I=>?_
 ·have a2:=Ov I;have S:=Ov o;have y:a.1≠ -9223372036854775808:=by simpa using y
  have V:=El (n:=a.1) (by
   have:=oa;unfold Sp.D8 at this;rw[zh]at this;exact this.1)
  have W:=El (n:=b.1) (by
   have:=ob;unfold Sp.D8 at this;rw[zh]at this;exact this.1)
  have p:=BG a2;have s:=BG S;rw[p]at e;rw[s]at hD C;rw[p,s]at q0 q1 u H z1 z2;rw[p]at C;have t:zZ a.1 b.1=if a.1<0 then -(Af a.1/b.1)else Af a.1/b.1:=by
   rw[e];split
   ·have:=Int.neg_tdiv (-a.1) b.1;rw[Int.neg_neg]at this;rw[this,zt<|by omega]
   ·exact zt (by omega)
  have d:yv a.1 b.1=if a.1<0 then -(Af a.1 % b.1)else Af a.1 % b.1:=by
   rw[e];split
   ·have:=Int.neg_tmod (-a.1) b.1;rw[Int.neg_neg]at this;rw[this,zx<|by omega]
   ·exact zx (by omega)
  refine zc (w4<|by omega) (zc (w4<|by omega)<|zq (fun c=>?_)<|fun c=>?_)
  ·have c:=w6 c;rw[d]at c;have j:a.1<0:=by split at c<;>omega
   rw[wd j]at c t d;rw[wd j]at e;obtain⟨z3,z4⟩:=z2 (by omega);have ev:a.1= -Af a.1:=by omega
   have M:Af a.1/b.1<9223372036854775807:=by
    rcases zP (Af a.1/b.1) 9223372036854775807 with g|g
    ·exact g
    ·have:=zT (Af a.1) b.1;have:=zk (show 1<=b.1 by omega) q0;omega
   refine zm<|fin (zf .i64<|zf .i64 (zZ a.1 b.1)-1,[]) (zf .i64<|yv a.1 b.1+b.1,[]) _ _ rfl ?_ ?_
   ·rw[t,wr (-(Af a.1/b.1)) (by omega) (by omega),wr _ (by omega)<|by omega];refine(Py _ (by omega)<|.inr ⟨by omega,?_,by omega⟩).symm;unfold NW;rw[p,s,wd ⟨j,by omega⟩,show -(Af a.1/b.1)-1+1= -(Af a.1/b.1)by omega]
   ·rw[d,wr _ (by omega)<|by omega];have:a.1 % b.1=b.1-Af a.1 % b.1:=by rw[<-z4, <-ev]
    rw[p,s,this,BW<|by omega];congr 1;omega
  ·have c:=w7 c;rw[d]at c;refine zm<|fin (zf .i64<|zZ a.1 b.1,[]) (yv a.1 b.1,[]) _ _ rfl ?_ ?_
   ·have z:NW a b=CI (zZ a.1 b.1):=by
     unfold NW;rw[p,s,t,wc (by rintro⟨K,U⟩;rw[wd K]at c;omega),Df];by_cases h:a.1<0
     ·rw[wd<|w4 h,wd h]
     ·rw[wc (by simp;omega),wc h]
    have x: -9223372036854775808<zZ a.1 b.1/\zZ a.1 b.1<9223372036854775808:=by
     rw[t,e]at*;split<;>split at q1<;>split at q0<;>omega
    rw[wr _ (by omega)<|by omega];exact(Py _ x<|.inl z).symm
   ·rw[d];by_cases h:a.1<0
    ·rw[wd h]at c ⊢;have B:Af a.1 % b.1=0:=by omega
     rw[wd h]at e;have ev:a.1= -Af a.1:=by omega
     have:=(z1 B).2;rw[<-ev]at this;rw[p,s,this,B];rfl
    ·rw[wc h]at c ⊢;rw[wc h]at e;rw[p,s,e,BW<|by rw[e]at u H;omega]
 ·exact zc oa<|zc ob<|zc l f
 ·exact zc oa<|zc ob<|zc l f
 ·exact zc oa<|zc ob<|zc l f
end T190
theorem iF:D3 tU:=
 Ac T190.ok (Ac T202.ok<|Ac T161.ok AP)
theorem iG{a:Br}(h:Sp.D8 a=true):SY a=CI (Af<|zl a):=by
 have l:=jW h;obtain⟨j,b⟩:=EH h;unfold SY;by_cases h0:a.1<0
 ·rw[wd h0,Aj];unfold Fs;have e:=l.1 h0;split
  ·next c=>rw[BG c.1]at e ⊢;rw[BW<|by omega];congr 1;omega
  ·congr 1;omega
 ·rw[wc h0];obtain⟨s,w⟩:=a;have h0:¬s<0:=h0;rcases b with b|⟨k,i,f⟩
  ·have b:w=[]:=b;subst b;have j: -9223372036854775808<=s/\s<9223372036854775808:=j;rw[EG,Aj,BW<|by omega];congr 1;omega
  ·obtain⟨_,d,z⟩:=Ey k;have i:s=1\/s= -1:=i;have f:9223372036854775808<=Ao w:=f;have g:w≠[]:=by rintro rfl;exact wh f (by decide)
   have m:s=1:=by omega
   subst m;rw[dF g,wc (by decide),Aj];have:=QN (w:=w) false d z f;rw[wc (by decide),wc<|by decide]at this;rw[show((Ao w).natAbs:Int)=Ao w by omega,this]
theorem dO(n:Int):LP (Cv n,Ct n)=Sp.OW n:=by
 show Sp.OW (zl<|CI _)=_;rw[CJ]
theorem LM(n:Int):zl (Cv n,Ct n)=n:=CJ n
theorem WJ(m n:Int):dP (Cv m,Ct m) (Cv n,Ct n)=Cv (m % n)/\Y9 (Cv m,Ct m) (Cv n,Ct n)=Ct (m % n):=by
 constructor
 ·show Cv (zl (CI _) % zl (CI _))=_;rw[CJ,CJ]
 ·show Ct (zl (CI _) % zl (CI _))=_;rw[CJ,CJ]
theorem FT{n:Int}(h:BV (CI n)=true):BV (Cv n,Ct n)=true:=h
theorem Mx{a:Br}(h:Sp.D8 a=true):Np a=Cv (Af<|zl a)/\MV a=Ct (Af<|zl a):=by
 unfold Np MV;rw[iG h];exact⟨rfl,rfl⟩
theorem S2(x y:Nat):((x:Int) % (y:Int))=((x % y:Nat):Int):=rfl
theorem iW(a b:Br)(n:Int)(h:n=Sp.gI (zl a) (zl b)):(Cv n,Ct n)=(SQ a b,RW a b):=by subst h;rfl
namespace T170
variable {Q:PV->Ob->Prop}
theorem iD(n:Nat)(h:(n:Int)<(Am:Int)^9000):BV (CI (n:Int))=true:=EW (by rw[Aj,Int.natAbs_natCast];exact h)
theorem An(g:Nat)(e L:Int)(c:∀n:Nat,(n:Int)<L->BV (CI (n:Int))=true)(d:∀ob,Q (.agg [.dat i64<|Cv (g:Int),.dat (.nlist u64)<|Ct (g:Int)]) ob):∀(f x y:Nat),y<f->qo x y=g->(x:Int)<L->(y:Int)<L->
  Ends tU (L1 e (Cv (y:Int)) (Ct (y:Int)) (Cv (x:Int))<|Ct (x:Int)) Q
 |0,x,y,h,_,_,_=>by omega
 |f+1,x,y,m,b,l,a=>by
  have k:BV (CI (x:Int))=true:=c x l;have i:BV (CI (y:Int))=true:=c y a
  refine zn (Al ..)<|zc (EL<|FT i).1 ?_;rw[dO,(WJ _ _).1,(WJ _ _).2,LM,S2];by_cases h0:y=0
  ·subst h0;rw[Nat.gcd_zero_right]at b;subst b;exact zy rfl (zm<|d _)
  ·have j:x % y<y:=Nat.mod_lt _ (by omega);refine zc ?_ (zc (Aa (Aa (FT k)<|FT i)<|w4<|by omega) ?_)
   ·rw[Kp,wc (by omega),wd<|by omega];rfl
   ·exact An g e L c d f y (x % y) (by omega) (by rw[qf, <-Nat.gcd_rec,qf];exact b) a (by omega)
theorem ok:Ag Bm 170 Yu:=by
 refine Cj iF<|fun(i:(Int×List Int)×(Int×List Int)) c=>?_;obtain⟨a,b⟩:=i;have c:(BV a&&BV b)=true:=c;rw[zh]at c;obtain⟨ha,hb⟩:=c;have d:=(EL ha).1;have ob:=(EL hb).1;have e:=bounds ha;have f:=bounds hb;rw[Aj]at e f;refine zV (Ap a b)<|zc d<|zc ob ?_;show Ends tU (L1 0 (Np b) (MV b) (Np a)<|MV a) _;rw[(Mx d).1,(Mx d).2,(Mx ob).1,(Mx ob).2,Aj,Aj];refine An (qo (zl a).natAbs (zl b).natAbs) 0 _ iD (fun ob=>ya rfl rfl (iW a b _ ?_)) ((zl b).natAbs+1) _ _ (Nat.lt_succ_self _) rfl e f;rw[HU];rfl
end T170
theorem rZ(n:Nat)(h:n<9223372036854775808):Hc .i64 (n:Int) 1=((n % 2:Nat):Int):=by
 have e:(yk 64 (n:Int)&&&yk 64 1).toNat=n % 2:=by
  rw[BitVec.toNat_and];have a:(yk 64 (n:Int)).toNat=n:=by rw[BitVec.ofInt_natCast,BitVec.toNat_ofNat];exact Nat.mod_eq_of_lt (by omega)
  have b:(yk 64 1).toNat=2^1-1:=by decide
  rw[a,b,Nat.and_two_pow_sub_one_eq_mod]
 show zf .i64 (((yk 64 (n:Int)&&&yk 64 1).toNat:Nat):Int)=_;rw[e];exact wr _ (by omega) (by omega)
namespace T176
variable {Q:PV->Ob->Prop}
theorem Th{c:Int}(h:c≠0):1<=Af c:=by rw[Aj];omega
theorem VM(c:Int):∀k:Nat,Af (c^k)=Af c^k
 |0=>by rw[zQ,zQ];rfl
 |k+1=>by rw[zr,zr,JN,VM c k]
theorem one_le_pow{c:Int}(h:1<=c):∀k:Nat,1<=c^k
 |0=>by rw[zQ];decide
 |k+1=>by
  rw[zr];have:=zk (one_le_pow h k) (show 0<=c by omega);omega
theorem tO{p c L:Int}{k:Nat}(n:1<L)(h:Af (p*c^k)<L)(i:c=0->Af p<=1)(l:c≠0->p≠0):Af p<L/\(1<=k->Af c<L)/\(2<=k->Af (c*c)<L)/\(1<=k->Af (p*c)<L):=by
 by_cases b:c=0
 ·subst b;have:=i rfl;have e:Af 0=0:=rfl;exact⟨by omega,fun _=>by rw[e];omega,fun _=>by rw[ym,e];omega,fun _=>by rw[ym,e];omega⟩
 ·have m:=Th<|l b;have a:=Th b;rw[JN,VM]at h;rw[JN,JN];generalize Af p=P at*;generalize Af c=C at*;have g:1<=C^k:=one_le_pow a k;have a1:P<=P*C^k:=by
   have:=zi g (show 0<=P by omega);omega
  have f:C^k<=P*C^k:=by
   have:=zk m (show 0<=C^k by omega);omega
  refine⟨by omega,fun d=>?_,fun d=>?_,fun d=>?_⟩
  ·obtain⟨j,rfl⟩:∃j,k=j+1:=⟨k-1,by omega⟩;rw[zr]at f h;have:=zk (one_le_pow a j) (show 0<=C by omega);omega
  ·obtain⟨j,rfl⟩:∃j,k=j+2:=⟨k-2,by omega⟩;have e:C^(j+2)=C^j*(C*C):=by rw[zr,zr,zN]
   rw[e]at f h;have:=zk (one_le_pow a j) (zO (show 0<=C by omega) (show 0<=C by omega));omega
  ·obtain⟨j,rfl⟩:∃j,k=j+1:=⟨k-1,by omega⟩;have e:P*C^(j+1)=C^j*(P*C):=by rw[zr,zW]
   rw[e]at h;have:=zk (one_le_pow a j) (zO (show 0<=P by omega) (show 0<=C by omega));omega
theorem W2{p c:Int}{k j:Nat}(h:k=2*j):p*(c*c)^j=p*c^k:=by
 subst h;rw[Int.pow_mul,zr,zr,zQ,zX]
theorem cV{p c:Int}{k j:Nat}(h:k=2*j+1):p*c*(c*c)^j=p*c^k:=by
 subst h;rw[zr,Int.pow_mul,show c^2=c*c by rw[zr,zr,zQ,zX],zN,zz c]
theorem vA{x:Int}(h:x<(18446744073709551616:Int)^(4000:Nat)):x<(Am:Int)^9000:=
 yh h (AM (b:=Am) (by decide)<|by omega)
theorem An(o1 R:Int)(hR:Af R<(18446744073709551616:Int)^(4000:Nat))(r:∀ob,Q (.agg [.dat i64<|Cv R,.dat (.nlist u64)<|Ct R]) ob):
  ∀(f k:Nat) (p:Int) (a:Br),k<f->k<=100000->(1<=k->BV a=true)->p*zl a^k=R->(zl a=0->Af p<=1)->(zl a≠0->p≠0)->
   Ends rM (L1 (k:Int) (Cv p) (Ct p) o1 a.1 a.2) Q
 |0,k,p,a,h,_,_,_,_,_=>by omega
 |f+1,k,p,a,D,C,w,i,s,m=>by
  have x:(1:Int)<(18446744073709551616:Int)^(4000:Nat):=yh (show(1:Int)<18446744073709551616^(1:Nat)by decide) (AM (b:=18446744073709551616) (by decide) (by omega));rw[<-i]at hR;obtain⟨s1,s2,s3,s4⟩:=tO x hR s m;by_cases h0:k=0
  ·subst h0;rw[zQ,yd]at i;subst i;exact zn (Al ..) (zy (by simp)<|zm<|r _)
  ·have y:BV (Cv p,Ct p)=true:=EW<|vA s1;have j:BV a=true:=w (by omega);have B:Int.fdiv (k:Int) ((2:Int)^(1:Nat))=((k/2:Nat):Int):=by
    rw[Int.fdiv_eq_ediv_of_nonneg _<|by decide];rfl
   have u:(Hl (Cv p,Ct p) a,Hi (Cv p,Ct p) a)=CI (p*zl a):=by
    show CI (zl (CI p)*zl a)=_;rw[CJ]
   have n:Hl (Cv p,Ct p) (a.1,a.2)=Cv (p*zl a):=wi Prod.fst u;have o:Hi (Cv p,Ct p) (a.1,a.2)=Ct (p*zl a):=wi Prod.snd u;have l:zl (UO a a)=zl a*zl a:=Ul a a;have t:∀q:Int,1<k->q*(zl a*zl a)^(k/2)=p*zl a^k->(zl a=0->Af q<=1)->(zl a≠0->q≠0)->Ends rM (L1 ((k/2:Nat):Int) (Cv q) (Ct q) o1 (Hl (a.1,a.2) (a.1,a.2))<|Hi (a.1,a.2) (a.1,a.2)) Q:=by
    intro q e g v A;refine An o1 R (by rw[i]at hR;exact hR) r f (k/2) q (UO a a) (by omega) (by omega) (fun _=>EW<|vA<|s3<|by omega) (by rw[l,g,i]) (fun z=>v ?_)<|fun z=>A ?_
    ·rw[l]at z;rcases Int.mul_eq_zero.1 z with z|z<;>exact z
    ·rintro z2;rw[l,z2]at z;exact z rfl
   have st:∀q:Int,k=1->q=R->Ends rM (L1 ((k/2:Nat):Int) (Cv q) (Ct q) o1 a.1 a.2) Q:=by
    intro q e g;subst e g;exact zn (Al ..) (zy (by simp)<|zm<|r _)
   refine zn (Al ..) (zc (w4<|by omega) ?_);rw[rZ k (by omega),B,n,o];refine zq (fun c=>?_)<|fun c=>?_
   ·have c:((k % 2:Nat):Int)=1:=by simpa using c
    refine zc (Aa y j)<|zq (fun d=>zc (Aa j j)<|zc rfl ?_)<|fun d=>zc rfl ?_
    ·have d:=w6 d;refine t _ (by omega) (cV<|by omega) (fun z=>by rw[z,ym];decide)<|fun z=>?_;exact Int.mul_ne_zero (m z) z
    ·have d:=w7 d;have e:k=1:=by omega
     refine st _ e ?_;rw[<-i,e,zr,zQ,zX]
   ·have c:((k % 2:Nat):Int)≠1:=by simpa using c
    refine zq (fun d=>zc (Aa j j)<|zc rfl ?_)<|fun d=>?_
    ·have d:=w6 d;exact t _ (by omega) (W2<|by omega) s m
    ·have d:=w7 d;omega
theorem kT:D3 rM:=Ac T106n.ok<|Ac T127.ok AP
theorem ok:Ag Bm 176 aN:=by
 refine Cj kT<|fun(i:(Int×List Int)×Int) b=>?_;obtain⟨a,k⟩:=i;have b:(BV a&&(decide (0<=k)&&decide (k<=100000)&&decide (Af (Sp.pI (zl a) k)<(18446744073709551616:Int)^(4000:Nat))))=true:=b;rw[zh,zh,zh,w5,w5,w5,QY]at b;obtain⟨ha,⟨k0,k1⟩,hR⟩:=b;obtain⟨n,rfl⟩:=yj k0;have c:C5 1=Ct 1:=by rw[DY];rfl
 refine zV (Ap a n)<|zc rfl ?_;rw[c];refine An (Q:=Ad aN (a,(n:Int))) 0 (zl a^n) hR (fun ob=>ya rfl rfl ?_) (n+1) n 1 a (by omega) (by omega) (fun _=>ha) (zX _) (fun _=>by decide) (fun _=>by decide);show CI _=CI (Sp.pI (zl a) (n:Int));rw[QY];rfl
end T176
end Go.Pe
namespace Go.Sp
theorem Oe{l:List Int}(h:I7 l=true):l.length<=20000/\Av B9 l:=by
 unfold I7 at h;rw[zh,w5,y9]at h;exact⟨h.1,fun d a=>by
  have:=h.2 d a;rw[zh,w5,w5]at this;exact this⟩
theorem JW{l:List Int}(b:l.length<=20000)(c:Av B9 l):I7 l=true:=by
 unfold I7;rw[zh,w5,y9];exact⟨b,fun d a=>by
  have:=c d a;rw[zh,w5,w5];exact this⟩
theorem nE{l:List Int}(h:hR l=true):l.length<=9000/\Av B9 l:=by
 unfold hR at h;rw[zh,w5]at h;exact⟨h.2,(Oe h.1).2⟩
theorem Qc{l:List Int}(a:l.length<=9000)(b:Av B9 l):hR l=true:=by
 unfold hR;rw[JW (by omega) b,yo];exact w4 a
theorem Bd{l:List Int}(h:AZ l=true):l.length<=20000/\Av B9 l/\nz l:=by
 unfold AZ at h;rw[zh]at h;have:=Oe h.1;exact⟨this.1,this.2,by
  have:=h.2;unfold nF at this;have:l.getLast?≠some 0:=w6 this;exact this⟩
theorem aS{l:List Int}(b:l.length<=20000)(c:Av B9 l)(a:nz l):AZ l=true:=by
 unfold AZ nF;rw[JW b c,yo];exact w4 a
theorem F6{l:List Int}(h:Av B9 l)(i:Nat):0<=l.getD i 0/\l.getD i 0<1000000000:=Oa (by decide) h i
theorem EO{l:List Int}{x:Int}(h:Av B9 l)(b:0<=x/\x<1000000000):Av B9 (l++[x]):=EE h (fun d a=>by rw[yg]at a;subst a;exact b)
theorem B4(l:List Int)(x:Int):val B9 (l++[x])=val B9 l+(B9:Int)^l.length*x:=by
 rw[CH];simp[val]
theorem I9(i:Nat)(c:Int):(B9:Int)^(i+1)*c=(B9:Int)^i*(1000000000*c):=by
 rw[zr,zN];rfl
theorem E4{l:List Int}(h:Av B9 l):At l=BL (Ar l):=Wi (by decide) h
theorem My{n:Int}{k:Nat}(h0:0<=n)(h:n<(B9:Int)^k):(BL n).length<=k:=by
 refine Q9 B9 (by decide) k n.toNat n.toNat ?_;have e:((B9^k:Nat):Int)=(B9:Int)^k:=Int.natCast_pow ..;rw[<-e]at h;generalize B9^k=P at*;omega
theorem Gw{n:Int}{k:Nat}(h0:0<=n)(h:n<(B9:Int)^k)(d:k<=9000):AZ (BL n)=true/\hR (BL n)=true/\Ar (BL n)=n/\(BL n).length<=k:=by
 have c:=My h0 h;have a:=G9 (b:=B9) (by decide) n;exact⟨aS (by omega) a (WL (by decide) n),Qc (by omega) a,C1 (by decide) h0,c⟩
end Go.Sp
namespace Go.Pe
open Sp
open Go.Det
theorem QJ:D3 eI:=fun g sp h=>by cases h
namespace T193
theorem An{Q:PV->Ob->Prop}:∀(n:Nat) (w:List Int),w.length=n->n<=20000->(∀ob,Q (.dat li<|At w) ob)->Ends eI (L1 w) Q
 |0,w,d,_,a=>by
  have:w=[]:=zL.1 d;subst this;exact zn (Al ..) (zy (by simp)<|zm<|a _)
 |n+1,w,d,i,a=>by
  obtain⟨p,x,rfl⟩:∃p x,w=p++[x]:=by
   have b:w≠[]:=by rintro rfl;simp at d
   exact⟨w.dropLast,w.getLast b,(yq b).symm⟩
  have e:p.length=n:=by simpa using d
  have h:zf .i64 (((p++[x]).length:Int)-1)=(n:Int):=by rw[wr _ (by omega)<|by omega];omega
  have f:(p++[x]).getD n 0=x:=Dn _ _ _ _ e;have g:(p++[x]).take n=p:=by rw[<-e];exact List.take_left
  refine zn (Al ..) (zc (w4<|by omega) ?_);rw[h,zg,f,g];refine zc (by simp;omega) (zq (fun c=>zc (by simp;omega) ?_)<|fun c=>?_)
  ·have c:x=0:=by simpa using c
   subst c;rw[Hw]at a;exact An n p e (by omega) a
  ·have c:x≠0:=by simpa using c
   rw[H3<|Wl c]at a;exact zm<|a _
theorem ok:Ag Bm 193 QK:=by
 refine Cj QJ<|fun(w:List Int) a=>?_;have a:w.length<=20000:=w6 a;exact zV (Ap w)<|An w.length w rfl a (fun ob=>ya rfl rfl rfl)
end T193
theorem QH:D3 Yk:=Ac T193.ok AP
theorem T155.ok:Ag Bm 155 H7:=by
 refine Cj QH<|fun(i:Bool×List Int) hi=>?_;obtain⟨n,w⟩:=i;refine zV (T155.Ap n w)<|zc hi<|zq (fun c=>zm<|ya rfl rfl ?_)<|fun c=>zm<|ya rfl rfl ?_
 ·show(decide (((At w).length:Int)>0),At w)=(B5 n w,At w);unfold B5;rw[c,yo];congr 1;rw[decide_eq_decide];constructor
  ·intro h a;rw[a]at h;simp at h
  ·intro h;have:(At w).length≠0:=fun a=>h<|zL.1 a
   omega
 ·show(false,At w)=(B5 n w,At w);unfold B5;rw[c];rfl
namespace T157
theorem An{Q:PV->Ob->Prop}(a b:List Int)(h:Av zd a)(k:Av zd b)(m:a.length=b.length)(l:b.length<=20000)(f:∀ob,Q (.dat i64<|BY (Ar a)<|Ar b) ob):∀(i:Nat),i<=a.length->a.drop i=b.drop i->Ends eI (L1 a b<|(i:Int)-1) Q
 |0,o,g=>by
  have g:a=b:=g;have:BY (Ar a) (Ar b)=0:=by rw[g];unfold BY;simp
  rw[this]at f;exact zn (Al ..) (zy (by simp)<|zm<|f _)
 |i+1,o,g=>by
  have n:(((i+1:Nat):Int)-1)=(i:Int):=by omega
  have j:a.drop i=a.getD i 0::a.drop (i+1):=Cm (by omega);have db:b.drop i=b.getD i 0::a.drop (i+1):=by rw[g];exact Cm (by omega)
  rw[n];refine zn (Al ..) (zc (by simp) ?_);rw[zg];refine zc (by simp;omega) (zc (by simp;omega)<|zq (fun d=>?_) (fun d=>zc (by simp;omega)<|zc (by simp;omega)<|zq (fun c=>?_)<|fun c=>?_))
  ·have d:=w6 d;have:=Iv (b:=zd) (by decide) h k j db d;have e:BY (Ar a) (Ar b)= -1:=by unfold BY;exact wd this
   rw[e]at f;exact zm<|f _
  ·have c:=w6 c;have:=Iv (b:=zd) (by decide) k h db j c;have e:BY (Ar a) (Ar b)=1:=by unfold BY Ar;rw[wc (by omega),wd<|by omega]
   rw[e]at f;exact zm<|f _
  ·have c:=w7 c;have d:=w7 d;rw[wr ((i:Int)-1) (by omega)<|by omega];exact An a b h k m l f i (by omega) (by rw[j,db,show a.getD i 0=b.getD i 0 by omega])
theorem ok:Ag Bm 157 WR:=by
 refine Cj QJ<|fun(i:List Int×List Int) g=>?_;obtain⟨a,b⟩:=i;have g:(AZ a&&AZ b)=true:=g;rw[zh]at g;obtain⟨a1,a2,a3⟩:=Bd g.1;obtain⟨b1,b2,b3⟩:=Bd g.2;have f:∀ob,Ad WR (a,b) (.dat i64<|BY (Ar a)<|Ar b) ob:=fun ob=>ya rfl rfl rfl
 refine zV (Ap a b)<|zq (fun c=>zq (fun d=>?_)<|fun d=>?_)<|fun c=>?_
 ·have d:=w6 d;have e:BY (Ar a) (Ar b)= -1:=by unfold BY;exact wd (Ei (by decide) a2 b2 b3 (by omega))
  rw[e]at f;exact zm<|f _
 ·have d:=w7 d;have c:(a.length:Int)≠b.length:=by simpa using c
  have:=Ei (b:=zd) (by decide) b2 a2 a3 (by omega);have e:BY (Ar a) (Ar b)=1:=by
   unfold BY Ar;rw[wc (by omega),wd<|by omega]
  rw[e]at f;exact zm<|f _
 ·have c:(a.length:Int)=b.length:=by simpa using c
  rw[wr _ (by omega)<|by omega];exact An a b a2 b2 (by omega) b1 f a.length (by omega) (by rw[y8,qg<|by omega])
end T157
theorem Xw{x y o c:Int}(d:0<=x/\x<1000000000)(f:0<=y/\y<1000000000)(k:0<=o/\o<1000000000)(j:0<=c/\c<1000000000):
  zf .i64 (zf .i64 (o+zf .i64 (x*y))+c)=o+x*y+c/\yv (o+x*y+c) 1000000000=(o+x*y+c) % 1000000000/\zf .i64 (zZ (o+x*y+c) 1000000000)=(o+x*y+c)/1000000000/\
  (0<=(o+x*y+c)/1000000000/\(o+x*y+c)/1000000000<1000000000)/\(0<=(o+x*y+c) % 1000000000/\(o+x*y+c) % 1000000000<1000000000):=by
 have h0:0<=x*y:=zO d.1 f.1;have i:x*y<=999999999*999999999:=by
  have a:=zi (show y<=999999999 by omega) d.1;have b:=zk (show x<=999999999 by omega) (show(0:Int)<=999999999 by omega);omega
 generalize x*y=P at*;have h:zf .i64 P=P:=wr _ (by omega) (by omega);have e:zf .i64 (o+P)=o+P:=wr _ (by omega) (by omega);have g:zZ (o+P+c) 1000000000=(o+P+c)/1000000000:=zt (by omega);refine⟨?_,zx (by omega),?_,by omega,by omega⟩
 ·rw[h,e];exact wr _ (by omega) (by omega)
 ·rw[g];exact wr _ (by omega) (by omega)
namespace T159
variable {Q:PV->Ob->Prop}
theorem AV(x y:List Int)(n i:Nat)(R:i<x.length)(E:n=x.length+y.length)(g:x.length<=9000)(l:y.length<=9000)(t:Av zd x)(s:Av zd y)(p:List Int)(C:p.length=i+y.length)(b:Av zd p)
  (o:∀q c,q.length=i+y.length->Av zd q->(0<=c/\c<1000000000)->ze zd q+(zd:Int)^(i+y.length)*c=ze zd p+(zd:Int)^i*(x.getD i 0*ze zd y)->Ends Yk (L1 x y n ((i+1:Nat):Int)<|(q++[c])++zo (n-(i+y.length+1)) 0) Q):∀(k j:Nat) (q:List Int) (c:Int),j+k=y.length->q.length=i+j->Av zd q->(0<=c/\c<1000000000)->ze zd q+(zd:Int)^(i+j)*c=ze zd (p.take<|i+j)+(zd:Int)^i*(x.getD i 0*ze zd (y.take j))->
  Ends Yk (L2 x y n i c j<|q++(p.drop (i+j)++zo (n-(i+y.length)) 0)) Q
 |0,j,q,c,f,a,d,m,r=>by
  have f:j=y.length:=by omega
  subst f;have h:zf .i64 ((i:Int)+(y.length:Int))=((i+y.length:Nat):Int):=by rw[wr _ (by omega)<|by omega];omega
  have e:zf .i64 ((i:Int)+1)=((i+1:Nat):Int):=by rw[wr _ (by omega)<|by omega];omega
  have G:p.drop (i+y.length)=[]:=qg (by omega);have w:(q++zo (n-(i+y.length)) (0:Int)).getD (i+y.length) 0=0:=by
   have:n-(i+y.length)=(n-(i+y.length+1))+1:=by omega
   rw[this,List.replicate_succ];exact Dn _ _ _ _ a
  refine zn (AK ..) (zy (by simp) ?_);rw[h,e,zg,G,yr,w,Int.zero_add,wr c (by omega) (by omega),Iz q n _ c a<|by omega];refine zc (by simp;omega) (zc (by simp;omega)<|zc (by simp;omega)<|zc (by simp;omega)<|o q c a d m ?_);rw[r,zj (by omega),z6]
 |k+1,j,q,c,f,a,d,m,r=>by
  have D:=F6 t i;have L:=F6 s j;have H:=F6 b<|i+j;have v:p.drop (i+j)=p.getD (i+j) 0::p.drop (i+j+1):=Cm (by omega);have h:zf .i64 ((i:Int)+(j:Int))=((i+j:Nat):Int):=by rw[wr _ (by omega)<|by omega];omega
  have e:zf .i64 ((j:Int)+1)=((j+1:Nat):Int):=by rw[wr _ (by omega)<|by omega];omega
  have lo:(q++(p.drop (i+j)++zo (n-(i+y.length)) (0:Int))).length=n:=by simp;omega
  have J:(q++(p.drop (i+j)++zo (n-(i+y.length)) (0:Int))).getD (i+j) 0=p.getD (i+j) 0:=by
   rw[v,List.cons_append];exact Dn _ _ _ _ a
  have s1:∀z,(q++(p.drop (i+j)++zo (n-(i+y.length)) (0:Int))).set (i+j) z=(q++[z])++(p.drop (i+(j+1))++zo (n-(i+y.length)) 0):=by
   intro z;rw[v,List.cons_append,C9 _ _ _ _ a,yn];rfl
  obtain⟨O,K,I,A,F⟩:=Xw D L H m;refine zn (AK ..) (zc (by simp;omega) ?_);rw[h,e,zg,zg,zg,J,O,K,I,s1];have u:(decide ((0:Int)<=((i+j:Nat):Int))&&decide (((i+j:Nat):Int)<(n:Int)))=true:=by simp;omega
  refine zc u (zc (w4<|by rw[lo];omega)<|zc (by simp;omega)<|zc (by simp;omega)<|zc rfl (zc u<|zc (w4<|by rw[lo];omega)<|zc rfl ?_));refine AV x y n i R E g l t s p C b o k (j+1) _ _ (by omega) (by simp;omega) (EO d F) A ?_;have N:i+(j+1)=(i+j)+1:=by omega
  have M:(zd:Int)^i*(x.getD i 0*((zd:Int)^j*y.getD j 0))=(zd:Int)^(i+j)*(x.getD i 0*y.getD j 0):=by
   rw[Int.pow_add,zN,zW<|x.getD i 0]
  have B:(p.getD (i+j) 0+x.getD i 0*y.getD j 0+c) % 1000000000+1000000000*((p.getD (i+j) 0+x.getD i 0*y.getD j 0+c)/1000000000)=x.getD i 0*y.getD j 0+p.getD (i+j) 0+c:=by
   generalize x.getD i 0*y.getD j 0=P;omega
  rw[N,B4,a,I9,ql, <-zK,B,AD _ p<|i+j,AD _ y j,zK,zK,zK<|x.getD i 0,zK,M];omega
theorem An(x y:List Int)(n:Nat)(h:n=x.length+y.length)(b:x.length<=9000)(a:y.length<=9000)(l:Av zd x)(r:Av zd y)(o:∀ob,Q (.dat li<|BL<|Ar x*Ar y) ob):∀(k i:Nat) (p:List Int),i+k=x.length->p.length=i+y.length->Av zd p->ze zd p=ze zd (x.take i)*ze zd y->
  Ends Yk (L1 x y n i<|p++zo (n-(i+y.length)) 0) Q
 |0,i,p,j,m,d,e=>by
  have j:i=x.length:=by omega
  subst j;have s:p++zo (n-(x.length+y.length)) (0:Int)=p:=by rw[h,Nat.sub_self];simp
  have f:Ar p=Ar x*Ar y:=by
   rw[z6]at e;exact e
  rw[s];refine zn (Al ..) (zy (by simp) ?_);rw[zj<|by omega];refine zc ?_<|zm ?_
  ·simp;omega
  ·rw[E4 d,f];exact o _
 |k+1,i,p,j,m,d,e=>by
  refine zn (Al ..) (zc (by simp;omega) ?_);have:=AV (Q:=Q) x y n i (by omega) h b a l r p m d (fun q c u g t f=>by
   have:=An x y n h b a l r o k (i+1) (q++[c]) (by omega) (by simp;omega) (EO g t) (by
    rw[B4,u,f,e,AD,Int.add_mul,zN])
   rw[show i+1+y.length=i+y.length+1 by omega]at this;exact this) y.length 0 (p.take i) 0 (by omega) (by simp;omega) (AL d i) (by decide) (by simp[ze])
  rw[Nat.add_zero, <-yn,yb]at this;exact this
theorem ok:Ag Bm 159 VL:=by
 refine Cj QH<|fun(i:List Int×List Int) a=>?_;obtain⟨x,y⟩:=i;have a:(Sp.hR x&&Sp.hR y)=true:=a;rw[zh]at a;obtain⟨x1,x2⟩:=nE a.1;obtain⟨y1,y2⟩:=nE a.2;have c:zf .i64 ((x.length:Int)+(y.length:Int))=((x.length+y.length:Nat):Int):=by rw[wr _ (by omega)<|by omega];omega
 refine zV (Ap x y) ?_;conv=>zeta
 rw[c,zg];refine zc (by simp;omega) ?_;have:=An (Q:=Ad VL (x,y)) x y (x.length+y.length) rfl x1 y1 x2 y2 (fun ob=>ya rfl rfl rfl) x.length 0 (zo y.length 0) (by omega) (by simp) (fun d b=>by rw[(List.mem_replicate.1 b).2];decide) (by rw[K1];simp[ze]);rw[Nat.zero_add,List.replicate_append_replicate,show y.length+(x.length+y.length-y.length)=x.length+y.length by omega]at this;exact this
end T159
theorem XM{r x d:Int}(a:0<d/\d<1000000000)(c:0<=r/\r<d)(b:0<=x/\x<1000000000):
  zf .i64 (zf .i64 (r*1000000000)+x)=r*1000000000+x/\zf .i64 (zZ (r*1000000000+x) d)=(r*1000000000+x)/d/\yv (r*1000000000+x) d=(r*1000000000+x) % d/\
  (0<=(r*1000000000+x)/d/\(r*1000000000+x)/d<1000000000)/\(0<=(r*1000000000+x) % d/\(r*1000000000+x) % d<d)/\(r*1000000000+x)/d*d+(r*1000000000+x) % d=r*1000000000+x:=by
 have h:=zT (r*1000000000+x) d;rw[zz]at h;have q0:0<=(r*1000000000+x)/d:=qh (by omega) (by omega);have q1:(r*1000000000+x)/d<1000000000:=Int.ediv_lt_of_lt_mul a.1 (by omega);refine⟨?_,?_,zx (by omega),⟨q0,q1⟩,⟨yf _ (by omega),z8 _ a.1⟩,h⟩
 ·rw[wr (r*1000000000) (by omega)<|by omega];exact wr _ (by omega) (by omega)
 ·rw[zt<|by omega];exact wr _ (by omega) (by omega)
namespace T192
variable {Q:PV->Ob->Prop}
theorem An(a:List Int)(d:Int)(g:Av zd a)(h:0<d/\d<1000000000)(l:a.length<=20000)(j:∀q r ob,Av zd q->(0<=r/\r<d)->Ar a=Ar q*d+r->Q (.tup [.dat li<|At q,.dat i64 r]) ob):∀(i:Nat) (q:List Int) (r:Int),i+q.length=a.length->Av zd q->(0<=r/\r<d)->ze zd (a.drop i)=ze zd q*d+r->
  Ends Yk (L1 a d a.length r ((i:Int)-1)<|zo i 0++q) Q
 |0,q,r,u,b,f,e=>by
  have k:((zo 0 0++q).take a.length)=q:=by
   rw[List.replicate_zero,yr];exact zj (by omega)
  refine zn (Al ..) (zy (by simp) ?_);rw[k];refine zc (Aa (by simp;omega)<|w4<|by omega)<|zm<|j q r _ b f e
 |i+1,q,r,u,b,f,e=>by
  have w:(((i+1:Nat):Int)-1)=(i:Int):=by omega
  have p:=F6 g i;obtain⟨n,t,s,o,v,y⟩:=XM h f p;have m:a.drop i=a.getD i 0::a.drop (i+1):=Cm (by omega);have es:∀x,(zo (i+1) (0:Int)++q).set i x=zo i 0++(x::q):=by
   intro x;rw[List.replicate_succ',yn];exact C9 _ _ _ _ (by simp)
  rw[w];refine zn (Al ..) (zc (by simp) ?_);rw[zg,es,wr ((i:Int)-1) (by omega) (by omega),n,t,s];refine zc (by simp;omega) (zc (w4<|by omega) (zc (by simp;omega)<|zc (by simp;omega)<|zc (w4<|by omega) ?_));refine An a d g h l j i _ _ (by simp;omega) (fun x c=>?_) v ?_
  ·rcases y7.1 c with rfl|c
   ·exact o
   ·exact b x c
  ·rw[m];show a.getD i 0+(1000000000:Int)*ze zd (a.drop<|i+1)=((r*1000000000+a.getD i 0)/d+(1000000000:Int)*ze zd q)*d+(r*1000000000+a.getD i 0) % d;rw[e,Int.add_mul,zK,zN];omega
theorem ok:Ag Bm 192 TX:=by
 refine Cj QH<|fun(i:List Int×Int) c=>?_;obtain⟨a,d⟩:=i;have c:(I7 a&&decide (0<d)&&decide (d<1000000000))=true:=c;rw[zh,zh,w5,w5]at c;obtain⟨⟨ha,d0⟩,d1⟩:=c;obtain⟨hl,hda⟩:=Oe ha;refine zV (Ap a d) ?_;conv=>zeta
 rw[zg,wr ((a.length:Int)-1) (by omega)<|by omega];refine zc (by simp;omega) ?_;have:=An (Q:=Ad TX (a,d)) a d hda ⟨d0,d1⟩ hl (fun q r ob g e h=>?_) a.length [] 0 (by simp) (fun x f=>by cases f) ⟨qi _,d0⟩ (by rw[y8];simp[ze])
 ·rw[yp]at this;exact this
 ·refine ya rfl rfl ?_;show(At q,r)=(BL<|Ar a/d,Ar a % d);obtain⟨u1,u2⟩:=(zU (a:=Ar a) (b:=d) (r:=r) (q:=Ar q) d0).2 ⟨by rw[zz d];omega,e.1,e.2⟩;rw[E4 g,u1,u2]
end T192
theorem lQ:D3 KW:=
 Ac T157.ok (Ac T193.ok<|Ac T192.ok<|Ac T159.ok AP)
theorem Rx{t x y w:Int}(c:0<=t/\t<1000000000)(d:0<=x/\x<1000000000)(i:0<=y/\y<1000000000)(h:0<=w/\w<=1000000000):
  zf .i64 (zf .i64 (t*x)+w)=t*x+w/\yv (t*x+w) 1000000000=(t*x+w) % 1000000000/\zf .i64 (zZ (t*x+w) 1000000000)=(t*x+w)/1000000000/\
  zf .i64 ((t*x+w)/1000000000+1)=(t*x+w)/1000000000+1/\zf .i64 (y-(t*x+w) % 1000000000)=y-(t*x+w) % 1000000000/\(0<=(t*x+w)/1000000000/\(t*x+w)/1000000000<1000000000)/\(0<=(t*x+w) % 1000000000/\(t*x+w) % 1000000000<1000000000):=by
 have h0:0<=t*x:=zO c.1 d.1;have g:t*x<=999999999*999999999:=by
  have a:=zi (show x<=999999999 by omega) c.1;have b:=zk (show t<=999999999 by omega) (show(0:Int)<=999999999 by omega);omega
 generalize t*x=P at*;have f:zf .i64 P=P:=wr _ (by omega) (by omega);have e:zZ (P+w) 1000000000=(P+w)/1000000000:=zt (by omega);refine⟨?_,zx (by omega),?_,wr _ (by omega) (by omega),wr _ (by omega) (by omega),by omega,by omega⟩
 ·rw[f];exact wr _ (by omega) (by omega)
 ·rw[e];exact wr _ (by omega) (by omega)
theorem Xk(w r:List Int)(i:Nat)(h:i<w.length):(w++r).getD i 0=w.getD i 0:=by
 rw[zR,zR,List.getElem?_append_left h]
namespace T154
variable {Q:PV->Ob->Prop}
theorem gW{lo w z:List Int}{h:Int}{j i:Nat}(a:lo.length=j)(b:i<w.length):(lo++(w++h::z)).getD (i+j) 0=w.getD i 0:=by
 rw[Gn _ _ _ _ a,Xk _ _ _ b]
theorem sW{lo w z:List Int}{h:Int}{j i:Nat}(x:Int)(a:lo.length=j)(b:i<w.length):(lo++(w++h::z)).set (i+j) x=lo++(w.set i x++h::z):=by
 rw[Ry _ _ _ _ _ a,List.set_append_left _ _ b]
theorem gH{lo w z:List Int}{h:Int}{j n:Nat}(a:lo.length=j)(b:w.length=n):(lo++(w++h::z)).getD (n+j) 0=h:=by
 rw[Gn _ _ _ _ a];exact Dn _ _ _ _ b
theorem sH{lo w z:List Int}{h:Int}{j n:Nat}(x:Int)(a:lo.length=j)(b:w.length=n):(lo++(w++h::z)).set (n+j) x=lo++(w++x::z):=by
 rw[Ry _ _ _ _ _ a];congr 1;exact C9 _ _ _ _ b
theorem Mv(w z:List Int)(h:Int)(a:ze zd z=0):ze zd (w++h::z)=ze zd w+(zd:Int)^w.length*h:=by
 rw[CH];show _+_*(h+(zd:Int)*ze zd z)=_;rw[a,ym,qm]
theorem Co(o a e:Nat)(B H v lo z:List Int)(n j:Nat)(t h' X:Int)(V:v.length=n)(C:n<=9000)(h:lo.length=j)(T:j<=9000)(E:n+j<a)(D:j<e)(y:j<B.length)(M:Av zd v)(K:ze zd z=0)(u:Av zd z)(P: -2000000000<=h'/\h'<=2000000000)
  (S:0<=X/\X<(zd:Int)^n) (A:a=j+n+1+z.length)
  (m:∀r:List Int,r.length=n+1+z.length->Av zd r->ze zd r=X->Ends KW (L2 o v n a e (zf .i64<|(j:Int)-1) (B.set j t) (lo++r) H) Q):
  ∀(k i:Nat) (w:List Int) (c:Int),i+k=n->w.length=n->Av zd w->(0<=c/\c<=1)->ze zd w+(zd:Int)^n*h'=X-ze zd v+ze zd (v.take i)-(zd:Int)^i*c->
   Ends KW (L5 o v n a e j t c i B (lo++(w++h'::z)) H) Q
 |0,i,w,c,I,q,s,U,N=>by
  have I:i=n:=by omega
  subst I;have F:zf .i64 ((j:Int)+(i:Int))=((i+j:Nat):Int):=by rw[wr _ (by omega)<|by omega];omega
  have G:v.take i=v:=zj (by omega);rw[G]at N;have a1:=Az (b:=zd) (by decide) s;have a2:=Bl (b:=zd) (by decide) s;rw[q]at a2;have L:=AN (b:=zd) (by decide) i;have J:ze zd w+(zd:Int)^i*(h'+c)=X:=by rw[zK];omega
  have l:h'+c=0:=by
   rcases Int.lt_trichotomy (h'+c) 0 with g|g|g
   ·have:=zi (show h'+c<= -1 by omega)<|zu L;rw[qj,yd]at this;omega
   ·exact g
   ·have:=zi (show 1<=h'+c by omega)<|zu L;rw[yd]at this;omega
  have f:i+j<(lo++(w++h'::z)).length:=by simp;omega
  refine zn (DU ..) (zy (by simp) ?_);rw[F,zg,zg,gH h q,sH _ h q,wr (h'+c) (by omega) (by omega),l];have x:(decide ((0:Int)<=((i+j:Nat):Int))&&decide (((i+j:Nat):Int)<(a:Int)))=true:=by simp;omega
  refine zc x (zc (w4 f)<|zc x<|zc (w4 f)<|zc (by simp;omega)<|zc (w4 y)<|m _ (by simp;omega) (EE s<|fun d p=>?_) ?_)
  ·rcases y7.1 p with rfl|p
   ·decide
   ·exact u d p
  ·rw[Mv _ _ _ K,q, <-J,l]
 |k+1,i,w,c,I,q,s,U,N=>by
  have gx:=F6 M i;have Z:=F6 s i;have F:zf .i64 ((i:Int)+(j:Int))=((i+j:Nat):Int):=by rw[wr _ (by omega)<|by omega];omega
  have R:zf .i64 ((i:Int)+1)=((i+1:Nat):Int):=by rw[wr _ (by omega)<|by omega];omega
  have O:zf .i64 (zf .i64 (w.getD i 0+v.getD i 0)+c)=w.getD i 0+v.getD i 0+c:=by
   rw[wr (w.getD i 0+v.getD i 0) (by omega)<|by omega];exact wr _ (by omega) (by omega)
  have W:yv (w.getD i 0+v.getD i 0+c) 1000000000=(w.getD i 0+v.getD i 0+c) % 1000000000:=zx (by omega);have J:zf .i64 (zZ (w.getD i 0+v.getD i 0+c) 1000000000)=(w.getD i 0+v.getD i 0+c)/1000000000:=by
   rw[zt<|by omega];exact wr _ (by omega) (by omega)
  have f:i+j<(lo++(w++h'::z)).length:=by simp;omega
  refine zn (DU ..) (zc (by simp;omega) ?_);rw[F,R,zg,zg,gW h (by omega),sW _ h (by omega),O,W,J];have x:(decide ((0:Int)<=((i+j:Nat):Int))&&decide (((i+j:Nat):Int)<(a:Int)))=true:=by simp;omega
  refine zc x (zc (w4 f)<|zc (by simp;omega)<|zc rfl (zc x<|zc (w4 f)<|zc rfl ?_));refine Co o a e B H v lo z n j t h' X V C h T E D y M K u P S A m k (i+1) _ _ (by omega) (by simp[q]) (GC s i<|by show 0<=_/\_<(1000000000:Int);omega) (by omega) ?_;rw[G2 _ _ _ _ (by omega),I9,AD];have Y:(zd:Int)^i*((w.getD i 0+v.getD i 0+c) % 1000000000-w.getD i 0)=(zd:Int)^i*v.getD i 0+(zd:Int)^i*c-(zd:Int)^i*(1000000000*((w.getD i 0+v.getD i 0+c)/1000000000)):=by
   rw[<-zK, <-yi];congr 1;omega
  omega
theorem BP(g a b:Nat)(o y v lo z:List Int)(n j:Nat)(t h W:Int)(hn:v.length=n)(B:n<=9000)(e:lo.length=j)(X:j<=9000)(D:n+j<a)(C:j<b)(r:j<o.length)(K:Av zd v)(hh:0<=h/\h<1000000000)(s:a=j+n+1+z.length)(I:0<=t/\t<1000000000)
  (h0:∀(w:List Int) (h':Int),w.length=n->Av zd w->0<=h'->ze zd w+(zd:Int)^n*h'=W-t*ze zd v->Ends KW (L2 g v n a b (zf .i64<|(j:Int)-1) (o.set j t) (lo++(w++h'::z)) y) Q)
  (J:∀(w:List Int) (h':Int),w.length=n->Av zd w->h'<0-> -2000000000<=h'->ze zd w+(zd:Int)^n*h'=W-t*ze zd v->Ends KW (L5 g v n a b j (zf .i64<|t-1) 0 0 o (lo++(w++h'::z)) y) Q):
  ∀(k i:Nat) (w:List Int) (c:Int),i+k=n->w.length=n->Av zd w->(0<=c/\c<=1000000000)->ze zd w+(zd:Int)^n*h=W-t*ze zd (v.take i)+(zd:Int)^i*c->
   Ends KW (L4 g v n a b j t c i o (lo++(w++h::z)) y) Q
 |0,i,w,c,H,m,q,M,L=>by
  have H:i=n:=by omega
  subst H;have E:zf .i64 ((j:Int)+(i:Int))=((i+j:Nat):Int):=by rw[wr _ (by omega)<|by omega];omega
  have G:v.take i=v:=zj (by omega);rw[G]at L;have f:i+j<(lo++(w++h::z)).length:=by simp;omega
  have u:i+j<(lo++(w++(h-c)::z)).length:=by simp;omega
  have N:ze zd w+(zd:Int)^i*(h-c)=W-t*ze zd v:=by rw[yi];omega
  refine zn (Cf ..) (zy (by simp) ?_);rw[E,zg,zg,gH e m,wr (h-c) (by omega) (by omega),sH _ e m,gH e m];have l:(decide ((0:Int)<=((i+j:Nat):Int))&&decide (((i+j:Nat):Int)<(a:Int)))=true:=by simp;omega
  refine zc l<|zc (w4 f)<|zc l<|zc (w4 f)<|zc l<|zc (w4 u)<|zq (fun d=>?_)<|fun d=>?_
  ·have d:=w6 d;exact J w (h-c) m q d (by omega) N
  ·have d:=w7 d;exact zc (by simp;omega) (zc (w4 r)<|h0 w (h-c) m q (by omega) N)
 |k+1,i,w,c,H,m,q,M,L=>by
  have Z:=F6 K i;have U:=F6 q i;obtain⟨Y,S,R,T,m5,m6,m7⟩:=Rx I Z U M;have E:zf .i64 ((i:Int)+(j:Int))=((i+j:Nat):Int):=by rw[wr _ (by omega)<|by omega];omega
  have V:zf .i64 ((i:Int)+1)=((i+1:Nat):Int):=by rw[wr _ (by omega)<|by omega];omega
  have f:i+j<(lo++(w++h::z)).length:=by simp;omega
  have l:(decide ((0:Int)<=((i+j:Nat):Int))&&decide (((i+j:Nat):Int)<(a:Int)))=true:=by simp;omega
  have go:∀(x p:Int),(0<=x/\x<1000000000)->(0<=p/\p<=1000000000)->c+(x-w.getD i 0)=1000000000*p-t*v.getD i 0->Ends KW (L4 g v n a b j t p ((i+1:Nat):Int) o (lo++(w.set i x++h::z)) y) Q:=by
   intro x p O F A;refine BP g a b o y v lo z n j t h W hn B e X D C r K hh s I h0 J k (i+1) _ _ (by omega) (by simp[m]) (GC q i O) F ?_;rw[G2 _ _ _ _ (by omega),I9,AD,zK t,zW t];have e6:(zd:Int)^i*c+(zd:Int)^i*(x-w.getD i 0)=(zd:Int)^i*(1000000000*p)-(zd:Int)^i*(t*v.getD i 0):=by
    rw[<-zK, <-yi,A]
   omega
  refine zn (Cf ..) (zc (by simp;omega) ?_);rw[E,V,zg,zg,gW e (by omega),Y,S,R,T,m5,sW _ e (by omega),sW _ e<|by omega];refine zc (by simp;omega)<|zc l<|zc (w4 f)<|zc rfl (zc rfl (zq (fun d=>?_)<|fun d=>?_))
  ·have d:=w6 d;rw[wr (w.getD i 0-(t*v.getD i 0+c) % 1000000000+1000000000) (by omega)<|by omega];refine zc l (zc (w4 f) (go _ _ (by omega) (by omega) ?_));generalize t*v.getD i 0=P at*;omega
  ·have d:=w7 d;refine zc l (zc (w4 f)<|go _ _ (by omega) (by omega) ?_);generalize t*v.getD i 0=P at*;omega
theorem kF(i h f:Nat)(y E v lo e:List Int)(n j:Nat)(H:v.length=n)(p:n<=9000)(u:lo.length=j)(M:j<=9000)(X:n+1<=e.length)(L:h=j+e.length)(s:j<f)(t:j<y.length)(D:Av zd v)(B:Av zd e)(C:ze zd (e.drop<|n+1)=0)
  (k:∀(q:Int) (r:List Int),r.length=e.length->Av zd r->(0<=q/\q<1000000000)->ze zd r<ze zd v->ze zd r=ze zd e-q*ze zd v->Ends KW (L2 i v n h f (zf .i64<|(j:Int)-1) (y.set j q) (lo++r) E) Q)
  (q:Int) (N:0<=q/\q<1000000000) (O:ze zd e<(q+1)*ze zd v) (V:q*ze zd v<ze zd e+ze zd v):
  Ends KW (L4 i v n h f j q 0 0 y (lo++e) E) Q:=by
 have l:e=e.take n++e.getD n 0::e.drop (n+1):=by
  rw[<-Cm (by omega)];exact(yb n e).symm
 have gh:=F6 B n;have I:=AL B n;have m:=Eb B<|n+1;have o:(e.take n).length=n:=by rw[zw];omega
 have U:(e.drop<|n+1).length=e.length-(n+1):=zp ..;have hW:ze zd e=ze zd (e.take n)+(zd:Int)^n*e.getD n 0:=by
  conv=>lhs;rw[l]
  rw[Mv _ _ _ C,o]
 have A:=Bl (b:=zd) (by decide) D;rw[H]at A;have P:=Az (b:=zd) (by decide) D;have R:=Az (b:=zd) (by decide) B;have K:=AN (b:=zd) (by decide) n;rw[Int.add_mul,zX]at O;rw[l];refine BP i h f y E v lo (e.drop<|n+1) n j q (e.getD n 0) (ze zd e) H p u M (by omega) s t D gh (by omega) N (fun w h' a b c d=>?_) (fun w h' a b c Y d=>?_) n 0 (e.take n) 0 (by omega) o I (by decide) (by rw[<-hW];simp[ze])
 ·have J:=Az (b:=zd) (by decide) b;have G:h'=0:=by
   rcases zP 0 h' with g|g
   ·have:=zi (show 1<=h' by omega)<|zu K;omega
   ·omega
  refine k q _ (by simp;omega) (EE b<|fun x F=>?_) N ?_ ?_
  ·rcases y7.1 F with rfl|F
   ·rw[G];decide
   ·exact m x F
  ·rw[Mv _ _ _ C,a,d];omega
  ·rw[Mv _ _ _ C,a,d]
 ·have J:=Bl (b:=zd) (by decide) b;rw[a]at J;have z:ze zd e-q*ze zd v<0:=by
   have:=zi (show h'<= -1 by omega)<|zu K;rw[qj,yd]at this;omega
  have T:1<=q:=by
   rcases zP 0 q with g|g
   ·exact g
   ·have:q=0:=by omega
    subst this;rw[Int.zero_mul]at z;omega
  rw[wr (q-1) (by omega)<|by omega];refine Co i h f y E v lo (e.drop<|n+1) n j (q-1) h' (ze zd e-q*ze zd v+ze zd v) H p u M (by omega) s t D C m (by omega) (by omega) (by omega) (fun r W b' S=>?_) n 0 w 0 (by omega) a b (by decide) (by rw[d];simp[ze]<;>omega);refine k (q-1) r (by omega) b' (by omega) (by omega) ?_;rw[S,Int.sub_mul,zX];omega
theorem CT(l e i:Nat)(o z v lo h:List Int)(a2 a1 a0:List Int)(k j:Nat)(P:v.length=k+2)(A:k+2<=9000)(w:lo.length=j)(W:j<=9000)(hr:k+3<=h.length)(n:e=j+h.length)(C:j<i)(D:j<o.length)(y:Av zd v)(u:Av zd h)(K:ze zd (h.drop<|k+3)=0)(I:1<=v.getD (k+1) 0)
  (F:h.getD (k+2) 0<=v.getD (k+1) 0) (N:ze zd h<1000000000*ze zd v)
  (s:∀(q:Int) (r:List Int),r.length=h.length->Av zd r->(0<=q/\q<1000000000)->ze zd r<ze zd v->ze zd r=ze zd h-q*ze zd v->Ends KW (L2 l v ((k+2:Nat):Int) e i (zf .i64<|(j:Int)-1) (o.set j q) (lo++r) z) Q):
  ∀(f:Nat) (q r:Int),0<=q->q<f->q<=2000000000000000000->(0<=r/\r<1000000000)->q*v.getD (k+1) 0+r=h.getD (k+2) 0*1000000000+h.getD (k+1) 0->ze zd h<(q+1)*ze zd v->
   Ends KW (L3 l v ((k+2:Nat):Int) e i j a2 a1 a0 e v j ((k+2:Nat):Int) q r o (lo++h) z) Q
 |0,q,r,h0,hf,_,_,_,_=>by omega
 |f+1,q,r,h0,hf,Y,hr1,X,T=>by
  have x:=F6 y k;have gv1:=F6 y<|k+1;have gu2:=F6 u k;have gu1:=F6 u<|k+1;have hP:=AN (b:=zd) (by decide) k;have hW:=gC zd h k (by omega) K;have Z:=fI zd v k P;have U:=Az (b:=zd) (by decide)<|AL u k;have t:=Bl (b:=zd) (by decide)<|AL u k;have E:=Az (b:=zd) (by decide)<|AL y k;have p:=Bl (b:=zd) (by decide)<|AL y k;have L:=Az (b:=zd) (by decide) y;rw[zw,ye<|by omega]at t p;have exit:∀q R:Int,0<=q->q<1000000000->q*v.getD (k+1) 0+R=h.getD (k+2) 0*1000000000+h.getD (k+1) 0->ze zd h<(q+1)*ze zd v->q*v.getD k 0<=R*1000000000+h.getD k 0->Ends KW (L4 l v ((k+2:Nat):Int) e i j q 0 0 o (lo++h) z) Q:=by
   intro q R q0 q1 S M J;refine kF l e i o z v lo h (k+2) j P A w W hr n C D y u K s q ⟨q0,q1⟩ M ?_;rw[hW,Z];exact Sf hP ⟨E,p⟩ U ⟨q0,q1⟩ I x.1 S J
  have e1:zf .i64 (((k+2:Nat):Int)-2)=(k:Int):=by rw[wr _ (by omega)<|by omega];omega
  have e2:zf .i64 (((k+2:Nat):Int)-1)=((k+1:Nat):Int):=by rw[wr _ (by omega)<|by omega];omega
  have e3:zf .i64 (zf .i64 ((j:Int)+((k+2:Nat):Int))-2)=((k+j:Nat):Int):=by
   rw[wr ((j:Int)+((k+2:Nat):Int)) (by omega) (by omega),wr _ (by omega)<|by omega];omega
  have g3:(lo++h).getD (k+j) 0=h.getD k 0:=Gn _ _ _ _ w;have V:(decide ((0:Int)<=((k+1:Nat):Int))&&decide (((k+1:Nat):Int)<(v.length:Int)))=true:=by simp;omega
  have H:ze zd h<q*ze zd v->Ends KW (.ite (decide (zf .i64 (r+v.getD (k+1) 0)>=(1000000000:Int))) (L4 l v ((k+2:Nat):Int) e i j (zf .i64<|q-1) 0 0 o (lo++h) z)<|L3 l v ((k+2:Nat):Int) e i j a2 a1 a0 e v j ((k+2:Nat):Int) (zf .i64<|q-1) (zf .i64<|r+v.getD (k+1) 0) o (lo++h) z) Q:=by
   intro J;have hW0:=Az (b:=zd) (by decide) u;have hq1:1<=q:=by
    rcases zP 0 q with g|g
    ·exact g
    ·have:q=0:=by omega
     subst this;rw[Int.zero_mul]at J;omega
   have G:(q-1)*v.getD (k+1) 0+(r+v.getD (k+1) 0)=h.getD (k+2) 0*1000000000+h.getD (k+1) 0:=by rw[Int.sub_mul,zX];omega
   have m:ze zd h<(q-1+1)*ze zd v:=by rw[show q-1+1=q by omega];exact J
   rw[wr (q-1) (by omega) (by omega),wr (r+v.getD (k+1) 0) (by omega)<|by omega];refine zq (fun c=>?_)<|fun c=>?_
   ·have c:=w6 c;have O:q-1<1000000000:=by
     rcases zP (q-1) 1000000000 with g|g
     ·exact g
     ·have a:=zk g (show 0<=v.getD (k+1) 0 by omega);have b:=zk F (show(0:Int)<=1000000000 by omega);omega
    refine exit (q-1) _ (by omega) O G m ?_;have a:=zi (show v.getD k 0<=999999999 by omega) (show 0<=q-1 by omega);omega
   ·have c:=w7 c;exact CT l e i o z v lo h a2 a1 a0 k j P A w W hr n C D y u K I F N s f (q-1) _ (by omega) (by omega) (by omega) (by omega) G m
  refine zn (BE ..) ?_;conv=>zeta
  rw[e1,e2,e3,zg,zg,zg,g3];refine zq (fun c=>zc V<|H ?_) (fun c=>zc (by simp;omega) (zc (by simp;omega)<|zc (by simp;omega)<|zq (fun d=>zc V<|H ?_)<|fun d=>?_))
  ·have c:=w6 c;have:=zk c L;omega
  ·have c:=w7 c;have d:=w6 d;have a:=zi (show v.getD k 0<=999999999 by omega) h0;have b:=zO h0 x.1;rw[wr (q*v.getD k 0) (by omega) (by omega),wr (r*1000000000) (by omega) (by omega),wr _ (by omega)<|by omega]at d;have:=Sy (B:=zd) (u0:=h.getD (k+2) 0) (u1:=h.getD (k+1) 0) (u2:=h.getD k 0) hP E t h0 (v1:=v.getD (k+1) 0) (v2:=v.getD k 0) (r:=r) X d;rw[<-hW, <-Z]at this;exact this
  ·have c:=w7 c;have d:=w7 d;have a:=zi (show v.getD k 0<=999999999 by omega) h0;have b:=zO h0 x.1;rw[wr (q*v.getD k 0) (by omega) (by omega),wr (r*1000000000) (by omega) (by omega),wr _ (by omega)<|by omega]at d;exact exit q r h0 (by omega) X T (by omega)
end T154
theorem Fx{w:List Int}(b:Av zd w)(a:Sp.nz w){k:Nat}(c:w.length=k+1):0<w.getD k 0/\w.getD k 0<1000000000:=by
 have g:=F6 b k;refine⟨?_,g.2⟩;have e:w.getLast?=some (w.getD k 0):=by
  rw[yw,c,z7,zR,yy<|by omega];rfl
 unfold Sp.nz at a;rw[e]at a;have:w.getD k 0≠0:=fun h=>a (by rw[h])
 omega
theorem D5(d:Int):ze zd [d]=d:=by simp[ze]
namespace T154
variable {Q:PV->Ob->Prop}
theorem AV(v:List Int)(k h:Nat)(f:Int)(Y:0<f/\f<1000000000)(C:v.length=k+2)(hla:h<=9000)(W:k+2<=h)(w:Av zd v)(F:1<=v.getD (k+1) 0)(U:Int)
  (hq:∀(u c:List Int) ob,Av zd u->Av zd c->ze zd u<ze zd v->U=ze zd u+ze zd v*ze zd c->Q (.tup [.dat li<|At c,.dat li<|BL<|ze zd u/f]) ob):
  ∀(t:Nat) (u c:List Int),t+c.length=h-(k+2)+1->u.length=h+1->Av zd u->Av zd c->ze zd (u.drop t)<ze zd v->U=ze zd u+ze zd v*((zd:Int)^t*ze zd c)->
   Ends KW (L2 1 v ((k+2:Nat):Int) (h+1) (h-(k+2)+1) ((t:Int)-1) (zo t 0++c) u [f]) Q
 |0,u,c,hl,hu,s,A,n,M=>by
  have n:ze zd u<ze zd v:=n;have p:=Bl (b:=zd) (by decide) w;rw[C]at p;have G:ze zd (u.drop<|k+2)=0:=Iu (b:=zd) (by decide) s (by omega) (by omega);have H:ze zd (u.take<|k+2)=ze zd u:=by
   rw[Ck zd u (k+2) (by omega),G,ym,qm]
  have ht:(zo 0 0++c).take (h-(k+2)+1)=c:=by
   rw[List.replicate_zero,yr];exact zj (by omega)
  have T:=GS<|AL s<|k+2;have hlr:(At<|u.take<|k+2).length<=9000:=by
   rw[E4<|AL s<|k+2];refine Nat.le_trans (My (k:=k+2) (Az (by decide)<|AL s<|k+2) ?_) (by omega);show ze zd (u.take<|k+2)<_;rw[H];omega
  have S:Ar (At<|u.take<|k+2)=ze zd u:=by
   show ze zd (At _)=_;rw[Ij,H]
  refine zn (AK ..) (zy (by simp) ?_);rw[zg,ht,S];refine zc (by simp;omega) (zc rfl (zc rfl (zc (by simp;omega)<|zc (Aa (Aa (JW (by omega) T)<|w4 Y.1)<|w4 Y.2)<|zc (by simp;omega)<|zm<|hq u c _ s A n<|by rw[M,zQ,zX])))
 |j+1,u,c,hl,hu,s,A,n,M=>by
  obtain⟨lo,r,rfl,m⟩:∃lo r:List Int,u=lo++r/\lo.length=j:=⟨u.take j,u.drop j,(yb j u).symm,by rw[zw];omega⟩;have I:Av zd lo:=fun d g=>s d<|List.mem_append.2<|.inl g
  have e:Av zd r:=fun d g=>s d<|List.mem_append.2<|.inr g
  have hrl:r.length=h+1-j:=by rw[zS]at hu;omega
  have o:∀z:List Int,(lo++z).drop j=z:=fun z=>by rw[<-m];exact List.drop_left
  have V:r=r.getD 0 0::r.drop 1:=by
   have:=Cm (l:=r) (i:=0) (by omega);rw[List.drop_zero]at this;exact this
  have hd1:(lo++r).drop (j+1)=r.drop 1:=by rw[Nat.add_comm j 1,Nat.add_comm 1 j, <-List.drop_drop,o]
  rw[hd1]at n;have g0:=F6 e 0;have P:ze zd r=r.getD 0 0+1000000000*ze zd (r.drop 1):=by
   conv=>lhs;rw[V]
   rfl
  have p:=Bl (b:=zd) (by decide) w;rw[C]at p;have hrV:ze zd r<1000000000*ze zd v:=by rw[P];omega
  have G:ze zd (r.drop<|k+3)=0:=by
   refine Iu (b:=zd) (by decide) e (by omega) ?_;have ep:(zd:Int)^(k+3)=(zd:Int)^(k+2)*1000000000:=zr ..;rw[ep];omega
  have gu0:=F6 e<|k+2;have gu1:=F6 e<|k+1;have gu2:=F6 e k;have gv1:=F6 w<|k+1;have N:=F6 w k;have hP:=AN (b:=zd) (by decide) k;have hW:=gC zd r k (by omega) G;have hV:=fI zd v k C;have x:=Bl (b:=zd) (by decide)<|AL e k;have L:=Az (b:=zd) (by decide)<|AL w k;rw[zw,ye<|by omega]at x;have Z:r.getD (k+2) 0<=v.getD (k+1) 0:=by
   have a1:=Ck zd (r.drop 1) (k+1) (by rw[zp];omega);have a2:(r.drop 1).drop (k+1)=r.getD (k+2) 0::r.drop (k+3):=by
    rw[List.drop_drop,show 1+(k+1)=k+2 by omega];exact Cm (by omega)
   have a3:ze zd (r.getD (k+2) 0::r.drop (k+3))=r.getD (k+2) 0:=by
    show r.getD (k+2) 0+(zd:Int)*ze zd (r.drop<|k+3)=_;rw[G];omega
   rw[a2,a3]at a1;have b1:ze zd v=ze zd (v.take<|k+1)+(zd:Int)^(k+1)*v.getD (k+1) 0:=by
    rw[<-AD,zj<|by omega]
   have K:=Bl (b:=zd) (by decide)<|AL w<|k+1;rw[zw,ye<|by omega]at K;have c1:=Az (b:=zd) (by decide)<|AL (Eb e 1)<|k+1;have c2:(zd:Int)^(k+1)*r.getD (k+2) 0<(zd:Int)^(k+1)*(v.getD (k+1) 0+1):=by
    rw[zK,yd];omega
   have:=zM c2 (zu<|AN (by decide)<|k+1);omega
  have J:∀(q:Int) (B:List Int),B.length=r.length->Av zd B->(0<=q/\q<1000000000)->ze zd B<ze zd v->ze zd B=ze zd r-q*ze zd v->Ends KW (L2 1 v ((k+2:Nat):Int) (h+1) (h-(k+2)+1) (zf .i64<|(j:Int)-1) ((zo (j+1) 0++c).set j q) (lo++B) [f]) Q:=by
   intro q B h1 h2 h3 h4 h5;have es:(zo (j+1) (0:Int)++c).set j q=zo j 0++(q::c):=by
    rw[List.replicate_succ',yn];exact C9 _ _ _ _ (by simp)
   rw[es,wr ((j:Int)-1) (by omega)<|by omega];refine AV v k h f Y C hla W w F U hq j (lo++B) (q::c) (by simp;omega) (by simp;omega) (EE I h2) (fun d g=>?_) (by rw[o];exact h4) ?_
   ·rcases y7.1 g with rfl|g
    ·exact h3
    ·exact A d g
   ·rw[M,CH,CH,m,h5,I9];show ze zd lo+(zd:Int)^j*ze zd r+ze zd v*((zd:Int)^j*(1000000000*ze zd c))=ze zd lo+(zd:Int)^j*(ze zd r-q*ze zd v)+ze zd v*((zd:Int)^j*(q+1000000000*ze zd c));have x1:ze zd v*((zd:Int)^j*q)=(zd:Int)^j*(q*ze zd v):=by
     rw[zW,zz (ze zd v) q]
    rw[yi,zK ((zd:Int)^j) q,zK<|ze zd v,x1];omega
  have e0:(((j+1:Nat):Int)-1)=(j:Int):=by omega
  have S:zf .i64 ((j:Int)+((k+2:Nat):Int))=((k+2+j:Nat):Int):=by rw[wr _ (by omega)<|by omega];omega
  have e2:zf .i64 (((k+2+j:Nat):Int)-1)=((k+1+j:Nat):Int):=by rw[wr _ (by omega)<|by omega];omega
  have e3:zf .i64 (((k+2:Nat):Int)-1)=((k+1:Nat):Int):=by rw[wr _ (by omega)<|by omega];omega
  have g1:(lo++r).getD (k+2+j) 0=r.getD (k+2) 0:=Gn _ _ _ _ m;have g2:(lo++r).getD (k+1+j) 0=r.getD (k+1) 0:=Gn _ _ _ _ m;have O:(lo++r).length=h+1:=hu;have E:zf .i64 (zf .i64 (r.getD (k+2) 0*1000000000)+r.getD (k+1) 0)=r.getD (k+2) 0*1000000000+r.getD (k+1) 0:=by
   rw[wr (r.getD (k+2) 0*1000000000) (by omega)<|by omega];exact wr _ (by omega) (by omega)
  have a:0<=r.getD (k+2) 0*1000000000+r.getD (k+1) 0:=by omega
  have D:0<=(r.getD (k+2) 0*1000000000+r.getD (k+1) 0)/v.getD (k+1) 0:=qh a (by omega);have hqs:(r.getD (k+2) 0*1000000000+r.getD (k+1) 0)/v.getD (k+1) 0<=r.getD (k+2) 0*1000000000+r.getD (k+1) 0:=Int.ediv_le_self _ a;have y:=zT (r.getD (k+2) 0*1000000000+r.getD (k+1) 0)<|v.getD (k+1) 0;have R:=yf (r.getD (k+2) 0*1000000000+r.getD (k+1) 0) (show v.getD (k+1) 0≠0 by omega);have X:=z8 (r.getD (k+2) 0*1000000000+r.getD (k+1) 0) (show 0<v.getD (k+1) 0 by omega);rw[zz]at y;have et:zf .i64 (zZ (r.getD (k+2) 0*1000000000+r.getD (k+1) 0)<|v.getD (k+1) 0)=(r.getD (k+2) 0*1000000000+r.getD (k+1) 0)/v.getD (k+1) 0:=by
   rw[zt a];exact wr _ (by omega) (by omega)
  have em:yv (r.getD (k+2) 0*1000000000+r.getD (k+1) 0) (v.getD (k+1) 0)=(r.getD (k+2) 0*1000000000+r.getD (k+1) 0) % v.getD (k+1) 0:=zx a;have K:(decide ((0:Int)<=((k+1:Nat):Int))&&decide (((k+1:Nat):Int)<((k+2:Nat):Int)))=true:=by simp;omega
  have bn:decide (v.getD (k+1) 0≠0)=true:=w4 (by omega);rw[e0];refine zn (AK ..) (zc (by simp) ?_);rw[C,S,e2,e3,zg,zg,zg,g1,g2,E,et,em,O];refine zc (by simp;omega) (zc (w4<|by omega) (zc (by simp;omega)<|zc (w4<|by omega)<|zc K<|zc bn<|zc K<|zc bn ?_));refine CT 1 (h+1) (h-(k+2)+1) _ [f] v lo r _ _ _ k j C (by omega) m (by omega) (by omega) (by omega) (by omega) (by simp;omega) w e G F Z hrV J (((r.getD (k+2) 0*1000000000+r.getD (k+1) 0)/v.getD (k+1) 0).toNat+1) _ _ D (by omega) (by omega) ⟨R,by omega⟩ y ?_;rw[hW,hV];exact LA hP (by decide) D L N.1 x gu2.2 y X
theorem An(a v:List Int)(n b:Nat)(f:Int)(g:a.length=b)(c:b<=9000)(i:n<=b)(k:∀u:List Int,u.length=b+1->Av zd u->ze zd u=ze zd a*f->Ends KW (L2 1 v n (b+1) (b-n+1) (((b-n+1:Nat):Int)-1) (zo (b-n+1) 0) u [f]) Q):
  ∀(m:Nat) (u:List Int),u.length+m=b+1->Av zd u->ze zd u=ze zd a*f->Ends KW (L1 a 1 v n u.length u [f]) Q
 |0,u,o,e,h=>by
  have j:zf .i64 ((a.length:Int)+1)=((b+1:Nat):Int):=by rw[wr _ (by omega)<|by omega];omega
  have l:zf .i64 ((u.length:Int)-(n:Int))=((b-n+1:Nat):Int):=by rw[wr _ (by omega)<|by omega];omega
  have p:zf .i64 (((b-n+1:Nat):Int)-1)=((b-n+1:Nat):Int)-1:=wr _ (by omega) (by omega);refine zn (Al ..) ?_;conv=>zeta
  rw[j,l,p,zg];refine zy (by simp;omega) (zc (by simp;omega) ?_);have d:u.length=b+1:=by omega
  rw[d];exact k u d e h
 |m+1,u,o,e,h=>by
  have j:zf .i64 ((a.length:Int)+1)=((b+1:Nat):Int):=by rw[wr _ (by omega)<|by omega];omega
  refine zn (Al ..) ?_;conv=>zeta
  rw[j];refine zc (by simp;omega) (zc (by simp;omega) ?_);have:=An a v n b f g c i k m (u++[0]) (by simp;omega) (EO e<|by decide) (by rw[B4,ym,qm];exact h);rw[zS]at this;exact this
set_option maxHeartbeats 1000000 in
theorem ok:Ag Bm 154 P7:=by
 refine Cj lQ<|fun(i:List Int×List Int) E=>?_;obtain⟨a,b⟩:=i;have E:(AZ a&&AZ b&&decide (a.length<=9000)&&decide (b.length<=9000)&&decide (0<Ar b))=true:=E;rw[zh,zh,zh,zh,w5,w5,w5]at E;obtain⟨⟨⟨⟨na,nb⟩,la9⟩,lb9⟩,j⟩:=E;obtain⟨_,da,za⟩:=Bd na;obtain⟨_,db,zb⟩:=Bd nb;have j:0<ze zd b:=j;have p:=Az (b:=zd) (by decide) da;have U:∀q r ob,q=BL (Ar a/Ar b)->r=BL (Ar a % Ar b)->Ad P7 (a,b) (PV.tup [PV.dat li q,PV.dat li r]) ob:=fun q r ob P J=>ya rfl rfl (Prod.ext P J)
 have l:b≠[]:=by rintro rfl;simp[ze]at j
 have R:b.length≠0:=fun h=>l<|zL.1 h
 refine zV (Ap a b) (zc (by rw[na,nb];rfl)<|zq (fun c=>?_)<|fun c=>?_)
 ·have c:=w6 c;have v:ze zd a<ze zd b:=by
   unfold BY at c;have c:(if ze zd a<ze zd b then(-1:Int)else if ze zd a>ze zd b then 1 else 0)<0:=c;split at c
   ·assumption
   ·split at c<;>omega
  refine zm<|ya rfl rfl ?_;show([],a)=(BL<|ze zd a/ze zd b,BL<|ze zd a % ze zd b);rw[qd p v,Int.emod_eq_of_lt p v];exact Prod.ext rfl (I3 (by decide) da za)
 ·have c:=w7 c;have hge:ze zd b<=ze zd a:=by
   rcases zP (ze zd a) (ze zd b)with g|g
   ·have:BY (Ar a) (Ar b)= -1:=wd g;omega
   ·exact g
  have hll:b.length<=a.length:=by
   rcases Nat.lt_or_ge a.length b.length with g|g
   ·have:=Ei (b:=zd) (by decide) da db zb g;omega
   ·exact g
  refine zq (fun s=>?_)<|fun s=>?_
  ·have s:b.length=1:=by
    have:(b.length:Int)=1:=by simpa using s
    omega
   obtain⟨d,rfl⟩:=qe.1 s;have F:0<d/\d<1000000000:=Fx (k:=0) db zb rfl;have m0:=yf (ze zd a) (show d≠0 by omega);have m1:=z8 (ze zd a) F.1;refine zc rfl (zc (Aa (Aa (JW (by omega) da)<|w4 F.1)<|w4 F.2)<|zc rfl (zm<|U _ _ _ ?_ ?_))
   ·show BL (ze zd a/d)=BL (ze zd a/ze zd [d]);rw[D5]
   ·show At [ze zd a % d]=BL (ze zd a % ze zd [d]);rw[D5,E4<|fun x o=>by rw[yg]at o;subst o;show 0<=_/\_<(1000000000:Int);omega];show BL (ze zd [_])=_;rw[D5]
  ·have s:b.length≠1:=by
    have:(b.length:Int)≠1:=by simpa using s
    omega
   obtain⟨k,D⟩:∃k,b.length=k+2:=⟨b.length-2,by omega⟩;obtain⟨y0,y1⟩:=Fx (k:=k+1) db zb D;have P:zf .i64 (((k+2:Nat):Int)-1)=((k+1:Nat):Int):=by rw[wr _ (by omega)<|by omega];omega
   have J:zf .i64 (b.getD (k+1) 0+1)=b.getD (k+1) 0+1:=wr _ (by omega) (by omega);have f0:0<1000000000/(b.getD (k+1) 0+1):=by
    have:=Int.le_ediv_of_mul_le (a:=1) (b:=1000000000) (c:=b.getD (k+1) 0+1) (by omega) (by omega);omega
   have f1:1000000000/(b.getD (k+1) 0+1)<1000000000:=Int.ediv_lt_of_lt_mul (by omega) (by omega);have f2:1000000000/(b.getD (k+1) 0+1)*(b.getD (k+1) 0+1)<=1000000000:=Int.ediv_mul_le _ (by omega);have e3:zf .i64 (zZ 1000000000<|b.getD (k+1) 0+1)=1000000000/(b.getD (k+1) 0+1):=by
    rw[zt<|by decide];exact wr _ (by omega) (by omega)
   rw[D,P,zg,J,e3];generalize 1000000000/(b.getD (k+1) 0+1)=f at*;have L:Av zd [f]:=fun x o=>by rw[yg]at o;subst o;show 0<=_/\_<(1000000000:Int);omega
   have I:Ar [f]=f:=D5 f;rw[I];have T:(zd:Int)^(k+1)<=ze zd b*f:=by
    have a1:=C2 (b:=zd) (by decide) db zb l;rw[D,show k+2-1=k+1 by omega]at a1;have a2:=zi (show 1<=f by omega)<|zu j;omega
   have M:ze zd b*f<(zd:Int)^(k+2):=by
    have b1:ze zd b=ze zd (b.take<|k+1)+(zd:Int)^(k+1)*b.getD (k+1) 0:=by
     rw[<-AD,zj<|by omega]
    have b2:=Bl (b:=zd) (by decide)<|AL db<|k+1;rw[zw,ye<|by omega]at b2;have hp:=AN (b:=zd) (by decide)<|k+1;have b3:ze zd b<(zd:Int)^(k+1)*(b.getD (k+1) 0+1):=by
     rw[zK,yd];omega
    have b4:=yc b3 f0;have b5:=zi f2<|zu hp;have b6:(zd:Int)^(k+2)=(zd:Int)^(k+1)*1000000000:=zr ..;rw[zN,zz (b.getD (k+1) 0+1) f]at b4;omega
   have G:0<=ze zd b*f:=zO (zu j) (by omega);have t:0<=ze zd a*f:=zO p (by omega);have N:ze zd a*f<(zd:Int)^(a.length+1):=by
    have a1:=Bl (b:=zd) (by decide) da;have a2:=yc a1 f0;have a3:=zi (show f<=1000000000 by omega) (zu<|AN (b:=zd) (by decide) a.length);have a4:(zd:Int)^(a.length+1)=(zd:Int)^a.length*1000000000:=zr ..;omega
   have vd:=G9 (b:=zd) (by decide)<|ze zd b*f;have V:=WL (b:=zd) (by decide)<|ze zd b*f;have C:ze zd (Sp.dg zd<|ze zd b*f)=ze zd b*f:=C1 (by decide) G;have Y:=cR (b:=zd) (by decide) vd V (k:=k+1) (by rw[C];exact T) (by rw[C];exact M);have v1:=(Fx vd V Y).1;have ud:=G9 (b:=zd) (by decide)<|ze zd a*f;have uv:ze zd (Sp.dg zd<|ze zd a*f)=ze zd a*f:=C1 (by decide) t;have ul:=My (k:=a.length+1) t N;have y:Sp.hR [f]=true:=Qc (by simp) L;have bd:decide ((3*(0+(BL<|Ar a*f).length)+2000)*8<=562949953421312)=true:=w4 (by have:(BL<|Ar a*f).length<=a.length+1:=ul;omega);refine zc (by simp;omega) (zc (w4<|by omega)<|zc (by rw[Qc lb9 db,y];rfl)<|zc (by rw[Qc la9 da,y];rfl)<|zc bd ?_);have ez:qp 0 (BL<|Ar a*f).length=(BL<|Ar a*f).length:=Nat.zero_add _;have B:(BL<|Ar b*f).length=k+2:=Y;rw[ez,yr,B];refine An a (BL<|Ar b*f) (k+2) a.length f rfl la9 (by omega) (fun u K A H=>?_) (a.length+1-(BL<|Ar a*f).length) (BL<|Ar a*f) (by have:(BL<|Ar a*f).length<=a.length+1:=ul;omega) ud uv;have z:=AN (b:=zd) (by decide)<|a.length-(k+2)+1;have start:ze zd (u.drop<|a.length-(k+2)+1)<ze zd (BL<|Ar b*f):=by
    have a1:=Ck zd u (a.length-(k+2)+1) (by omega);have a2:=Az (b:=zd) (by decide)<|AL A<|a.length-(k+2)+1;have a3:=Bl (b:=zd) (by decide) da;have a4:=yc a3 f0;have a5:(zd:Int)^a.length=(zd:Int)^(a.length-(k+2)+1)*(zd:Int)^(k+1):=by rw[<-Int.pow_add,show a.length-(k+2)+1+(k+1)=a.length by omega]
    have X:=C2 (b:=zd) (by decide) db zb l;rw[D,show k+2-1=k+1 by omega]at X;have a7:=zk X (show 0<=f by omega);have a8:=zi a7<|zu z;rw[a5,zN]at a4;show _<ze zd (Sp.dg zd<|ze zd b*f);rw[C];refine zM (a:=(zd:Int)^(a.length-(k+2)+1)) ?_<|zu z;omega
   have go:=AV (Q:=Ad P7 (a,b)) (BL<|Ar b*f) k a.length f ⟨f0,f1⟩ B la9 (by omega) vd (by have:0<(BL<|Ar b*f).getD (k+1) 0:=v1;omega) (ze zd a*f) (fun Z n ob w O m W=>by
    have S:ze zd (BL<|Ar b*f)=ze zd b*f:=C;rw[S]at W m;have e:ze zd Z=f*(ze zd a-ze zd n*ze zd b):=by
     have x1:ze zd b*f*ze zd n=f*(ze zd n*ze zd b):=by
      rw[zz (ze zd b) f,zN,zz<|ze zd b]
     rw[x1,zz<|ze zd a]at W;rw[yi];omega
    have h0:=Az (b:=zd) (by decide) w;have r0:0<=ze zd a-ze zd n*ze zd b:=by
     rw[e]at h0;exact Int.nonneg_of_mul_nonneg_right h0 f0
    have r1:ze zd a-ze zd n*ze zd b<ze zd b:=by
     rw[e,zz (ze zd b) f]at m;exact zM m (by omega)
    obtain⟨u1,u2⟩:=(zU (a:=ze zd a) (b:=ze zd b) (r:=ze zd a-ze zd n*ze zd b) (q:=ze zd n) j).2 ⟨by rw[zz<|ze zd b];omega,r0,r1⟩;refine U _ _ ob ?_ ?_
    ·rw[E4 O];show BL (ze zd n)=BL (ze zd a/ze zd b);rw[u1]
    ·show BL (ze zd Z/f)=BL (ze zd a % ze zd b);rw[u2,e,yz _<|by omega]) (a.length-(k+2)+1) u [] (by simp) K A (fun x o=>by cases o) start (by rw[H];simp[ze])
   rw[yp]at go;exact go
end T154
theorem iQ:D3 sG:=Ac T154.ok AP
namespace T130
variable {Q:PV->Ob->Prop}
theorem An(g:Nat)(L:Int)(c:∀n:Nat,(n:Int)<L->AZ (BL (n:Int))=true/\Ar (BL (n:Int))=n/\(BL (n:Int)).length<=9000)(d:∀ob,Q (.dat li<|BL (g:Int)) ob):∀(f x y:Nat),y<f->qo x y=g->(x:Int)<L->(y:Int)<L->
  Ends sG (L1 (BL (x:Int))<|BL (y:Int)) Q
 |0,x,y,h,_,_,_=>by omega
 |f+1,x,y,m,b,k,a=>by
  obtain⟨nx,i,j⟩:=c x k;obtain⟨ny,vy,ly⟩:=c y a
  refine zn (Al ..) ?_;conv=>zeta
  by_cases h0:y=0
  ·subst h0;rw[Nat.gcd_zero_right]at b;subst b;exact zy rfl (zm<|d _)
  ·have e:x % y<y:=Nat.mod_lt _ (by omega);have l:(BL (y:Int)).length≠0:=by
    intro h;have:=zL.1 h;rw[this]at vy;simp[Ar,ze]at vy;omega
   rw[i,vy,S2];refine zc (by simp;omega) (zc (Aa (Aa (Aa (Aa nx ny)<|w4 j)<|w4 ly)<|w4<|by omega) ?_);exact An g L c d f y (x % y) (by omega) (by rw[qf, <-Nat.gcd_rec,qf];exact b) a (by omega)
theorem Sw{a:List Int}(h:AZ a=true):a=BL (Ar a)/\0<=Ar a:=by
 obtain⟨_,d,z⟩:=Bd h;exact⟨I3 (by decide) d z,Az (by decide) d⟩
theorem Uy(n:Nat)(h:(n:Int)<(zd:Int)^9000):AZ (BL (n:Int))=true/\Ar (BL (n:Int))=n/\(BL (n:Int)).length<=9000:=by
 obtain⟨a,_,b,c⟩:=Gw (n:=(n:Int)) (k:=9000) (Int.natCast_nonneg n) h (by decide);exact⟨a,b,c⟩
theorem ok:Ag Bm 130 Ku:=by
 refine Cj iQ<|fun(i:List Int×List Int) f=>?_;obtain⟨a,b⟩:=i;have f:(AZ a&&AZ b&&decide (a.length<=9000)&&decide (b.length<=9000))=true:=f;rw[zh,zh,zh,w5,w5]at f;obtain⟨⟨⟨na,nb⟩,la9⟩,lb9⟩:=f;obtain⟨ea,a0⟩:=Sw na;obtain⟨eb,b0⟩:=Sw nb;have g:Ar a<(zd:Int)^9000:=yh (Bl (b:=zd) (by decide) (Bd na).2.1) (AM (by decide) la9);have h:Ar b<(zd:Int)^9000:=yh (Bl (b:=zd) (by decide) (Bd nb).2.1) (AM (by decide) lb9);have key:∀(x y:Nat),Ar a=x->Ar b=y->Ends sG (L1 a b) (Ad Ku (a,b)):=by
  intro x y c d;rw[ea,eb,c,d];rw[c]at g;rw[d]at h;refine An (qo x y) _ Uy (fun ob=>ya rfl rfl ?_) (y+1) x y (Nat.lt_succ_self _) rfl g h;have e:Sp.gI (Ar<|BL (x:Int)) (Ar<|BL (y:Int))=((qo x y:Nat):Int):=by
   rw[(Uy x g).2.1,(Uy y h).2.1,HU];rfl
  exact wi BL e.symm
 obtain⟨x,c⟩:=yj a0;obtain⟨y,d⟩:=yj b0;exact zV (Ap a b)<|key x y c d
end T130
theorem kR:D3 XA:=
 Ac (Gq (by kernel_rfl)<|BI<|by kernel_rfl) (Ac (Gq (by kernel_rfl)<|BI<|by kernel_rfl)<|Ac (Gq (by kernel_rfl)<|BI<|by kernel_rfl)<|Ac (Gq (by kernel_rfl)<|BI<|by kernel_rfl) AP)
theorem Er:D3 Mj:=fun g sp h=>by cases h
namespace T201
variable {Q:PV->Ob->Prop}
theorem tX:∀i:Fin 10,(Db.getD i.1 0).toNat<128:=by decide
theorem Ep(s:Z)(i:Nat)(o:List Bool)(c:i<10)(d:o.length=256)(h:Ends XA (L2 s Db Db ((i+1:Nat):Int)<|o.set (Db.getD i 0).toNat true) Q):Ends XA (L2 s Db Db (i:Int) o) Q:=by
 have b:Db.length=10:=rfl;have a:=tX ⟨i,c⟩;have a:(Db.getD i 0).toNat<128:=a;have e:zf .i64 ((i:Int)+1)=((i+1:Nat):Int):=by rw[wr _ (by omega)<|by omega];omega
 refine zn (AK ..) ?_;conv=>zeta
 rw[b,e,zg,zg];exact zc (w4<|by omega) (zc (Aa (w4<|by omega)<|w4<|by omega) (zy (w8<|by omega) (zc (Aa (w4<|show(0:Int)<=((Db.getD i 0).toNat:Int)by omega)<|w4<|by omega)<|zc (w4<|by omega) h)))
def Tb(o:List Bool):Prop:=o.length=256/\∀c:UInt8,o.getD c.toNat false=BH c
theorem Cc(s t v0:Z)(v4:Int)(i:List Bool)(b:Z)(o1 f:List Bool)(h p0:List Bool)(g:Tb h):∀(w:Z),(∀ob,Q (.dat .str<|w.dropWhile BH) ob)->Ends XA (L7 s t v0 v4 i b o1 f w h p0) Q
 |[],a=>zn (Dm ..) (zy (by simp)<|zm<|a _)
 |c::r,a=>by
  have k:c.toNat<256:=c.toNat_lt;have j:(c::r).getD 0 0=c:=rfl;have e:(qn 1 (c::r)).take (yt (c::r).length 1)=r:=by show r.take ((r.length+1)-1)=r;rw[z7];exact z6
  refine zn (Dm ..) ?_;conv=>zeta
  rw[j,zg,g.2,g.1,e];refine zc (by simp) (zc (by simp)<|zc (Aa (w4<|show(0:Int)<=(c.toNat:Int)by omega)<|w4<|by omega) (zc (w4 k)<|zq (fun d=>?_)<|fun d=>zc (by simp) ?_))
  ·have d:BH c=false:=by simpa using d
   rw[zY,wc<|by rw[d];decide]at a;exact zm<|a _
  ·have d:BH c=true:=by simpa using d
   rw[zY,wd d]at a;exact Cc s t v0 v4 i b o1 f h p0 g r a
theorem BP(s t v0:Z)(v4:Int)(i:List Bool)(o1 a:List Bool)(g:Tb o1):∀(n:Nat) (w:Z),w.length=n->n<=1000000->(∀ob,Q (.dat .str<|((w.reverse.dropWhile BH).reverse).dropWhile BH) ob)->Ends XA (L4 s t v0 v4 i w o1 a) Q
 |0,w,e,_,b=>by
  have:w=[]:=zL.1 e;subst this;exact zn (Cf ..) (zy (by simp)<|zn (Jb ..)<|zy (by simp)<|zm<|b _)
 |n+1,w,e,q,b=>by
  obtain⟨p,c,rfl⟩:∃p c,w=p++[c]:=by
   have f:w≠[]:=by rintro rfl;simp at e
   exact⟨w.dropLast,w.getLast f,(yq f).symm⟩
  have h:p.length=n:=by simpa using e
  have l:c.toNat<256:=c.toNat_lt;have o:zf .i64 (((p++[c]).length:Int)-1)=(n:Int):=by rw[e,wr _ (by omega)<|by omega];omega
  have j:(p++[c]).getD n 0=c:=Dn _ _ _ _ h;have k:(p++[c]).take n=p:=by rw[<-h];exact List.take_left
  have m:(p++[c]).reverse=c::p.reverse:=by simp
  rw[m,zY]at b;refine zn (Cf ..) (zc (w4<|by omega) ?_);rw[o,zg,j,k,zg,g.2,g.1,e];refine zc (by simp;omega) (zc (Aa (w4<|show(0:Int)<=(c.toNat:Int)by omega)<|w4<|by omega) (zc (w4 l)<|zq (fun d=>?_)<|fun d=>zc (by simp) ?_))
  ·have d:BH c=false:=by simpa using d
   rw[wc (by rw[d];decide),List.reverse_cons,List.reverse_reverse]at b;exact Cc s t v0 v4 i _ o1 a o1 a g (p++[c]) b
  ·have d:BH c=true:=by simpa using d
   rw[wd d]at b;exact BP s t v0 v4 i o1 a g n p h (by omega) b
theorem sO{o:List Bool}(a:o.length=256)(b:∀c:Fin 256,o.getD c.1 false=(Nat.ble 48 c.1&&Nat.ble c.1 57)):Tb o:=by
 refine⟨a,fun c=>?_⟩;have:=b ⟨c.toNat,c.toNat_lt⟩;rw[show o.getD c.toNat false=_ from this];unfold BH;rw[Bool.eq_iff_iff];simp[Nat.ble_eq]
theorem ok:Ag Bm 201 UB:=by
 refine Cj kR<|fun(i:Z×Z) a=>?_;obtain⟨s,t⟩:=i;have a:(decide (t=Db)&&decide (s.length<=1000000))=true:=a;rw[zh,w5,w5]at a;obtain⟨rfl,hl⟩:=a;have b:∀ob,Ad UB (s,Db) (.dat .str<|((s.reverse.dropWhile BH).reverse).dropWhile BH) ob:=fun ob=>ya rfl rfl rfl
 refine zV (Ap s Db) (zq (fun c=>?_)<|fun c=>zy (by decide)<|zy (by decide) ?_)
 ·have c:s=[]:=by simpa using c
  subst c;exact zm<|b _
 ·refine Ep s 0 _ (by decide) rfl (Ep s 1 _ (by decide) rfl (Ep s 2 _ (by decide) rfl (Ep s 3 _ (by decide) rfl (Ep s 4 _ (by decide) rfl (Ep s 5 _ (by decide) rfl (Ep s 6 _ (by decide) rfl (Ep s 7 _ (by decide) rfl (Ep s 8 _ (by decide) rfl (Ep s 9 _ (by decide) rfl ?_)))))))));refine zn (AK ..) (zy (by decide)<|zc (by decide+kernel) (zc (by decide+kernel)<|zc (by decide+kernel)<|zc rfl (BP s _ _ _ _ _ _ (sO rfl ?_) s.length s rfl hl b)));decide+kernel
end T201
theorem gS:D3 xS:=Ac T201.ok AP
theorem dropWhile_nil{p:UInt8->Bool}:∀ {l:Z},l.dropWhile p=[]↔l.all p=true
 |[]=>by simp
 |a::l=>by
  rw[zY,List.all_cons];cases h:p a with
  |true=>simp only[wk,yo];exact dropWhile_nil
  |false=>simp
theorem HA{p:UInt8->Bool}:∀ {l:Z} {a:UInt8} {r:Z},l.dropWhile p=a::r->p a=false
 |[],a,r,h=>by simp at h
 |b::l,a,r,h=>by
  rw[zY]at h;cases c:p b with
  |true=>rw[c,wd rfl]at h;exact HA h
  |false=>
   rw[c]at h;simp at h;rw[<-h.1];exact c
theorem Lj(s:Z):N7 s=[]↔Ai s=true:=by
 unfold N7 Ai;rw[dropWhile_nil,qc];constructor
 ·intro h;cases b:s.reverse.dropWhile BH with
  |nil=>have:=dropWhile_nil.1 b;rwa [qc]at this
  |cons a r=>
   rw[b,List.all_cons,HA b]at h;cases h
 ·intro h;have:s.reverse.dropWhile BH=[]:=dropWhile_nil.2 (by rwa [qc]);rw[this];rfl
theorem T167.ok:Ag Bm 167 Uh:=by
 refine Cj gS<|fun(s:Z) f=>?_;have f:s.length<=1000000:=w6 f;have a:∀v b ob,v=.bl b\/v=.dat .bool b->b=AQ s->Ad Uh s v ob:=by
  rintro v b ob (rfl|rfl) g
  ·exact ya rfl rfl g
  ·exact ya rfl rfl g
 refine zV (T167.Ap s)<|zq (fun c=>zc ?_<|zq (fun d=>zc ?_<|zq (fun e=>zm<|a _ _ _ (.inl rfl) ?_)<|fun e=>zm<|a _ _ _ (.inr rfl) ?_)<|fun d=>zm<|a _ _ _ (.inl rfl) ?_)<|fun c=>zm<|a _ _ _ (.inl rfl) ?_
 ·exact Aa (w4 rfl)<|w4 f
 ·have c:s≠[]:=by simpa using c
  have:s.length≠0:=fun h=>c<|zL.1 h
  exact w4 (by omega)
 ·have c:s≠[]:=by simpa using c
  have d:N7 s=[]:=by simpa using d
  have d:=(Lj s).1 d;have e:s.getD 0 0≠48:=by
   intro h;rw[h]at e;exact wh e (by decide)
  unfold AQ;rw[d,w4 c,w4 e];rfl
 ·have c:s≠[]:=by simpa using c
  have d:N7 s=[]:=by simpa using d
  have d:=(Lj s).1 d;have e:s.getD 0 0=48:=by
   have:((s.getD 0 0).toNat:Int)=48:=by simpa using e
   exact UInt8.toNat_inj.1 (by show _=48;omega)
  unfold AQ;rw[d,w4 c,w8<|by rw[e];exact fun h=>h rfl];show(s==[48])=decide (s=[48]);rw[Bool.eq_iff_iff];simp
 ·have d:¬N7 s=[]:=by simpa using d
  have d:Ai s=false:=by
   cases h:Ai s with
   |true=>exact wh ((Lj s).2 h) d
   |false=>rfl
  unfold AQ;rw[d];simp
 ·have c:s=[]:=by simpa using c
  subst c;rfl
theorem T166.ok:Ag Bm 166 mY:=by
 refine Cj Er<|fun(i:Z×Z) b=>?_;obtain⟨s,t⟩:=i;have b:(decide (t=[45])&&decide (s.length<=1000000))=true:=b;rw[zh,w5,w5]at b;obtain⟨rfl,hl⟩:=b;have a:s.getD 0 0≠45->(s,false)=(A3 s,Sp.preB s):=fun h=>by
  unfold A3 Sp.preB;rw[wc h,w8 h]
 refine zV (T166.Ap s [45]) ?_;conv=>zeta
 cases s with
 |nil=>exact zy (by decide) (zm<|ya rfl rfl (a<|by decide))
 |cons c r=>
  have f:(c::r).take 1=[c]:=rfl;refine zc (by simp;omega) (zc (by simp) ?_);show Ends Mj (.ite (!List.take 1 (c::r)==[45]) _ _) _;rw[f];refine zq (fun d=>zm<|ya rfl rfl (a ?_)) (fun d=>zc (by simp)<|zm<|ya rfl rfl ?_)
  ·show c≠45;rintro rfl;exact wh d (by decide)
  ·have d:c=45:=by simpa using d
   subst d;show(((qn 1 ((45:UInt8)::r)).take<|yt ((45:UInt8)::r).length 1),true)=(A3 (45::r),Sp.preB (45::r));have e:(qn 1 ((45:UInt8)::r)).take (yt ((45:UInt8)::r).length 1)=r:=by show r.take ((r.length+1)-1)=r;rw[z7];exact z6
   rw[e];rfl
theorem pR{F:Fz}{s:Z}{c:Int}{args:List V}(h:LH F (Ae [Sh.str,Sh.int .u8] (s,c)) args):args=[.str s,.int .u8 c]:=by
 have:=h (fun _=>none) 0;simp only[Ae,B1,A9]at this;obtain⟨a,f,rfl,d,b,g,rfl,e,rfl⟩:=this;simp only[PR,DC,List.cons.injEq,vc]at d e;rw[d,e]
theorem T265.ok:Ag Bm 265 mI:=by
 refine .inr ⟨PK.indexByte.run,by kernel_rfl,fun F h args i a b=>?_⟩;obtain⟨s,c⟩:=i;have:=pR a;subst this;refine⟨RX<|s.findIdx? fun x=>x==c.toNat.toUInt8,rfl,fun ρ N=>?_⟩;show PR F ρ N (.dat i64<|NL s c) _;unfold NL;cases s.findIdx? fun x=>x==c.toNat.toUInt8 with
 |none=>simp[PR,DC,RX]
 |some i=>simp[PR,DC,RX,Det.i64]
theorem gE:D3 yO:=Ac T265.ok AP
theorem UH{p:UInt8->Bool}{s:Z}{i:Nat}(h:s.findIdx? p=some i):i<s.length:=(List.findIdx?_eq_some_iff_getElem.1 h).1
theorem T124.ok:Ag Bm 124 cZ:=by
 refine Cj gE<|fun(i:Z×Z) e=>?_;obtain⟨s,t⟩:=i;have e:(decide (t=[47])&&decide (s.length<=1000000))=true:=e;rw[zh,w5,w5]at e;obtain⟨rfl,hl⟩:=e;have b:s.any (fun x=>x==47)=(s.findIdx? fun x=>x==47).isSome:=by
  rw[List.findIdx?_isSome]
 refine zV (T124.Ap s [47]) (zy (by decide) (zq (fun c=>?_)<|fun c=>zc (by decide) (zc (by decide)<|zc (by decide) ?_)))
 ·have c:s=[47]:=by
   have:[47]=s:=by simpa using c
   exact this.symm
  subst c;exact zc rfl (zc rfl (zc rfl (zm<|ya rfl rfl rfl)))
 ·have a:NL s (((([47]:Z).getD 0 0).toNat:Nat):Int)=match s.findIdx? (fun x=>x==47)with
   |some i=>(i:Int)
   |none=> -1:=rfl
  cases d:s.findIdx? (fun x=>x==47)with
  |none=>
   rw[d]at a;have a:NL s (((([47]:Z).getD 0 0).toNat:Nat):Int)= -1:=a;rw[a];refine zy (by decide)<|zm<|ya rfl rfl ?_;show(s,[],false)=(Ay s,Sp.AJ s,Bh s);unfold Ay Sp.AJ Bh;rw[b,d];rfl
  |some k=>
   rw[d]at a;have a:NL s (((([47]:Z).getD 0 0).toNat:Nat):Int)=(k:Int):=a;have h:=UH d;have g:zf .i64 ((k:Int)+(([47]:Z).length:Int))=((k+1:Nat):Int):=by
    show zf .i64 ((k:Int)+1)=_;rw[wr _ (by omega)<|by omega];omega
   rw[a,g,zg,zg];refine zc (by simp) (zc (by simp;omega)<|zc (by simp;omega)<|zm<|ya rfl rfl ?_);show(s.take k,(s.drop<|k+1).take<|yt s.length<|k+1,true)=(Ay s,Sp.AJ s,Bh s);unfold Ay Sp.AJ Bh;have f:(s.drop<|k+1).take (yt s.length<|k+1)=s.drop (k+1):=zj (by rw[zp];exact yx _);rw[b,d,f];rfl
namespace T152
theorem An{Q:PV->Ob->Prop}(s:Z)(a:Ai s=true)(v:s.length<=18)(f:∀ob,Q (.dat i64<|AA 0 s) ob):∀(r:Z) (i:Nat),s.drop i=r->i<=s.length->Ends eI (L1 s (AA 0<|s.take i) i) Q
 |[],i,h,g=>by
  have t:i=s.length:=drop_nil h g;subst t;rw[z6];exact zn (Al ..) (zy (by simp)<|zm<|f _)
 |c::r,i,h,g=>by
  obtain⟨j,k,w⟩:=drop_cons (d:=0) h;have q:=A6<|A8 a i;have b:(s.take i).length=i:=by rw[zw];omega
  rw[b]at q;have x:(10:Int)^i<=10^17:=AM (by decide) (by omega);have u:BH c=true:=by
   unfold Ai at a;rw[y9]at a;exact a c<|Oz h
  have l:=CL u;have m:48<=c.toNat/\c.toNat<=57:=by unfold G4 at l;omega
  have o:zf .i64 (c.toNat:Int)=(c.toNat:Int):=wr _ (by omega) (by omega);have e:(10:Int)^17=100000000000000000:=by decide
  have p:zf .i64 (zf .i64 (zf .i64 (10*AA 0 (s.take i))+(c.toNat:Int))-48)=AA 0 (s.take<|i+1):=by
   rw[KQ h,CE];show _=10*AA 0 (s.take i)+((c.toNat:Int)-48);generalize AA 0 (s.take i)=D at*;rw[wr (10*D) (by omega) (by omega),wr (10*D+(c.toNat:Int)) (by omega) (by omega),wr _ (by omega)<|by omega];omega
  have n:zf .i64 ((i:Int)+1)=((i+1:Nat):Int):=by rw[wr _ (by omega)<|by omega];omega
  refine zn (Al ..) (zc (by simp;omega) ?_);rw[zg,k,o,p,n];exact zc (by simp;omega)<|An s a v f r (i+1) w j
theorem ok:Ag Bm 152 QA:=by
 refine Cj QJ<|fun(s:Z) a=>?_;have a:(decide (s.length<=18)&&Ai s)=true:=a;rw[zh,w5]at a;exact zV (Ap s)<|An s a.2 a.1 (fun ob=>ya rfl rfl rfl) s 0 rfl (Nat.zero_le _)
end T152
theorem jC:D3 Ym:=Ac T152.ok<|Ac T155.ok AP
theorem Lp{neg:Bool}{w:List Int}{D:Int}(c:Av zd w)(d:ze zd w=D):(B5 neg w,At w)=(Sp.rN<|if neg=true then -D else D,Sp.rW<|if neg=true then -D else D):=by
 have h0:=Az (b:=zd) (by decide) c;rw[d]at h0;have f:At w=BL D:=by rw[E4 c];show BL (ze zd w)=_;rw[d]
 have a:BL D=[]↔D=0:=pH (by decide) h0;have e:Af (if neg=true then -D else D)=D:=by rw[Aj];split<;>omega
 unfold B5 Sp.rW Sp.rN;rw[e,f];congr 1;cases neg with
 |false=>simp;omega
 |true=>
  simp only[wk,yo,wm,a,decide_eq_decide];omega
namespace T149
variable {Q:PV->Ob->Prop}
theorem tZ:(10:Int)^9=1000000000:=by decide
theorem IL{s:Z}{m:Nat}(a:m+9=s.length):AA 0 s=AA 0 (s.take m)*1000000000+AA 0 (s.drop m):=by
 conv=>lhs;rw[<-yb m s]
 rw[CE,Ef<|s.drop m,zp,show s.length-m=9 by omega,tZ]
theorem Ci{s:Z}(b:Ai s=true)(h:s.length<=9):0<=AA 0 s/\AA 0 s<1000000000:=by
 have:=A6 b;have a:(10:Int)^s.length<=10^9:=AM (by decide) h;rw[tZ]at a;omega
theorem BT{s:Z}(a:Ai s=true)(h:s.length<=18):Dz s=true:=by
 unfold Dz;rw[a,Bool.and_true];exact w4 h
theorem CT(neg:Bool)(D:Int)(h:∀(w:List Int) ob,Av zd w->ze zd w=D->Q (.agg [.dat .bool<|B5 neg w,.dat li<|At w]) ob):∀(f:Nat) (s:Z) (o1:List Int),s.length<=f->Ai s=true->o1.length+s.length<=6000->Av zd o1->ze zd o1+(zd:Int)^o1.length*AA 0 s=D->Ends Ym (L3 s neg o1.length o1) Q:=by
 intro f;induction f with
 |zero=>
  intro s o1 i a o c d;have g:s.length<=9:=by omega
  have b:=Ci a g;have e:(o1++[Bq s]).take (qp o1.length 1)=o1++[Bq s]:=zj (by simp);refine zn (BE ..) (zy (by simp;omega) (zc (BT a<|by omega)<|zc (by simp;omega) ?_));rw[e];refine zc (by simp;omega)<|zm<|h _ _ (EO c b) ?_;rw[B4];exact d
 |succ f k=>
  intro s o1 i a o c d;by_cases g:s.length<=9
  ·have b:=Ci a g;have e:(o1++[Bq s]).take (qp o1.length 1)=o1++[Bq s]:=zj (by simp);refine zn (BE ..) (zy (by simp;omega) (zc (BT a<|by omega)<|zc (by simp;omega) ?_));rw[e];refine zc (by simp;omega)<|zm<|h _ _ (EO c b) ?_;rw[B4];exact d
  ·obtain⟨m,n⟩:∃m,m+9=s.length:=⟨s.length-9,by omega⟩;have j:zf .i64 ((s.length:Int)-9)=(m:Int):=by rw[wr _ (by omega)<|by omega];omega
   have l:(s.drop m).take (yt s.length m)=s.drop m:=zj (by rw[zp];exact yx _);have b:=Ci (BO a m) (by rw[zp];omega);refine zn (BE ..) (zc (by simp;omega) ?_);rw[j,zg,l];refine zc (by simp;omega) (zc (BT (BO a m)<|by rw[zp];omega) (zc (by simp;omega)<|zc (by simp;omega) ?_));have:=k (s.take m) (o1++[Bq<|s.drop m]) (by rw[zw];omega) (A8 a m) (by simp;omega) (EO c b) (by
    rw[B4,zS];show ze zd o1+(zd:Int)^o1.length*AA 0 (s.drop m)+(zd:Int)^(o1.length+1)*AA 0 (s.take m)=D;rw[I9,ql, <-zK, <-d,IL n];congr 2;omega)
   rw[zS]at this;exact this
theorem BP(D:Int)(h:∀(w:List Int) ob,Av zd w->ze zd w=D->Q (.agg [.dat .bool<|B5 false w,.dat li<|At w]) ob):∀(f:Nat) (s:Z) (o1:List Int),s.length<=f->Ai s=true->o1.length+s.length<=6000->Av zd o1->ze zd o1+(zd:Int)^o1.length*AA 0 s=D->Ends Ym (L4 s o1.length o1) Q:=by
 intro f;induction f with
 |zero=>
  intro s o1 i a o c d;have g:s.length<=9:=by omega
  have b:=Ci a g;have e:(o1++[Bq s]).take (qp o1.length 1)=o1++[Bq s]:=zj (by simp);refine zn (Cf ..) (zy (by simp;omega)<|zc (BT a<|by omega) (zc (by simp;omega) ?_));rw[e];refine zc (by simp;omega)<|zm<|h _ _ (EO c b) ?_;rw[B4];exact d
 |succ f k=>
  intro s o1 i a o c d;by_cases g:s.length<=9
  ·have b:=Ci a g;have e:(o1++[Bq s]).take (qp o1.length 1)=o1++[Bq s]:=zj (by simp);refine zn (Cf ..) (zy (by simp;omega)<|zc (BT a<|by omega) (zc (by simp;omega) ?_));rw[e];refine zc (by simp;omega)<|zm<|h _ _ (EO c b) ?_;rw[B4];exact d
  ·obtain⟨m,n⟩:∃m,m+9=s.length:=⟨s.length-9,by omega⟩;have j:zf .i64 ((s.length:Int)-9)=(m:Int):=by rw[wr _ (by omega)<|by omega];omega
   have l:(s.drop m).take (yt s.length m)=s.drop m:=zj (by rw[zp];exact yx _);have b:=Ci (BO a m) (by rw[zp];omega);refine zn (Cf ..) (zc (by simp;omega) ?_);rw[j,zg,l];refine zc (by simp;omega) (zc (BT (BO a m)<|by rw[zp];omega) (zc (by simp;omega)<|zc (by simp;omega) ?_));have:=k (s.take m) (o1++[Bq<|s.drop m]) (by rw[zw];omega) (A8 a m) (by simp;omega) (EO c b) (by
    rw[B4,zS];show ze zd o1+(zd:Int)^o1.length*AA 0 (s.drop m)+(zd:Int)^(o1.length+1)*AA 0 (s.take m)=D;rw[I9,ql, <-zK, <-d,IL n];congr 2;omega)
   rw[zS]at this;exact this
theorem An(neg:Bool)(s:Z)(a:Ai s=true)(i:s.length<=5999)(d:∀(w:List Int) ob,Av zd w->ze zd w=AA 0 s->Q (.agg [.dat .bool<|B5 neg w,.dat li<|At w]) ob):Ends Ym (L1 s neg) Q:=by
 by_cases g:s.length<=9
 ·have c:=Ci a g;refine zn (Al ..) (zy (by simp;omega)<|zc (BT a<|by omega) (zc rfl (zc rfl (zm<|d _ _ (EO (l:=[]) (fun x b=>by cases b) c) ?_))));show ze zd [AA 0 s]=_;exact D5 _
 ·obtain⟨m,f⟩:∃m,m+9=s.length:=⟨s.length-9,by omega⟩;have h:zf .i64 ((s.length:Int)-9)=(m:Int):=by rw[wr _ (by omega)<|by omega];omega
  have e:(s.drop m).take (yt s.length m)=s.drop m:=zj (by rw[zp];exact yx _);have c:=Ci (BO a m) (by rw[zp];omega);refine zn (Al ..) (zc (by simp;omega) ?_);rw[h,zg,e];refine zc (by simp;omega) (zc (BT (BO a m)<|by rw[zp];omega)<|zc rfl (zc (by simp;omega) ?_));refine CT neg (AA 0 s) d m (s.take m) [Bq<|s.drop m] (by rw[zw];omega) (A8 a m) (by simp;omega) (EO (l:=[]) (fun x b=>by cases b) c) ?_;rw[D5,IL f];show AA 0 (s.drop m)+(zd:Int)^1*_=_;rw[zr,zQ,zX,zz];exact Int.add_comm _ _
theorem AV(s:Z)(a:Ai s=true)(i:s.length<=5999)(d:∀(w:List Int) ob,Av zd w->ze zd w=AA 0 s->Q (.agg [.dat .bool<|B5 false w,.dat li<|At w]) ob):Ends Ym (L2 s) Q:=by
 by_cases g:s.length<=9
 ·have c:=Ci a g;refine zn (AK ..) (zy (by simp;omega)<|zc (BT a<|by omega) (zc rfl (zc rfl (zm<|d _ _ (EO (l:=[]) (fun x b=>by cases b) c) ?_))));show ze zd [AA 0 s]=_;exact D5 _
 ·obtain⟨m,f⟩:∃m,m+9=s.length:=⟨s.length-9,by omega⟩;have h:zf .i64 ((s.length:Int)-9)=(m:Int):=by rw[wr _ (by omega)<|by omega];omega
  have e:(s.drop m).take (yt s.length m)=s.drop m:=zj (by rw[zp];exact yx _);have c:=Ci (BO a m) (by rw[zp];omega);refine zn (AK ..) (zc (by simp;omega) ?_);rw[h,zg,e];refine zc (by simp;omega) (zc (BT (BO a m)<|by rw[zp];omega) (zc rfl (zc (by simp;omega) ?_)));refine BP (AA 0 s) d m (s.take m) [Bq<|s.drop m] (by rw[zw];omega) (A8 a m) (by simp;omega) (EO (l:=[]) (fun x b=>by cases b) c) ?_;rw[D5,IL f];show AA 0 (s.drop m)+(zd:Int)^1*_=_;rw[zr,zQ,zX,zz];exact Int.add_comm _ _
theorem ok:Ag Bm 149 QQ:=by
 refine Cj jC<|fun(s:Z) a=>?_;have a:(decide (s.length<=5999)&&(if s.getD 0 0=45 then Ai (s.drop 1)else Ai s))=true:=a;rw[zh,w5]at a;obtain⟨g,a⟩:=a;have fin:∀(neg:Bool) (D:Int),Cb s=(if neg=true then -D else D)->∀(w:List Int) ob,Av zd w->ze zd w=D->Ad QQ s (.agg [.dat .bool<|B5 neg w,.dat li<|At w]) ob:=by
  intro neg D j w ob h i;refine ya rfl rfl ?_;show(B5 neg w,At w)=(Sp.rN<|Cb s,Sp.rW<|Cb s);rw[j];exact Lp h i
 refine zV (Ap s) ?_;conv=>zeta
 cases s with
 |nil=>exact zy (by decide) (AV [] rfl (by decide) (fin false 0 rfl))
 |cons c r=>
  have f:(c::r).getD 0 0=c:=rfl;rw[f]at a;rw[f];refine zc (by simp) (zc (by simp)<|zq (fun d=>?_)<|fun d=>?_)
  ·have b:c=45:=by
    have:(c.toNat:Int)=45:=by simpa using d
    exact UInt8.toNat_inj.1 (by show _=45;omega)
   rw[wd b]at a;have e:(qn 1 (c::r)).take (yt (c::r).length 1)=r:=by show r.take ((r.length+1)-1)=r;rw[z7];exact z6
   rw[d,e];refine zc (by simp) (An true r a (by simp at g;omega)<|fin true _ ?_);unfold Cb;rw[f,wd b,wd rfl];rfl
  ·have b:c≠45:=by
    rintro rfl;exact wh d (by decide)
   rw[wc b]at a;rw[d];refine An false (c::r) a g<|fin false _ ?_;unfold Cb;rw[f,wc b,wc<|by decide]
end T149
end Go.Pe
