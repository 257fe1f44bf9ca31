import Derived.Test.YtlohiljbghionaaGreatDoorX11
/- A part of a proof; no law is stated here. -/
set_option maxRecDepth 10000
open Go.Pe.Ends renaming tt -> zc, leaf -> zn, Ah -> zo, ite -> zr, ff -> zy, eq -> yq
open Go.Sp renaming val -> zd, B9 -> ze, vI -> zm, sg -> jl
open Int renaming toNat_natCast -> zf, mul_le_mul_of_nonneg_left -> zh, mul_le_mul_of_nonneg_right -> zk, le_of_lt -> zp, pow_succ -> zt, tdiv_eq_ediv_of_nonneg -> zu, mul_comm -> zw, mul_add -> zx, tmod_eq_emod_of_nonneg -> z6, lt_of_mul_lt_mul_left -> z8, mul_nonneg -> yb, pow_zero -> yc, mul_assoc -> yd, mul_left_comm -> ye, lt_or_le -> yg, one_mul -> yh, emod_lt_of_pos -> yj, mul_ediv_add_emod -> yn, emod_nonneg -> yo, ediv_emod_unique -> yp, tdiv -> yt, mul_lt_mul_of_pos_right -> yx, pow_pos -> yy, fdiv_eq_ediv_of_nonneg -> yz, mul_one -> y7, mul_zero -> y8, add_assoc -> y9, lt_of_lt_of_le -> qe, mul_sub -> qf, eq_ofNat_of_zero_le -> qg, ediv_eq_zero_of_lt -> qh, ediv_lt_of_lt_mul -> qi, ediv_nonneg -> qk, add_zero -> qo, mul_lt_mul_of_pos_left -> qq, tmod -> qt, le_refl -> qv, mul_ediv_cancel_left -> qy, pow_add -> ji, mul_neg -> jk, add_comm -> jm, zero_mul -> jo
open Go.IntKind renaming wrap -> zg
open Bool renaming and_eq_true -> zi, true_and -> qj
open List renaming take_of_length_le -> zj, replicate -> zl, length_drop -> zq, length_take -> zz, length_eq_zero_iff -> z7, append_assoc -> ya, take_length -> yi, getD_eq_getElem?_getD -> yk, length_append -> ym, dropWhile_cons -> yr, take_append_drop -> yw, mem_singleton -> qd, append_nil -> ql, dropLast_concat_getLast -> qm, nil_append -> qn, getLast?_eq_getElem? -> qu, getElem?_eq_getElem -> qx, mem_cons -> qz, drop_length -> q9, all_eq_true -> jc, all_reverse -> je, length_eq_one_iff -> jf, drop_eq_nil_of_le -> jh, take_left -> jj, drop -> jt
open BitVec renaming ofInt -> yf
open Nat renaming add_sub_cancel -> yu, min_eq_left -> qc, sub -> qp, le_refl -> qw, gcd_comm -> jg, gcd -> jz, add -> j0
open Go.Pe.Ad renaming of -> yv
variable {Q:Go.Pe.PV->Go.Pe.Ob->Prop}
namespace Go.Pe
open Sp
open Go.Det
theorem VH{a b:Int}{s:Nat}(e:0<=a)(d:0<=b)(h:b<2^s)(c:a*2^s+b<18446744073709551616):aL .u64 b (a*2^s)=a*2^s+b:=by
 have:=Za e d h c;rw[<-this];show zg .u64 (((yf 64 b|||yf 64 (a*2^s)).toNat:Nat):Int)=zg .u64 (((yf 64 (a*2^s)|||yf 64 b).toNat:Nat):Int);rw[BitVec.or_comm]
theorem YV{s:Nat}(a:s<=63):(18446744073709551616:Int)=2^s*2^(64-s):=by rw[<-ji,show s+(64-s)=64 by omega];rfl
namespace T212
theorem E5(s:Nat)(O:s<=63)(a n m:Nat)(hn:n<=a)(K:a<=9000)(u g:List Int)(V:u.length=a+1)(E:Aw Ao u)(N:zd Ao (u.drop n)=0)(hm:g.length=m)(F:m<=9000)(r:Aw Ao g)
  (R:∀(w:List Int) ob,Aw Ao w->zd Ao w=zd Ao u/2^s->Q (.tup [.dat Dz<|Ax g,.dat Dz<|Ax w]) ob):
  ∀(k i:Nat) (p:List Int),i+k=n->p.length=i->Aw Ao p->zd Ao p+(Ao:Int)^i*(zd Ao (u.drop i)/2^s)=zd Ao u/2^s->
   Ends JS (L6 s (a+1) n m n i g<|p++u.drop i) Q
 |0,i,p,I,hp,e,A=>by
  have I:i=n:=ae
  subst I;have Z:(p++u.drop i).take i=p:=by rw[<-hp];exact jj
  have H:g.take m=g:=zj ae;rw[N,Int.zero_ediv,y8,qo]at A;refine zo (EP ..) (zy (by simp) ?_);rw[zf,Z,H];refine zc (by simp;omega) (zc (Ab (by simp;omega)<|Ep ae r)<|zc (Ab (by simp;omega)<|Ep ae e)<|zn<|R p _ e A)
 |k+1,i,p,I,hp,e,A=>by
  have D:=Cn (l:=u) (i:=i) ae;have T:=Cn (l:=u) (i:=i+1) ae;have P:=Sp.A5<|AX E i;have Y:=Sp.A5<|AX E<|i+1;have W:(p++u.drop i).getD i 0=u.getD i 0:=by rw[D];exact DU _ _ _ _ hp
  have s1:∀z,(p++u.drop i).set i z=p++z::u.drop (i+1):=fun z=>by rw[D];exact DD _ _ _ _ hp
  have s2:∀z x,(p++z::u.drop (i+1)).set i x=(p++[x])++u.drop (i+1):=fun z x=>by rw[DD _ _ _ _ hp,ya];rfl
  have g2:∀z,(p++z::u.drop (i+1)).getD i 0=z:=fun z=>DU _ _ _ _ hp
  have g3:∀z,(p++z::u.drop (i+1)).getD (i+1) 0=u.getD (i+1) 0:=fun z=>by
   rw[T,show p++z::u.getD (i+1) 0::u.drop (i+1+1)=(p++[z])++u.getD (i+1) 0::u.drop (i+1+1)by rw[ya];rfl];exact DU _ _ _ _ (by simp[hp])
  have t:∀z,(p++z::u.drop (i+1)).length=a+1:=fun z=>by simp;omega
  have j:(p++u.drop i).length=a+1:=by simp;omega
  have e2:=wn (i:=i) ae;have U:zg .i64 ((64:Int)-(s:Int))=((64-s:Nat):Int):=by rw[wr _ ae ae];omega
  have em:Min.min s 64=s:=ae
  have J:Min.min (64-s) 64=64-s:=ae
  have B:=YV O;have o:(0:Int)<2^s:=yy af;have f:(0:Int)<2^(64-s):=yy af;have G:Int.fdiv (u.getD i 0) ((2:Int)^s)=u.getD i 0/2^s:=yz _<|zp o;have a0:0<=u.getD i 0/2^s:=qk P.1<|zp o;have a1:u.getD i 0/2^s<2^(64-s):=qi o (by rw[zw, <-B];exact P.2);have S:=yo (u.getD (i+1) 0) (show(2:Int)^s≠0 by omega);have m1:=yj (u.getD (i+1) 0) o;have p0:0<=(u.getD (i+1) 0 % 2^s)*2^(64-s):=yb S<|zp f;have p1:(u.getD (i+1) 0 % 2^s)*2^(64-s)<=18446744073709551616-2^(64-s):=by
   have:=zk (show u.getD (i+1) 0 % 2^s<=2^s-1 by omega)<|zp f;rw[Int.sub_mul,yh, <-B]at this;exact this
  have h:0<=u.getD i 0/2^s+(u.getD (i+1) 0 % 2^s)*2^(64-s)/\u.getD i 0/2^s+(u.getD (i+1) 0 % 2^s)*2^(64-s)<18446744073709551616:=ae
  have C:zg .u64 (u.getD (i+1) 0*2^(64-s))=(u.getD (i+1) 0 % 2^s)*2^(64-s):=by
   rw[LW];exact(VI (b:=18446744073709551616) (c:=2^(64-s)) (d:=2^s) (k:=0) f o (by rw[B,zw]) ⟨qv _,f⟩ Y).1
  have M:aL .u64 (u.getD i 0/2^s) ((u.getD (i+1) 0 % 2^s)*2^(64-s))=u.getD i 0/2^s+(u.getD (i+1) 0 % 2^s)*2^(64-s):=by
   rw[VH S a0 a1 ae,jm]
  have next:∀z,z=u.getD i 0/2^s+(u.getD (i+1) 0 % 2^s)*2^(64-s)->Ends JS (L6 s (a+1) n m n ((i+1:Nat):Int) g<|(p++[z])++u.drop (i+1)) Q:=by
   intro z q;refine E5 s O a n m hn K u g V E N hm F r R k (i+1) (p++[z]) ae (by simp[hp]) (Ei e<|by rw[q];exact CX h.1 h.2) ?_;rw[<-A,Fe,hp,LG,y9, <-zx];congr 2;have:=nJ (b:=18446744073709551616) (c:=2^s) (d:=2^(64-s)) (x:=u.getD i 0) (y:=u.getD (i+1) 0) (X:=zd Ao<|u.drop<|i+1+1) o B;rw[q,D,T];exact this.symm
  have v:(decide ((0:Int)<=(i:Int))&&decide ((i:Int)<((a+1:Nat):Int)))=true:=by simp;omega
  have b2:(decide ((0:Int)<=((i+1:Nat):Int))&&decide (((i+1:Nat):Int)<((a+1:Nat):Int)))=true:=by simp;omega
  refine zo (EP ..) (zc (by simp;omega) ?_);rw[e2,U,zf,zf,zf,zf,em,J,W,G,s1,g2,g3,s2,C,M,t,j];refine zc v (zc (w4 ae)<|zc (by simp)<|zc v<|zc (w4 ae)<|zr (fun c=>zc (by simp;omega)<|zc v<|zc (w4 ae)<|zc b2<|zc (w4 ae)<|zc (by simp)<|zc v<|zc (w4 ae)<|next _ rfl)<|fun c=>?_);have c:=w7 c;have L:s=0:=ae
  subst L;rw[show ∀z:Int,p++z::u.drop (i+1)=(p++[z])++u.drop (i+1)from fun z=>by rw[ya];rfl];refine next _ ?_;rw[yc,Int.emod_one,jo,qo]
theorem S7{X:AT}{F:Int->List Int->Tr}(w:List Int)(s:Nat)(l:s<=63)(v:Aw Ao w)
  (DR:∀(i:Nat) (o:List Int),i<w.length->o.length=w.length+1->Ends X (F ((i+1:Nat):Int)<|if 0<s then(o.set i<|aL .u64 (o.getD i 0)<|zg .u64<|w.getD i 0*2^s).set (i+1) (Int.fdiv (w.getD i 0)<|2^(64-s))else o.set i<|aL .u64 (o.getD i 0)<|zg .u64<|w.getD i 0*2^s) Q->Ends X (F i o) Q)
  (a:∀o:List Int,o.length=w.length+1->Aw Ao o->zd Ao o=2^s*zd Ao w->Ends X (F w.length o) Q):
  ∀(k i:Nat) (p:List Int) (c:Int),i+k=w.length->p.length=i->Aw Ao p->(0<=c/\c<2^s)->zd Ao p+(Ao:Int)^i*c=2^s*zd Ao (w.take i)->Ends X (F i (p++c::zl k 0)) Q
 |0,i,p,c,r,hp,e,g,h=>by
  have r:i=w.length:=ae
  subst r;have E:(2:Int)^s<=18446744073709551616:=by
   have:=YV l;have A:(1:Int)<=2^(64-s):=yy af;have G:=zh A (show(0:Int)<=2^s from zp<|yy af);omega
  rw[yi]at h;refine a _ (by simp[hp]) (Ei e<|CX g.1 ae) ?_;rw[<-h];show zd Ao (p++[c])=_;rw[Fe,hp]
 |k+1,i,p,c,r,hp,e,g,h=>by
  have m:=Sp.A5<|AX v i;have D:=YV l;have j:(0:Int)<2^s:=yy af;have f:(0:Int)<2^(64-s):=yy af;obtain⟨s1,s2,s3,s4,s5,s6⟩:=VI (b:=18446744073709551616) (c:=2^s) (d:=2^(64-s)) (x:=w.getD i 0) (k:=c) j f D g m;have q:Int.fdiv (w.getD i 0) ((2:Int)^(64-s))=w.getD i 0/2^(64-s):=yz _<|zp f;have C:(p++c::zl (k+1) 0).getD i 0=c:=DU _ _ _ _ hp;have st:∀z:Int,(p++c::zl (k+1) 0).set i z=p++z::zl (k+1) 0:=fun z=>DD _ _ _ _ hp
  have n:∀z y:Int,(p++z::zl (k+1) 0).set (i+1) y=(p++[z])++y::zl k 0:=fun z y=>by
   rw[show p++z::zl (k+1) (0:Int)=(p++[z])++0::zl k 0 by rw[ya];rfl];exact DD _ _ _ _ (by simp[hp])
  have u:aL .u64 c ((w.getD i 0 % 2^(64-s))*2^s)=(w.getD i 0 % 2^(64-s))*2^s+c:=VH (yo _ ae) g.1 g.2 s2;have go:=S7 w s l v DR a k (i+1) (p++[(w.getD i 0 % 2^(64-s))*2^s+c]) (w.getD i 0/2^(64-s)) ae (by simp[hp]) (Ei e<|CX ae s2) ⟨s4,s5⟩ (by
   rw[Fe,hp,LG,AH,zx<|2^s, <-h,y9,y9, <-zx,ye<|2^s, <-zx];congr 2;rw[zw<|2^s];omega)
  refine DR i _ ae (by simp;omega) ?_;rw[LW,s1,q,C,u,st,n];by_cases h0:0<s
  ·rw[wd h0];exact go
  ·have t:s=0:=ae
   subst t;have B:w.getD i 0/2^(64-0)=0:=qh m.1 m.2;rw[B]at go;rw[wc h0,show ∀z:Int,p++z::zl (k+1) (0:Int)=(p++[z])++0::zl k 0 from fun z=>by rw[ya];rfl];exact go
end T212
theorem vM:Dg JS:=
 Aa T187.ok (Aa T209.ok<|Aa T177.ok<|Aa T208.ok<|Aa T217.ok<|Aa oS<|Aa T247.ok AI)
theorem Kn{w:List Int}(b:Aw Ao w)(a:Sp.nz w){k:Nat}(c:w.length=k+1):0<w.getD k 0/\w.getD k 0<18446744073709551616:=by
 have g:=Sp.A5<|AX b k;refine⟨?_,g.2⟩;have e:w.getLast?=some (w.getD k 0):=by
  rw[qu,c,yu,yk,qx ae];rfl
 unfold Sp.nz at a;rw[e]at a;have:w.getD k 0≠0:=fun h=>a (by rw[h])
 omega
namespace T212
set_option maxHeartbeats 1000000 in
theorem ok:Af A9 212 GN:=by
 refine BN vM<|fun(i:List Int×List Int) B=>?_;obtain⟨a,b⟩:=i;have B:(Cm a&&Cm b&&decide (a.length<=9000)&&decide (b.length<=9000)&&decide (0<As b))=true:=B;rw[zi,zi,zi,zi,w5,w5,w5]at B;obtain⟨⟨⟨⟨na,nb⟩,la9⟩,lb9⟩,l⟩:=B;obtain⟨_,da,za⟩:=Fu na;obtain⟨_,db,zb⟩:=Fu nb;have l:0<zd Ao b:=l;have K:=AD (b:=Ao) af da;have hg:∀q r ob,q=Bv (As a/As b)->r=Bv (As a % As b)->Ad GN (a,b) (PV.tup [PV.dat Dz q,PV.dat Dz r]) ob:=fun q r ob e1 M=>yv rfl rfl (Prod.ext e1 M)
 have fin:∀(q r:List Int) ob,Aw Ao q->Aw Ao r->zd Ao a=zd Ao q*zd Ao b+zd Ao r->zd Ao r<zd Ao b->Ad GN (a,b) (PV.tup [PV.dat Dz<|Ax q,PV.dat Dz<|Ax r]) ob:=by
  intro q r ob dq dr P hr;have X:=AD (b:=Ao) af dr;obtain⟨u1,u2⟩:=(yp (a:=zd Ao a) (b:=zd Ao b) (r:=zd Ao r) (q:=zd Ao q) l).2 ⟨by rw[zw<|zd Ao b];omega,X,hr⟩;refine hg _ _ ob ?_ ?_
  ·rw[LC dq];show Bv (zd Ao q)=Bv (zd Ao a/zd Ao b);rw[u1]
  ·rw[LC dr];show Bv (zd Ao r)=Bv (zd Ao a % zd Ao b);rw[u2]
 have n:b≠[]:=by rintro rfl;simp[zd]at l
 have W:b.length≠0:=fun h=>n<|z7.1 h
 refine yq (Ak a b) (zc (by rw[na,nb];rfl)<|zr (fun c=>?_)<|fun c=>?_)
 ·have c:=w6 c;have m:zd Ao a<zd Ao b:=by
   unfold Cg at c;have c:(if zd Ao a<zd Ao b then(-1:Int)else if zd Ao a>zd Ao b then 1 else 0)<0:=c;split at c
   ·assumption
   ·split at c<;>omega
  refine zn<|yv rfl rfl ?_;show([],a)=(Bv<|zd Ao a/zd Ao b,Bv<|zd Ao a % zd Ao b);rw[qh K m,Int.emod_eq_of_lt K m];exact Prod.ext rfl (Jc af da za)
 ·have c:=w7 c;have hge:zd Ao b<=zd Ao a:=by
   rcases yg (zd Ao a) (zd Ao b)with g|g
   ·have:Cg (As a) (As b)= -1:=wd g;omega
   ·exact g
  have hll:b.length<=a.length:=by
   rcases Nat.lt_or_ge a.length b.length with g|g
   ·have:=E2 (b:=Ao) af da db zb g;omega
   ·exact g
  refine zr (fun C=>?_)<|fun C=>?_
  ·have C:b.length=1:=by
    have:(b.length:Int)=1:=by simpa using C
    omega
   obtain⟨d,rfl⟩:=jf.1 C;have hd:0<d/\d<18446744073709551616:=Kn (k:=0) db zb rfl;have e1:zg .i64 ((a.length:Int)-1)=(a.length:Int)-1:=wr _ ae ae;rw[e1,zf];refine zc (by simp;omega) ?_;have:=Aq (Q:=Ad GN (a,[d])) a d da hd ae (fun q r ob dq dr P=>by
    refine fin q [r] ob dq (fun x j=>by rw[qd]at j;subst j;exact⟨dr.1,by show x<18446744073709551616;omega⟩) ?_ ?_
    ·rw[val_one,val_one];exact P
    ·rw[val_one,val_one];exact dr.2) a.length [] 0 (by simp) (fun x j=>by cases j) ⟨qv _,hd.1⟩ (by rw[q9];simp[zd])
   rw[ql]at this;exact this
  ·have C:b.length≠1:=by
    have:(b.length:Int)≠1:=by simpa using C
    omega
   obtain⟨k,z⟩:∃k,b.length=k+2:=⟨b.length-2,by omega⟩;obtain⟨y0,y1⟩:=Kn (k:=k+1) db zb z;obtain⟨s,hs,hs63,m,_⟩:=UZ y0 y1;have hB:=YV hs63;have f:(0:Int)<2^s:=yy af;have h2d:(0:Int)<2^(64-s):=yy af;have hyd:b.getD (k+1) 0<2^(64-s):=by
    rw[hB,zw<|b.getD (k+1) 0]at m;exact z8 m<|zp f
   have V:(Ao:Int)^(k+1)<=2^s*zd Ao b:=by
    have a1:=Dw (b:=Ao) af db zb n;rw[z,show k+2-1=k+1 by omega]at a1;have a2:=zk (show(1:Int)<=2^s by omega)<|zp l;omega
   have hv2:2^s*zd Ao b<(Ao:Int)^(k+2):=by
    have A:zd Ao b=zd Ao (b.take<|k+1)+(Ao:Int)^(k+1)*b.getD (k+1) 0:=by
     rw[<-AH,zj ae]
    have b2:=Bs (b:=Ao) af<|AQ db<|k+1;rw[zz,qc ae]at b2;have hp:=AR (b:=Ao) af<|k+1;have b3:zd Ao b<(Ao:Int)^(k+1)*2^(64-s):=by
     have:=zh (show b.getD (k+1) 0+1<=2^(64-s)by omega)<|zp hp;rw[zx,y7]at this;omega
    have b4:=qq b3 f;have b5:(2:Int)^s*((Ao:Int)^(k+1)*2^(64-s))=(Ao:Int)^(k+2):=by
     rw[ye, <-hB];exact(zt ..).symm
    rw[b5]at b4;exact b4
   have Z:∀o:List Int,Aw Ao o->zd Ao o=2^s*zd Ao b->Aw Ao (Ax o)/\(Ax o).length=k+2/\zd Ao (Ax o)=2^s*zd Ao b/\1<=(Ax o).getD (k+1) 0:=by
    intro o ho hv;have y:=HA ho;have v:zd Ao (Ax o)=2^s*zd Ao b:=by rw[JF,hv]
    have E:=kG (b:=Ao) af y (LX o) (k:=k+1) (by rw[v];exact V) (by rw[v];exact hv2);have:=(Kn y (LX o) E).1;exact⟨y,E,v,by omega⟩
   have M:zg .i64 (((k+2:Nat):Int)-1)=((k+1:Nat):Int):=by rw[wr _ ae ae];omega
   have e3:zg .i64 (((k+2:Nat):Int)+1)=((k+3:Nat):Int):=by rw[wr _ ae ae];omega
   have e4:zg .i64 ((a.length:Int)+1)=((a.length+1:Nat):Int):=by rw[wr _ ae ae];omega
   have e5:zg .i64 ((a.length:Int)-((k+2:Nat):Int))=((a.length-(k+2):Nat):Int):=by rw[wr _ ae ae];omega
   have e6:zg .i64 (((a.length-(k+2):Nat):Int)+1)=((a.length-(k+2)+1:Nat):Int):=by rw[wr _ ae ae];omega
   have e7:zg .i64 ((64:Int)-(s:Int))=((64-s:Nat):Int):=by rw[wr _ ae ae];omega
   have em:Min.min s 64=s:=ae
   have J:Min.min (64-s) 64=64-s:=ae
   rw[z,M,e3,zf,zf,hs];refine zc (by simp;omega) (zc (CX ae y1) (zc (by simp;omega) ?_));refine S7 (F:=fun i o=>L2 a b s (k+3) b ((k+2:Nat):Int) i o) b s hs63 db (fun i o B ho h=>?_) (fun o hol G Y=>?_) (k+2) 0 [] 0 ae rfl (fun x j=>by cases j) ⟨qv _,f⟩ (by simp[zd])
   ·have U:=wn (i:=i) ae;have A:(decide ((0:Int)<=(i:Int))&&decide ((i:Int)<((k+3:Nat):Int)))=true:=by simp;omega
    refine zo (AJ ..) (zc (by simp;omega) ?_);rw[U,e7,zf,zf,zf,zf,em,J];refine zc (by simp;omega) (zc A<|zc (w4 ae)<|zc (by simp)<|zc A<|zc (w4 ae)<|zr (fun c=>zc (by simp)<|zc (by simp;omega)<|zc (by simp;omega) ?_)<|fun c=>?_)
    ·have c:=w6 c;rw[wd ae]at h;exact h
    ·have c:=w7 c;rw[wc ae]at h;exact h
   obtain⟨vd,vl,O,v1⟩:=Z o G Y;have eo:o.take (k+3)=o:=zj ae;rw[z];refine zo (AJ ..) (zy (by simp) ?_);rw[eo,e4,zf,z,M,zf,hs];refine zc (Ab (by simp;omega)<|Ep ae G) (zc (by simp;omega) ?_);refine S7 (F:=fun i o'=>L3 a b s (k+3) b ((k+2:Nat):Int) ((k+2:Nat):Int) o s (a.length+1) a a.length i o' o) a s hs63 da (fun i o' B ho h=>?_) (fun u hul I R=>?_) a.length 0 [] 0 ae rfl (fun x j=>by cases j) ⟨qv _,f⟩ (by simp[zd])
   ·have U:=wn (i:=i) ae;have A:(decide ((0:Int)<=(i:Int))&&decide ((i:Int)<((a.length+1:Nat):Int)))=true:=by simp;omega
    refine zo (Ca ..) (zc (by simp;omega) ?_);rw[U,e7,zf,zf,zf,zf,em,J];refine zc (by simp;omega) (zc A<|zc (w4 ae)<|zc (by simp)<|zc A<|zc (w4 ae) (zr (fun c=>zc (by simp)<|zc (by simp;omega)<|zc (by simp;omega) ?_)<|fun c=>?_))
    ·have c:=w6 c;rw[wd ae]at h;exact h
    ·have c:=w7 c;rw[wc ae]at h;exact h
   refine zo (Ca ..) (zy (by simp) ?_);rw[eo,vl,e5,e6,zf,z,M,zf,hs];refine zc (by simp;omega) ?_;have D:=AR (b:=Ao) af<|a.length-(k+2)+1;have start:zd Ao (u.drop<|a.length-(k+2)+1)<zd Ao (Ax o):=by
    have a1:=Cq Ao u (a.length-(k+2)+1) ae;have a2:=AD (b:=Ao) af<|AQ I<|a.length-(k+2)+1;have a3:=Bs (b:=Ao) af da;have a4:=qq a3 f;have a5:(Ao:Int)^a.length=(Ao:Int)^(a.length-(k+2)+1)*(Ao:Int)^(k+1):=by rw[<-ji];congr 1;omega
    have a6:=Dw (b:=Ao) af db zb n;rw[z,show k+2-1=k+1 by omega]at a6;have a7:=zh a6<|zp f;have a8:=zh a7<|zp D;rw[a5,ye]at a4;rw[O];refine z8 (a:=(Ao:Int)^(a.length-(k+2)+1)) ?_<|zp D;omega
   have go:=B0 (Q:=Ad GN (a,b)) s (Ax o) k a.length vl la9 ae vd v1 (2^s*zd Ao a) (fun u' N L t H p T P=>by
    have hz:zd Ao (u'.drop<|k+2)=0:=Jh (b:=Ao) af t ae (by rw[O]at p;omega);refine E5 s hs63 a.length (k+2) (a.length-(k+2)+1) ae la9 u' N L t hz T ae H (fun w ob hw S=>?_) (k+2) 0 [] ae rfl (fun x j=>by cases j) (by simp[zd]);have e:zd Ao u'=2^s*(zd Ao a-zd Ao N*zd Ao b):=by
     rw[O,yd,zw<|zd Ao b]at P;rw[qf];omega
    have ew:zd Ao w=zd Ao a-zd Ao N*zd Ao b:=by
     rw[S,e];exact qy _ ae
    refine fin N w ob H hw ae ?_;rw[O,e]at p;have:=z8 p<|zp f;omega) (a.length-(k+2)+1) u [] (by simp) hul I (fun x j=>by cases j) start (by rw[R];simp[zd])
   rw[ql,show((a.length-(k+2)+1:Nat):Int)-1=((a.length-(k+2):Nat):Int)by omega]at go;exact go
end T212
theorem Ri:Af A9 212 GN:=T212.ok
theorem sI:Dg XF0:=fun g sp h=>by cases h
theorem T106n.ok:Af A9 106 dC:=by
 refine BN sI<|fun(n:Int) _=>?_;refine yq (T106n.Ak n)<|zn<|yv rfl rfl ?_;show(n,[])=(n,CT n);rw[EA]
theorem uC:Dg XF1:=
 Aa T106n.ok (Aa Ri<|Aa (T179.ok FI)<|Aa (T180.ok FI)<|Aa T160.ok<|Aa T139.ok<|Aa T161.ok AI)
theorem Xt{m D:Int}(c:0<D):(m % D=0->(-m)/D= -(m/D)/\(-m) % D=0)/\(m % D≠0->(-m)/D= -(m/D)-1/\(-m) % D=D-m % D):=by
 have e:=yn m D;have d:=yo m (show D≠0 by omega);have f:=yj m c;refine⟨fun h=>?_,fun h=>?_⟩
 ·exact(yp (a:= -m) (b:=D) (r:=0) (q:= -(m/D)) c).2 ⟨by rw[jk];omega,by omega,by omega⟩
 ·exact(yp (a:= -m) (b:=D) (r:=D-m % D) (q:= -(m/D)-1) c).2 ⟨by rw[qf,jk,y7];omega,by omega,by omega⟩
theorem xK{m D:Int}(a:0<=m)(b:0<D):(0<=m/D/\m/D<=m)/\(0<=m % D/\m % D<=m/\m % D<D):=by
 have e:=yn m D;have q0:0<=m/D:=qk a ae;have q1:m/D<=m:=Int.ediv_le_self _ a;have c:=yo m (show D≠0 by omega);have d:=yj m b;have:=yb (show 0<=D by omega) q0;exact⟨⟨q0,q1⟩,c,by omega,d⟩
theorem YB(n:Bool){v:Int}(h:0<=v):Ag (jl n v)=v:=by
 rw[DL,Ai];split<;>omega
theorem D1{n:Int}(h:Ag n<(Ao:Int)^9000):Bb (C8 n)=true:=by
 have:=NZ h ae;unfold Bb;exact Ab this.1<|w4 this.2
theorem gQ{a b:AG}(h:0<zm a+zm b):EO a b=C8 (zm a+zm b):=by
 unfold EO;split
 ·next c=>
  have:=Et c.2.2;rw[Bo c.1,Bo c.2.1]at h ⊢;exact(Cb ae).symm
 ·rfl
theorem Og:((1:Int),CT (1:Int))=C8 1:=by rw[EA];rfl
namespace T190
theorem Ru{a b:AG}(q:Int)(h: -9223372036854775808<q/\q<9223372036854775808)(c:El a b=C8 q\/(-9223372036854775808<q/\El a b=NI (C8<|q+1) (1,[])/\q+1<9223372036854775808)):El a b=(q,[]):=by
 rcases c with c|⟨d,c,e⟩
 ·rw[c,Cb h]
 ·rw[c,Cb ae];unfold NI Ck;rw[wd ⟨rfl,by decide⟩];unfold EO;rw[wd ⟨rfl,rfl,DZ (by show _<=q+1+ -1;omega)<|by show q+1+ -1<_;omega⟩];show(q+1+ -1,[])=(q,[]);rw[show q+1+ -1=q by omega]
set_option maxHeartbeats 1000000 in
theorem ok:Af A9 190 Hi:=by
 refine BN uC<|fun(i:(Int×List Int)×(Int×List Int)) t=>?_;obtain⟨a,b⟩:=i;have t:(Bb a&&Bb b&&decide (0<zm b))=true:=t;rw[zi,zi,w5]at t;obtain⟨⟨ha,hb⟩,hD⟩:=t;obtain⟨oa,_,na,_,va,ba⟩:=words ha;obtain⟨ob,_,nb,_,vb,bb⟩:=words hb;have A:Ag (zm b)=zm b:=by rw[Ai];omega
 have C:=AK<|zm a;have d:Ag (zm a)=if zm a<0 then -zm a else zm a:=rfl
 obtain⟨⟨q0,q1⟩,u,z,F⟩:=xK (D:=zm b) C hD;obtain⟨z1,z2⟩:=Xt (m:=Ag<|zm a) hD;have j:Th (Bv<|Ag<|zm a) (Bv<|Ag<|zm b)=true:=by
  unfold Th;exact Ab (Ab (Ab (Ab na nb)<|w4<|Kt C ba)<|w4<|Kt (AK _) bb) (w4<|by rw[vb,A];exact hD)
 have fin:∀(q r:AG) v ob,Ik Hi.outs v ob=some (true,(q,r))->q=El a b->r=C8 (zm a % zm b)->Ad Hi (a,b) v ob:=fun q r v ob h O P=>yv h rfl (by rw[O,P];rfl)
 have e:Ends XF1 (L1 (decide (zm a<0)) (Bv<|As (Bv<|Ag<|zm a)/As (Bv<|Ag<|zm b)) (Bv<|As (Bv<|Ag<|zm a) % As (Bv<|Ag<|zm b)) 0 0 b.1 b.2) (Ad Hi (a,b)):=by
  rw[va,vb,A];obtain⟨L,_,R⟩:=Di (n:=Ag (zm a)/zm b) (k:=9000) q0 ae ae;obtain⟨nr,_,vr⟩:=Di (n:=Ag (zm a) % zm b) (k:=9000) u ae ae;have H:Bb (C8<|jl (decide (zm a<0))<|Ag (zm a) % zm b)=true:=D1 (by rw[YB _ u];omega);have M:Bb (C8<|jl (decide (zm a<0))<|Ag (zm a)/zm b)=true:=D1 (by rw[YB _ q0];omega);have K:Bb ((1:Int),CT (1:Int))=true:=by rw[Og];decide
  have es:Ic (C0<|jl (decide (zm a<0))<|Ag (zm a) % zm b,CZ<|jl (decide (zm a<0))<|Ag (zm a) % zm b)=Sp.Mo (jl (decide (zm a<0))<|Ag (zm a) % zm b):=by
   show Sp.Mo (zm<|C8 _)=_;rw[CH]
  refine zo (Al ..)<|zc L<|zc nr ?_;rw[R,vr];refine zo (AJ ..)<|zc (BU H).1 ?_;rw[es];refine zr (fun c=>?_)<|fun c=>?_
  ·have c:=w6 c;have l:jl (decide (zm a<0)) (Ag (zm a) % zm b)<0:=by
    rw[Lw]at c;split at c
    ·assumption
    ·split at c<;>omega
   have f:zm a<0:=by
    rcases yg (zm a) 0 with g|g
    ·exact g
    ·rw[DL,wc<|by simp;omega]at l;omega
   have hr:Ag (zm a) % zm b≠0:=by
    rw[DL,wd<|w4 f]at l;omega
   obtain⟨z3,z4⟩:=z2 hr;refine zc rfl (zc (Ab M K)<|zc (Ab H hb)<|zn<|fin (NI (C8<|jl (decide (zm a<0))<|Ag (zm a)/zm b) (1,CT 1)) (EO (C8<|jl (decide (zm a<0))<|Ag (zm a) % zm b) b) _ _ rfl ?_ ?_)
   ·unfold El;rw[wd ⟨f,hr⟩,EA,DL,wd<|w4 f]
   ·have ev:zm a= -Ag (zm a):=by rw[d,wd f];omega
    have G:zm (C8<|jl (decide (zm a<0))<|Ag (zm a) % zm b)= -(Ag (zm a) % zm b):=by rw[CH,DL,wd<|w4 f]
    have J:zm a % zm b=zm b-Ag (zm a) % zm b:=by rw[<-z4, <-ev]
    rw[gQ (by rw[G];omega),G,J];congr 1;omega
  ·have c:=w7 c;have l:¬(zm a<0/\Ag (zm a) % zm b≠0):=by
    rintro⟨f,hr⟩;rw[DL,wd<|w4 f,Lw,wd ae]at c;omega
   refine zn<|fin (C8<|jl (decide (zm a<0))<|Ag (zm a)/zm b) (C8<|jl (decide (zm a<0))<|Ag (zm a) % zm b) _ _ rfl ?_ ?_
   ·unfold El;rw[wc l]
   ·congr 1;rcases yg (zm a) 0 with g|g
    ·have hr:Ag (zm a) % zm b=0:=by
      rcases yg 0 (Ag (zm a) % zm b)with g2|g2
      ·exact wh ⟨g,by omega⟩ l
      ·omega
     have ev:zm a= -Ag (zm a):=by rw[d,wd g];omega
     have:=(z1 hr).2;rw[<-ev]at this;rw[this,hr,DL];split<;>rfl
    ·rw[DL,wc (by simp;omega),d,wc ae]
 refine yq (Ak a b)<|zr (fun E=>zr (fun l=>zr (fun x=>?_)<|fun x=>?_)<|fun l=>?_)<|fun E=>?_
 ·have a2:=Pm E;have S:=Pm l;have x:a.1≠ -9223372036854775808:=by simpa using x
  have U:=Et (n:=a.1) (by
   have:=oa;unfold Sp.C5 at this;rw[zi]at this;exact this.1)
  have T:=Et (n:=b.1) (by
   have:=ob;unfold Sp.C5 at this;rw[zi]at this;exact this.1)
  have o:=Bo a2;have p:=Bo S;rw[o]at d;rw[p]at hD F;rw[o,p]at q0 q1 u z z1 z2;rw[o]at F;have s:yt a.1 b.1=if a.1<0 then -(Ag a.1/b.1)else Ag a.1/b.1:=by
   rw[d];split
   ·have:=Int.neg_tdiv (-a.1) b.1;rw[Int.neg_neg]at this;rw[this,zu ae]
   ·exact zu ae
  have hr:qt a.1 b.1=if a.1<0 then -(Ag a.1 % b.1)else Ag a.1 % b.1:=by
   rw[d];split
   ·have:=Int.neg_tmod (-a.1) b.1;rw[Int.neg_neg]at this;rw[this,z6 ae]
   ·exact z6 ae
  refine zc (w4 ae) (zc (w4 ae)<|zr (fun c=>?_)<|fun c=>?_)
  ·have c:=w6 c;rw[hr]at c;have f:a.1<0:=by split at c<;>omega
   rw[wd f]at c s hr;rw[wd f]at d;obtain⟨z3,z4⟩:=z2 ae;have ev:a.1= -Ag a.1:=ae
   have N:Ag a.1/b.1<9223372036854775807:=by
    rcases yg (Ag a.1/b.1) 9223372036854775807 with g|g
    ·exact g
    ·have:=yn (Ag a.1) b.1;have:=zk (show 1<=b.1 by omega) q0;omega
   refine zn<|fin (zg .i64<|zg .i64 (yt a.1 b.1)-1,[]) (zg .i64<|qt a.1 b.1+b.1,[]) _ _ rfl ?_ ?_
   ·rw[s,wr (-(Ag a.1/b.1)) ae ae,wr _ ae ae];refine(Ru _ ae<|.inr ⟨by omega,?_,by omega⟩).symm;unfold El;rw[o,p,wd ⟨f,by omega⟩,show -(Ag a.1/b.1)-1+1= -(Ag a.1/b.1)by omega]
   ·rw[hr,wr _ ae ae];have:a.1 % b.1=b.1-Ag a.1 % b.1:=by rw[<-z4, <-ev]
    rw[o,p,this,Cb ae];congr 1;omega
  ·have c:=w7 c;rw[hr]at c;refine zn<|fin (zg .i64<|yt a.1 b.1,[]) (qt a.1 b.1,[]) _ _ rfl ?_ ?_
   ·have w:El a b=C8 (yt a.1 b.1):=by
     unfold El;rw[o,p,s,wc (by rintro⟨I,V⟩;rw[wd I]at c;omega),DL];by_cases h:a.1<0
     ·rw[wd<|w4 h,wd h]
     ·rw[wc (by simp;omega),wc h]
    have y: -9223372036854775808<yt a.1 b.1/\yt a.1 b.1<9223372036854775808:=by
     rw[s,d]at*;split<;>split at q1<;>split at q0<;>omega
    rw[wr _ ae ae];exact(Ru _ y<|.inl w).symm
   ·rw[hr];by_cases h:a.1<0
    ·rw[wd h]at c ⊢;have B:Ag a.1 % b.1=0:=ae
     rw[wd h]at d;have ev:a.1= -Ag a.1:=ae
     have:=(z1 B).2;rw[<-ev]at this;rw[o,p,this,B];rfl
    ·rw[wc h]at c ⊢;rw[wc h]at d;rw[o,p,d,Cb<|by rw[d]at u z;omega]
 ·exact zc oa<|zc ob<|zc j e
 ·exact zc oa<|zc ob<|zc j e
 ·exact zc oa<|zc ob<|zc j e
end T190
theorem wB:Dg XF2:=
 Aa T190.ok (Aa T202.ok<|Aa T161.ok AI)
theorem qQ{a:AG}(h:Sp.C5 a=true):Vs a=C8 (Ag<|zm a):=by
 have k:=vV h;obtain⟨hr,b⟩:=D5 h;unfold Vs;by_cases h0:a.1<0
 ·rw[wd h0,Ai];unfold Ck;have e:=k.1 h0;split
  ·next c=>rw[Bo c.1]at e ⊢;rw[Cb ae];congr 1;omega
  ·congr 1;omega
 ·rw[wc h0];obtain⟨s,w⟩:=a;have h0:¬s<0:=h0;rcases b with b|⟨j,i,f⟩
  ·have b:w=[]:=b;subst b;have hr: -9223372036854775808<=s/\s<9223372036854775808:=hr;rw[EW,Ai,Cb ae];congr 1;omega
  ·obtain⟨_,d,z⟩:=Fu j;have i:s=1\/s= -1:=i;have f:9223372036854775808<=As w:=f;have g:w≠[]:=by rintro rfl;exact wh f af
   have l:s=1:=ae
   subst l;rw[XJ g,wc af,Ai];have:=SV (w:=w) false d z f;rw[wc af,wc af]at this;rw[show((As w).natAbs:Int)=As w by omega,this]
theorem lK(n:Int):Ic (C0 n,CZ n)=Sp.Mo n:=by
 show Sp.Mo (zm<|C8 _)=_;rw[CH]
theorem LP(n:Int):zm (C0 n,CZ n)=n:=CH n
theorem ZS(m n:Int):eQ (C0 m,CZ m) (C0 n,CZ n)=C0 (m % n)/\kF (C0 m,CZ m) (C0 n,CZ n)=CZ (m % n):=by
 constructor
 ·show C0 (zm (C8 _) % zm (C8 _))=_;rw[CH,CH]
 ·show CZ (zm (C8 _) % zm (C8 _))=_;rw[CH,CH]
theorem Ga{n:Int}(h:Bb (C8 n)=true):Bb (C0 n,CZ n)=true:=h
theorem Oe{a:AG}(h:Sp.C5 a=true):Pr a=C0 (Ag<|zm a)/\Qt a=CZ (Ag<|zm a):=by
 unfold Pr Qt;rw[qQ h];exact⟨rfl,rfl⟩
theorem UU(x y:Nat):((x:Int) % (y:Int))=((x % y:Nat):Int):=rfl
theorem uQ(a b:AG)(n:Int)(h:n=Sp.gI (zm a) (zm b)):(C0 n,CZ n)=(Nx a b,Nd a b):=by subst h;rfl
namespace T170
theorem qP(n:Nat)(h:(n:Int)<(Ao:Int)^9000):Bb (C8 (n:Int))=true:=D1 (by rw[Ai,Int.natAbs_natCast];exact h)
theorem Aq(g:Nat)(e L:Int)(c:∀n:Nat,(n:Int)<L->Bb (C8 (n:Int))=true)(i:∀ob,Q (.agg [.dat i64<|C0 (g:Int),.dat (.nlist u64)<|CZ (g:Int)]) ob):∀(f x y:Nat),y<f->jz x y=g->(x:Int)<L->(y:Int)<L->
  Ends XF2 (L1 e (C0 (y:Int)) (CZ (y:Int)) (C0 (x:Int))<|CZ (x:Int)) Q
 |0,x,y,h,_,_,_=>by omega
 |f+1,x,y,m,b,j,a=>by
  have k:Bb (C8 (x:Int))=true:=c x j;have d:Bb (C8 (y:Int))=true:=c y a
  refine zo (Al ..)<|zc (BU<|Ga d).1 ?_;rw[lK,(ZS _ _).1,(ZS _ _).2,LP,UU];by_cases h0:y=0
  ·subst h0;rw[Nat.gcd_zero_right]at b;subst b;exact zy rfl (zn<|i _)
  ·have l:x % y<y:=Nat.mod_lt _ ae;refine zc ?_ (zc (Ab (Ab (Ga k)<|Ga d)<|w4 ae) ?_)
   ·rw[Lw,wc ae,wd ae];rfl
   ·exact Aq g e L c i f y (x % y) ae (by rw[jg, <-Nat.gcd_rec,jg];exact b) a ae
theorem ok:Af A9 170 ZZ:=by
 refine BN wB<|fun(i:(Int×List Int)×(Int×List Int)) c=>?_;obtain⟨a,b⟩:=i;have c:(Bb a&&Bb b)=true:=c;rw[zi]at c;obtain⟨ha,hb⟩:=c;have d:=(BU ha).1;have ob:=(BU hb).1;have f:=bounds ha;have e:=bounds hb;rw[Ai]at f e;refine yq (Ak a b)<|zc d<|zc ob ?_;show Ends XF2 (L1 0 (Pr b) (Qt b) (Pr a)<|Qt a) _;rw[(Oe d).1,(Oe d).2,(Oe ob).1,(Oe ob).2,Ai,Ai];refine Aq (jz (zm a).natAbs (zm b).natAbs) 0 _ qP (fun ob=>yv rfl rfl (uQ a b _ ?_)) ((zm b).natAbs+1) _ _ (Nat.lt_succ_self _) rfl f e;rw[F8];rfl
end T170
theorem Adb(n:Nat)(h:n<9223372036854775808):H4 .i64 (n:Int) 1=((n % 2:Nat):Int):=by
 have e:(yf 64 (n:Int)&&&yf 64 1).toNat=n % 2:=by
  rw[BitVec.toNat_and];have a:(yf 64 (n:Int)).toNat=n:=by rw[BitVec.ofInt_natCast,BitVec.toNat_ofNat];exact Nat.mod_eq_of_lt ae
  have b:(yf 64 1).toNat=2^1-1:=af
  rw[a,b,Nat.and_two_pow_sub_one_eq_mod]
 show zg .i64 (((yf 64 (n:Int)&&&yf 64 1).toNat:Nat):Int)=_;rw[e];exact wr _ ae ae
namespace T176
theorem UT{c:Int}(h:c≠0):1<=Ag c:=by rw[Ai];omega
theorem Zj(c:Int):∀k:Nat,Ag (c^k)=Ag c^k
 |0=>by rw[yc,yc];rfl
 |k+1=>by rw[zt,zt,Jj,Zj c k]
theorem one_le_pow{c:Int}(h:1<=c):∀k:Nat,1<=c^k
 |0=>by rw[yc];decide
 |k+1=>by
  rw[zt];have:=zk (one_le_pow h k) (show 0<=c by omega);omega
theorem Ac2{p c L:Int}{k:Nat}(m:1<L)(h:Ag (p*c^k)<L)(g:c=0->Ag p<=1)(i:c≠0->p≠0):Ag p<L/\(1<=k->Ag c<L)/\(2<=k->Ag (c*c)<L)/\(1<=k->Ag (p*c)<L):=by
 by_cases b:c=0
 ·subst b;have:=g rfl;have e:Ag 0=0:=rfl;exact⟨by omega,fun _=>by rw[e];omega,fun _=>by rw[y8,e];omega,fun _=>by rw[y8,e];omega⟩
 ·have hp:=UT<|i b;have a:=UT b;rw[Jj,Zj]at h;rw[Jj,Jj];generalize Ag p=P at*;generalize Ag c=C at*;have l:1<=C^k:=one_le_pow a k;have a1:P<=P*C^k:=by
   have:=zh l (show 0<=P by omega);omega
  have f:C^k<=P*C^k:=by
   have:=zk hp (show 0<=C^k by omega);omega
  refine⟨by omega,fun d=>?_,fun d=>?_,fun d=>?_⟩
  ·obtain⟨j,rfl⟩:∃j,k=j+1:=⟨k-1,by omega⟩;rw[zt]at f h;have:=zk (one_le_pow a j) (show 0<=C by omega);omega
  ·obtain⟨j,rfl⟩:∃j,k=j+2:=⟨k-2,by omega⟩;have e:C^(j+2)=C^j*(C*C):=by rw[zt,zt,yd]
   rw[e]at f h;have:=zk (one_le_pow a j) (yb (show 0<=C by omega) (show 0<=C by omega));omega
  ·obtain⟨j,rfl⟩:∃j,k=j+1:=⟨k-1,by omega⟩;have e:P*C^(j+1)=C^j*(P*C):=by rw[zt,ye]
   rw[e]at h;have:=zk (one_le_pow a j) (yb (show 0<=P by omega) (show 0<=C by omega));omega
theorem cI{p c:Int}{k j:Nat}(h:k=2*j):p*(c*c)^j=p*c^k:=by
 subst h;rw[Int.pow_mul,zt,zt,yc,yh]
theorem oM{p c:Int}{k j:Nat}(h:k=2*j+1):p*c*(c*c)^j=p*c^k:=by
 subst h;rw[zt,Int.pow_mul,show c^2=c*c by rw[zt,zt,yc,yh],yd,zw c]
theorem Adl{x:Int}(h:x<(18446744073709551616:Int)^(4000:Nat)):x<(Ao:Int)^9000:=
 qe h (AM (b:=Ao) af ae)
theorem Aq(o1 R:Int)(hR:Ag R<(18446744073709551616:Int)^(4000:Nat))(m:∀ob,Q (.agg [.dat i64<|C0 R,.dat (.nlist u64)<|CZ R]) ob):
  ∀(f k:Nat) (p:Int) (a:AG),k<f->k<=100000->(1<=k->Bb a=true)->p*zm a^k=R->(zm a=0->Ag p<=1)->(zm a≠0->p≠0)->
   Ends XF3 (L1 (k:Int) (C0 p) (CZ p) o1 a.1 a.2) Q
 |0,k,p,a,h,_,_,_,_,_=>by omega
 |f+1,k,p,a,D,v,w,i,s,r=>by
  have B:(1:Int)<(18446744073709551616:Int)^(4000:Nat):=qe (show(1:Int)<18446744073709551616^(1:Nat)by decide) (AM (b:=18446744073709551616) af ae);rw[<-i]at hR;obtain⟨s1,s2,s3,s4⟩:=Ac2 B hR s r;by_cases h0:k=0
  ·subst h0;rw[yc,y7]at i;subst i;exact zo (Al ..) (zy (by simp)<|zn<|m _)
  ·have x:Bb (C0 p,CZ p)=true:=D1<|Adl s1;have j:Bb a=true:=w ae;have C:Int.fdiv (k:Int) ((2:Int)^(1:Nat))=((k/2:Nat):Int):=by
    rw[yz _ af];rfl
   have u:(Fx (C0 p,CZ p) a,Fv (C0 p,CZ p) a)=C8 (p*zm a):=by
    show C8 (zm (C8 p)*zm a)=_;rw[CH]
   have n:Fx (C0 p,CZ p) (a.1,a.2)=C0 (p*zm a):=wi Prod.fst u;have l:Fv (C0 p,CZ p) (a.1,a.2)=CZ (p*zm a):=wi Prod.snd u;have o:zm (FB a a)=zm a*zm a:=DK a a;have t:∀q:Int,1<k->q*(zm a*zm a)^(k/2)=p*zm a^k->(zm a=0->Ag q<=1)->(zm a≠0->q≠0)->Ends XF3 (L1 ((k/2:Nat):Int) (C0 q) (CZ q) o1 (Fx (a.1,a.2) (a.1,a.2))<|Fv (a.1,a.2) (a.1,a.2)) Q:=by
    intro q e g y A;refine Aq o1 R (by rw[i]at hR;exact hR) m f (k/2) q (FB a a) ae ae (fun _=>D1<|Adl<|s3 ae) (by rw[o,g,i]) (fun z=>y ?_)<|fun z=>A ?_
    ·rw[o]at z;rcases Int.mul_eq_zero.1 z with z|z<;>exact z
    ·rintro z2;rw[o,z2]at z;exact z rfl
   have st:∀q:Int,k=1->q=R->Ends XF3 (L1 ((k/2:Nat):Int) (C0 q) (CZ q) o1 a.1 a.2) Q:=by
    intro q e g;subst e g;exact zo (Al ..) (zy (by simp)<|zn<|m _)
   refine zo (Al ..) (zc (w4 ae) ?_);rw[Adb k ae,C,n,l];refine zr (fun c=>?_)<|fun c=>?_
   ·have c:((k % 2:Nat):Int)=1:=by simpa using c
    refine zc (Ab x j)<|zr (fun d=>zc (Ab j j)<|zc rfl ?_)<|fun d=>zc rfl ?_
    ·have d:=w6 d;refine t _ ae (oM ae) (fun z=>by rw[z,y8];decide)<|fun z=>?_;exact Int.mul_ne_zero (r z) z
    ·have d:=w7 d;have e:k=1:=ae
     refine st _ e ?_;rw[<-i,e,zt,yc,yh]
   ·have c:((k % 2:Nat):Int)≠1:=by simpa using c
    refine zr (fun d=>zc (Ab j j)<|zc rfl ?_)<|fun d=>?_
    ·have d:=w6 d;exact t _ ae (cI ae) s r
    ·have d:=w7 d;omega
theorem sQ:Dg XF3:=Aa T106n.ok<|Aa T127.ok AI
theorem ok:Af A9 176 oC:=by
 refine BN sQ<|fun(i:(Int×List Int)×Int) b=>?_;obtain⟨a,k⟩:=i;have b:(Bb a&&(decide (0<=k)&&decide (k<=100000)&&decide (Ag (Sp.pI (zm a) k)<(18446744073709551616:Int)^(4000:Nat))))=true:=b;rw[zi,zi,zi,w5,w5,w5,R8]at b;obtain⟨ha,⟨k0,k1⟩,hR⟩:=b;obtain⟨n,rfl⟩:=qg k0;have c:CT 1=CZ 1:=by rw[EA];rfl
 refine yq (Ak a n)<|zc rfl ?_;rw[c];refine Aq (Q:=Ad oC (a,(n:Int))) 0 (zm a^n) hR (fun ob=>yv rfl rfl ?_) (n+1) n 1 a ae ae (fun _=>ha) (yh _) (fun _=>by decide) (fun _=>by decide);show C8 _=C8 (Sp.pI (zm a) (n:Int));rw[R8];rfl
end T176
end Go.Pe
namespace Go.Sp
theorem Ot{l:List Int}(h:J1 l=true):l.length<=20000/\Aw B9 l:=by
 unfold J1 at h;rw[zi,w5,jc]at h;exact⟨h.1,fun d a=>by
  have:=h.2 d a;rw[zi,w5,w5]at this;exact this⟩
theorem KR{l:List Int}(b:l.length<=20000)(c:Aw B9 l):J1 l=true:=by
 unfold J1;rw[zi,w5,jc];exact⟨b,fun d a=>by
  have:=c d a;rw[zi,w5,w5];exact this⟩
theorem zQ{l:List Int}(h:hR l=true):l.length<=9000/\Aw B9 l:=by
 unfold hR at h;rw[zi,w5]at h;exact⟨h.2,(Ot h.1).2⟩
theorem RH{l:List Int}(a:l.length<=9000)(b:Aw B9 l):hR l=true:=by
 unfold hR;rw[KR ae b,qj];exact w4 a
theorem Bn{l:List Int}(h:Ba l=true):l.length<=20000/\Aw B9 l/\nz l:=by
 unfold Ba at h;rw[zi]at h;have:=Ot h.1;exact⟨this.1,this.2,by
  have:=h.2;unfold nzW at this;have:l.getLast?≠some 0:=w6 this;exact this⟩
theorem fP{l:List Int}(a:l.length<=20000)(c:Aw B9 l)(b:nz l):Ba l=true:=by
 unfold Ba nzW;rw[KR a c,qj];exact w4 b
theorem GX{l:List Int}(h:Aw B9 l)(i:Nat):0<=l.getD i 0/\l.getD i 0<1000000000:=Km af h i
theorem FE{l:List Int}{x:Int}(h:Aw B9 l)(b:0<=x/\x<1000000000):Aw B9 (l++[x]):=Fj h (fun d a=>by rw[qd]at a;subst a;exact b)
theorem Cp(l:List Int)(x:Int):val B9 (l++[x])=val B9 l+(B9:Int)^l.length*x:=by
 rw[Da];simp[val]
theorem Kc(i:Nat)(c:Int):(B9:Int)^(i+1)*c=(B9:Int)^i*(1000000000*c):=by
 rw[zt,yd];rfl
theorem Gf{l:List Int}(h:Aw B9 l):Ax l=B5 (Au l):=YD af h
theorem NO{n:Int}{k:Nat}(h0:0<=n)(h:n<(B9:Int)^k):(B5 n).length<=k:=by
 refine N9 B9 af k n.toNat n.toNat ?_;have e:((B9^k:Nat):Int)=(B9:Int)^k:=Int.natCast_pow ..;rw[<-e]at h;generalize B9^k=P at*;omega
theorem Hk{n:Int}{k:Nat}(h0:0<=n)(h:n<(B9:Int)^k)(d:k<=9000):Ba (B5 n)=true/\hR (B5 n)=true/\Au (B5 n)=n/\(B5 n).length<=k:=by
 have c:=NO h0 h;have a:=FO (b:=B9) af n;exact⟨fP ae a (Yj af n),RH ae a,C9 af h0,c⟩
end Go.Sp
namespace Go.Pe
open Sp
open Go.Det
theorem TX:Dg pR:=fun g sp h=>by cases h
namespace T193
theorem Aq{Q:PV->Ob->Prop}:∀(n:Nat) (w:List Int),w.length=n->n<=20000->(∀ob,Q (.dat li<|Ax w) ob)->Ends pR (L1 w) Q
 |0,w,d,_,a=>by
  have:w=[]:=z7.1 d;subst this;exact zo (Al ..) (zy (by simp)<|zn<|a _)
 |n+1,w,d,g,a=>by
  obtain⟨p,x,rfl⟩:∃p x,w=p++[x]:=by
   have b:w≠[]:=by rintro rfl;simp at d
   exact⟨w.dropLast,w.getLast b,(qm b).symm⟩
  have hp:p.length=n:=by simpa using d
  have e:zg .i64 (((p++[x]).length:Int)-1)=(n:Int):=by rw[wr _ ae ae];omega
  have f:(p++[x]).getD n 0=x:=DU _ _ _ _ hp;have t1:(p++[x]).take n=p:=by rw[<-hp];exact jj
  refine zo (Al ..) (zc (w4 ae) ?_);rw[e,zf,f,t1];refine zc (by simp;omega) (zr (fun c=>zc (by simp;omega) ?_)<|fun c=>?_)
  ·have c:x=0:=by simpa using c
   subst c;rw[IM]at a;exact Aq n p hp ae a
  ·have c:x≠0:=by simpa using c
   rw[Iy<|YS c]at a;exact zn<|a _
theorem ok:Af A9 193 Sr:=by
 refine BN TX<|fun(w:List Int) a=>?_;have a:w.length<=20000:=w6 a;exact yq (Ak w)<|Aq w.length w rfl a (fun ob=>yv rfl rfl rfl)
end T193
theorem Ts:Dg eG:=Aa T193.ok AI
theorem T155.ok:Af A9 155 IY:=by
 refine BN Ts<|fun(i:Bool×List Int) hi=>?_;obtain⟨n,w⟩:=i;refine yq (T155.Ak n w)<|zc hi<|zr (fun c=>zn<|yv rfl rfl ?_)<|fun c=>zn<|yv rfl rfl ?_
 ·show(decide (((Ax w).length:Int)>0),Ax w)=(C1 n w,Ax w);unfold C1;rw[c,qj];congr 1;rw[decide_eq_decide];constructor
  ·intro h a;rw[a]at h;simp at h
  ·intro h;have:(Ax w).length≠0:=fun a=>h<|z7.1 a
   omega
 ·show(false,Ax w)=(C1 n w,Ax w);unfold C1;rw[c];rfl
namespace T157
theorem Aq{Q:PV->Ob->Prop}(a b:List Int)(k:Aw ze a)(j:Aw ze b)(n:a.length=b.length)(l:b.length<=20000)(f:∀ob,Q (.dat i64<|Cg (Au a)<|Au b) ob):∀(i:Nat),i<=a.length->a.drop i=b.drop i->Ends pR (L1 a b<|(i:Int)-1) Q
 |0,o,g=>by
  have g:a=b:=g;have:Cg (Au a) (Au b)=0:=by rw[g];unfold Cg;simp
  rw[this]at f;exact zo (Al ..) (zy (by simp)<|zn<|f _)
 |i+1,o,g=>by
  have m:(((i+1:Nat):Int)-1)=(i:Int):=ae
  have h:a.drop i=a.getD i 0::a.drop (i+1):=Cn ae;have db:b.drop i=b.getD i 0::a.drop (i+1):=by rw[g];exact Cn ae
  rw[m];refine zo (Al ..) (zc (by simp) ?_);rw[zf];refine zc (by simp;omega) (zc (by simp;omega)<|zr (fun d=>?_) (fun d=>zc (by simp;omega)<|zc (by simp;omega)<|zr (fun c=>?_)<|fun c=>?_))
  ·have d:=w6 d;have:=Jx (b:=ze) af k j h db d;have e:Cg (Au a) (Au b)= -1:=by unfold Cg;exact wd this
   rw[e]at f;exact zn<|f _
  ·have c:=w6 c;have:=Jx (b:=ze) af j k db h c;have e:Cg (Au a) (Au b)=1:=by unfold Cg Au;rw[wc ae,wd ae]
   rw[e]at f;exact zn<|f _
  ·have c:=w7 c;have d:=w7 d;rw[wr ((i:Int)-1) ae ae];exact Aq a b k j n l f i ae (by rw[h,db,show a.getD i 0=b.getD i 0 by omega])
theorem ok:Af A9 157 Zb:=by
 refine BN TX<|fun(i:List Int×List Int) g=>?_;obtain⟨a,b⟩:=i;have g:(Ba a&&Ba b)=true:=g;rw[zi]at g;obtain⟨a1,a2,a3⟩:=Bn g.1;obtain⟨b1,b2,b3⟩:=Bn g.2;have f:∀ob,Ad Zb (a,b) (.dat i64<|Cg (Au a)<|Au b) ob:=fun ob=>yv rfl rfl rfl
 refine yq (Ak a b)<|zr (fun c=>zr (fun d=>?_)<|fun d=>?_)<|fun c=>?_
 ·have d:=w6 d;have e:Cg (Au a) (Au b)= -1:=by unfold Cg;exact wd (E2 af a2 b2 b3 ae)
  rw[e]at f;exact zn<|f _
 ·have d:=w7 d;have c:(a.length:Int)≠b.length:=by simpa using c
  have:=E2 (b:=ze) af b2 a2 a3 ae;have e:Cg (Au a) (Au b)=1:=by
   unfold Cg Au;rw[wc ae,wd ae]
  rw[e]at f;exact zn<|f _
 ·have c:(a.length:Int)=b.length:=by simpa using c
  rw[wr _ ae ae];exact Aq a b a2 b2 ae b1 f a.length ae (by rw[q9,jh ae])
end T157
theorem bI{x y o c:Int}(d:0<=x/\x<1000000000)(h:0<=y/\y<1000000000)(j:0<=o/\o<1000000000)(k:0<=c/\c<1000000000):
  zg .i64 (zg .i64 (o+zg .i64 (x*y))+c)=o+x*y+c/\qt (o+x*y+c) 1000000000=(o+x*y+c) % 1000000000/\zg .i64 (yt (o+x*y+c) 1000000000)=(o+x*y+c)/1000000000/\
  (0<=(o+x*y+c)/1000000000/\(o+x*y+c)/1000000000<1000000000)/\(0<=(o+x*y+c) % 1000000000/\(o+x*y+c) % 1000000000<1000000000):=by
 have h0:0<=x*y:=yb d.1 h.1;have i:x*y<=999999999*999999999:=by
  have a:=zh (show y<=999999999 by omega) d.1;have b:=zk (show x<=999999999 by omega) (show(0:Int)<=999999999 by omega);omega
 generalize x*y=P at*;have g:zg .i64 P=P:=wr _ ae ae;have f:zg .i64 (o+P)=o+P:=wr _ ae ae;have e:yt (o+P+c) 1000000000=(o+P+c)/1000000000:=zu ae;refine⟨?_,z6 ae,?_,by omega,by omega⟩
 ·rw[g,f];exact wr _ ae ae
 ·rw[e];exact wr _ ae ae
namespace T159
theorem A0(x y:List Int)(n i:Nat)(E:i<x.length)(C:n=x.length+y.length)(d:x.length<=9000)(l:y.length<=9000)(o:Aw ze x)(s:Aw ze y)(p:List Int)(hp:p.length=i+y.length)(b:Aw ze p)
  (u:∀q c,q.length=i+y.length->Aw ze q->(0<=c/\c<1000000000)->zd ze q+(ze:Int)^(i+y.length)*c=zd ze p+(ze:Int)^i*(x.getD i 0*zd ze y)->Ends eG (L1 x y n ((i+1:Nat):Int)<|(q++[c])++zl (n-(i+y.length+1)) 0) Q):∀(k j:Nat) (q:List Int) (c:Int),j+k=y.length->q.length=i+j->Aw ze q->(0<=c/\c<1000000000)->zd ze q+(ze:Int)^(i+j)*c=zd ze (p.take<|i+j)+(ze:Int)^i*(x.getD i 0*zd ze (y.take j))->
  Ends eG (L2 x y n i c j<|q++(p.drop (i+j)++zl (n-(i+y.length)) 0)) Q
 |0,j,q,c,m,a,e,g,r=>by
  have m:j=y.length:=ae
  subst m;have f:zg .i64 ((i:Int)+(y.length:Int))=((i+y.length:Nat):Int):=by rw[wr _ ae ae];omega
  have h:=wn (i:=i) ae;have F:p.drop (i+y.length)=[]:=jh ae;have I:(q++zl (n-(i+y.length)) (0:Int)).getD (i+y.length) 0=0:=by
   have:n-(i+y.length)=(n-(i+y.length+1))+1:=ae
   rw[this,List.replicate_succ];exact DU _ _ _ _ a
  refine zo (AJ ..) (zy (by simp) ?_);rw[f,h,zf,F,qn,I,Int.zero_add,wr c ae ae,Jw q n _ c a ae];refine zc (by simp;omega) (zc (by simp;omega) (zc (by simp;omega)<|zc (by simp;omega)<|u q c a e g ?_));rw[r,zj ae,yi]
 |k+1,j,q,c,m,a,e,g,r=>by
  have B:=GX o i;have A:=GX s j;have H:=GX b<|i+j;have t:p.drop (i+j)=p.getD (i+j) 0::p.drop (i+j+1):=Cn ae;have f:zg .i64 ((i:Int)+(j:Int))=((i+j:Nat):Int):=by rw[wr _ ae ae];omega
  have h:=wn (i:=j) ae;have lo:(q++(p.drop (i+j)++zl (n-(i+y.length)) (0:Int))).length=n:=by simp;omega
  have w:(q++(p.drop (i+j)++zl (n-(i+y.length)) (0:Int))).getD (i+j) 0=p.getD (i+j) 0:=by
   rw[t,List.cons_append];exact DU _ _ _ _ a
  have s1:∀z,(q++(p.drop (i+j)++zl (n-(i+y.length)) (0:Int))).set (i+j) z=(q++[z])++(p.drop (i+(j+1))++zl (n-(i+y.length)) 0):=by
   intro z;rw[t,List.cons_append,DD _ _ _ _ a,ya];rfl
  obtain⟨N,G,M,v,J⟩:=bI B A H g;refine zo (AJ ..) (zc (by simp;omega) ?_);rw[f,h,zf,zf,zf,w,N,G,M,s1];have t1:(decide ((0:Int)<=((i+j:Nat):Int))&&decide (((i+j:Nat):Int)<(n:Int)))=true:=by simp;omega
  refine zc t1 (zc (w4<|by rw[lo];omega)<|zc (by simp;omega) (zc (by simp;omega)<|zc rfl (zc t1<|zc (w4<|by rw[lo];omega)<|zc rfl ?_)));refine A0 x y n i E C d l o s p hp b u k (j+1) _ _ ae (by simp;omega) (FE e J) v ?_;have L:i+(j+1)=(i+j)+1:=ae
  have K:(ze:Int)^i*(x.getD i 0*((ze:Int)^j*y.getD j 0))=(ze:Int)^(i+j)*(x.getD i 0*y.getD j 0):=by
   rw[ji,yd,ye<|x.getD i 0]
  have D:(p.getD (i+j) 0+x.getD i 0*y.getD j 0+c) % 1000000000+1000000000*((p.getD (i+j) 0+x.getD i 0*y.getD j 0+c)/1000000000)=x.getD i 0*y.getD j 0+p.getD (i+j) 0+c:=by
   generalize x.getD i 0*y.getD j 0=P;omega
  rw[L,Cp,a,Kc,y9, <-zx,D,AH _ p<|i+j,AH _ y j,zx,zx,zx<|x.getD i 0,zx,K];omega
theorem Aq(x y:List Int)(n:Nat)(f:n=x.length+y.length)(a:x.length<=9000)(b:y.length<=9000)(l:Aw ze x)(o:Aw ze y)(m:∀ob,Q (.dat li<|B5<|Au x*Au y) ob):∀(k i:Nat) (p:List Int),i+k=x.length->p.length=i+y.length->Aw ze p->zd ze p=zd ze (x.take i)*zd ze y->
  Ends eG (L1 x y n i<|p++zl (n-(i+y.length)) 0) Q
 |0,i,p,j,hp,d,e=>by
  have j:i=x.length:=ae
  subst j;have r:p++zl (n-(x.length+y.length)) (0:Int)=p:=by rw[f,Nat.sub_self];simp
  have g:Au p=Au x*Au y:=by
   rw[yi]at e;exact e
  rw[r];refine zo (Al ..) (zy (by simp) ?_);rw[zj ae];refine zc ?_<|zn ?_
  ·simp;omega
  ·rw[Gf d,g];exact m _
 |k+1,i,p,j,hp,d,e=>by
  refine zo (Al ..) (zc (by simp;omega) ?_);have:=A0 (Q:=Q) x y n i ae f a b l o p hp d (fun q c s h t g=>by
   have:=Aq x y n f a b l o m k (i+1) (q++[c]) ae (by simp;omega) (FE h t) (by
    rw[Cp,s,g,e,AH,Int.add_mul,yd])
   rw[show i+1+y.length=i+y.length+1 by omega]at this;exact this) y.length 0 (p.take i) 0 ae (by simp;omega) (AQ d i) af (by simp[zd])
  rw[Nat.add_zero, <-ya,yw]at this;exact this
theorem ok:Af A9 159 Zl:=by
 refine BN Ts<|fun(i:List Int×List Int) a=>?_;obtain⟨x,y⟩:=i;have a:(Sp.hR x&&Sp.hR y)=true:=a;rw[zi]at a;obtain⟨x1,x2⟩:=zQ a.1;obtain⟨y1,y2⟩:=zQ a.2;have c:zg .i64 ((x.length:Int)+(y.length:Int))=((x.length+y.length:Nat):Int):=by rw[wr _ ae ae];omega
 refine yq (Ak x y) ?_;conv=>zeta
 rw[c,zf];refine zc (by simp;omega) ?_;have:=Aq (Q:=Ad Zl (x,y)) x y (x.length+y.length) rfl x1 y1 x2 y2 (fun ob=>yv rfl rfl rfl) x.length 0 (zl y.length 0) ae (by simp) (fun d b=>by rw[(List.mem_replicate.1 b).2];decide) (by rw[Mg];simp[zd]);rw[Nat.zero_add,List.replicate_append_replicate,show y.length+(x.length+y.length-y.length)=x.length+y.length by omega]at this;exact this
end T159
theorem cE{r x d:Int}(a:0<d/\d<1000000000)(hr:0<=r/\r<d)(b:0<=x/\x<1000000000):
  zg .i64 (zg .i64 (r*1000000000)+x)=r*1000000000+x/\zg .i64 (yt (r*1000000000+x) d)=(r*1000000000+x)/d/\qt (r*1000000000+x) d=(r*1000000000+x) % d/\
  (0<=(r*1000000000+x)/d/\(r*1000000000+x)/d<1000000000)/\(0<=(r*1000000000+x) % d/\(r*1000000000+x) % d<d)/\(r*1000000000+x)/d*d+(r*1000000000+x) % d=r*1000000000+x:=by
 have h:=yn (r*1000000000+x) d;rw[zw]at h;have q0:0<=(r*1000000000+x)/d:=qk ae ae;have q1:(r*1000000000+x)/d<1000000000:=qi a.1 ae;refine⟨?_,?_,z6 ae,⟨q0,q1⟩,⟨yo _ ae,yj _ a.1⟩,h⟩
 ·rw[wr (r*1000000000) ae ae];exact wr _ ae ae
 ·rw[zu ae];exact wr _ ae ae
namespace T192
theorem Aq(a:List Int)(d:Int)(g:Aw ze a)(f:0<d/\d<1000000000)(u:a.length<=20000)(h:∀q r ob,Aw ze q->(0<=r/\r<d)->Au a=Au q*d+r->Q (.tup [.dat li<|Ax q,.dat i64 r]) ob):∀(i:Nat) (q:List Int) (r:Int),i+q.length=a.length->Aw ze q->(0<=r/\r<d)->zd ze (a.drop i)=zd ze q*d+r->
  Ends eG (L1 a d a.length r ((i:Int)-1)<|zl i 0++q) Q
 |0,q,r,t,b,hr,e=>by
  have o:((zl 0 0++q).take a.length)=q:=by
   rw[List.replicate_zero,qn];exact zj ae
  refine zo (Al ..) (zy (by simp) ?_);rw[o];refine zc (Ab (by simp;omega)<|w4 ae)<|zn<|h q r _ b hr e
 |i+1,q,r,t,b,hr,e=>by
  have p:(((i+1:Nat):Int)-1)=(i:Int):=ae
  have v:=GX g i;obtain⟨l,m,n,s,k,w⟩:=cE f hr v;have j:a.drop i=a.getD i 0::a.drop (i+1):=Cn ae;have es:∀x,(zl (i+1) (0:Int)++q).set i x=zl i 0++(x::q):=by
   intro x;rw[List.replicate_succ',ya];exact DD _ _ _ _ (by simp)
  rw[p];refine zo (Al ..) (zc (by simp) ?_);rw[zf,es,wr ((i:Int)-1) ae ae,l,m,n];refine zc (by simp;omega) (zc (w4 ae) (zc (by simp;omega)<|zc (by simp;omega)<|zc (w4 ae) ?_));refine Aq a d g f u h i _ _ (by simp;omega) (fun x c=>?_) k ?_
  ·rcases qz.1 c with rfl|c
   ·exact s
   ·exact b x c
  ·rw[j];show a.getD i 0+(1000000000:Int)*zd ze (a.drop<|i+1)=((r*1000000000+a.getD i 0)/d+(1000000000:Int)*zd ze q)*d+(r*1000000000+a.getD i 0) % d;rw[e,Int.add_mul,zx,yd];omega
theorem ok:Af A9 192 W5:=by
 refine BN Ts<|fun(i:List Int×Int) c=>?_;obtain⟨a,d⟩:=i;have c:(J1 a&&decide (0<d)&&decide (d<1000000000))=true:=c;rw[zi,zi,w5,w5]at c;obtain⟨⟨ha,d0⟩,d1⟩:=c;obtain⟨hl,hda⟩:=Ot ha;refine yq (Ak a d) ?_;conv=>zeta
 rw[zf,wr ((a.length:Int)-1) ae ae];refine zc (by simp;omega) ?_;have:=Aq (Q:=Ad W5 (a,d)) a d hda ⟨d0,d1⟩ hl (fun q r ob f hr g=>?_) a.length [] 0 (by simp) (fun x e=>by cases e) ⟨qv _,d0⟩ (by rw[q9];simp[zd])
 ·rw[ql]at this;exact this
 ·refine yv rfl rfl ?_;show(Ax q,r)=(B5<|Au a/d,Au a % d);obtain⟨u1,u2⟩:=(yp (a:=Au a) (b:=d) (r:=r) (q:=Au q) d0).2 ⟨by rw[zw d];omega,hr.1,hr.2⟩;rw[Gf f,u1,u2]
end T192
theorem uM:Dg ML:=
 Aa T157.ok (Aa T193.ok<|Aa T192.ok<|Aa T159.ok AI)
theorem Tu{t x y w:Int}(c:0<=t/\t<1000000000)(e:0<=x/\x<1000000000)(i:0<=y/\y<1000000000)(h:0<=w/\w<=1000000000):
  zg .i64 (zg .i64 (t*x)+w)=t*x+w/\qt (t*x+w) 1000000000=(t*x+w) % 1000000000/\zg .i64 (yt (t*x+w) 1000000000)=(t*x+w)/1000000000/\
  zg .i64 ((t*x+w)/1000000000+1)=(t*x+w)/1000000000+1/\zg .i64 (y-(t*x+w) % 1000000000)=y-(t*x+w) % 1000000000/\(0<=(t*x+w)/1000000000/\(t*x+w)/1000000000<1000000000)/\(0<=(t*x+w) % 1000000000/\(t*x+w) % 1000000000<1000000000):=by
 have h0:0<=t*x:=yb c.1 e.1;have g:t*x<=999999999*999999999:=by
  have a:=zh (show x<=999999999 by omega) c.1;have b:=zk (show t<=999999999 by omega) (show(0:Int)<=999999999 by omega);omega
 generalize t*x=P at*;have f:zg .i64 P=P:=wr _ ae ae;have d:yt (P+w) 1000000000=(P+w)/1000000000:=zu ae;refine⟨?_,z6 ae,?_,wr _ ae ae,wr _ ae ae,by omega,by omega⟩
 ·rw[f];exact wr _ ae ae
 ·rw[d];exact wr _ ae ae
theorem bN(w r:List Int)(i:Nat)(h:i<w.length):(w++r).getD i 0=w.getD i 0:=by
 rw[yk,yk,List.getElem?_append_left h]
namespace T154
theorem gW{lo w z:List Int}{h:Int}{j i:Nat}(a:lo.length=j)(b:i<w.length):(lo++(w++h::z)).getD (i+j) 0=w.getD i 0:=by
 rw[Hj _ _ _ _ a,bN _ _ _ b]
theorem sW{lo w z:List Int}{h:Int}{j i:Nat}(x:Int)(a:lo.length=j)(b:i<w.length):(lo++(w++h::z)).set (i+j) x=lo++(w.set i x++h::z):=by
 rw[S2 _ _ _ _ _ a,List.set_append_left _ _ b]
theorem gH{lo w z:List Int}{h:Int}{j n:Nat}(a:lo.length=j)(b:w.length=n):(lo++(w++h::z)).getD (n+j) 0=h:=by
 rw[Hj _ _ _ _ a];exact DU _ _ _ _ b
theorem sH{lo w z:List Int}{h:Int}{j n:Nat}(x:Int)(a:lo.length=j)(b:w.length=n):(lo++(w++h::z)).set (n+j) x=lo++(w++x::z):=by
 rw[S2 _ _ _ _ _ a];congr 1;exact DD _ _ _ _ b
theorem On(w z:List Int)(h:Int)(a:zd ze z=0):zd ze (w++h::z)=zd ze w+(ze:Int)^w.length*h:=by
 rw[Da];show _+_*(h+(ze:Int)*zd ze z)=_;rw[a,y8,qo]
theorem CN(o a e:Nat)(A D v lo z:List Int)(n j:Nat)(t h' X:Int)(M:v.length=n)(C:n<=9000)(l:lo.length=j)(T:j<=9000)(I:n+j<a)(E:j<e)(x:j<A.length)(K:Aw ze v)(J:zd ze z=0)(u:Aw ze z)(S: -2000000000<=h'/\h'<=2000000000)
  (R:0<=X/\X<(ze:Int)^n) (y:a=j+n+1+z.length)
  (m:∀r:List Int,r.length=n+1+z.length->Aw ze r->zd ze r=X->Ends ML (L2 o v n a e (zg .i64<|(j:Int)-1) (A.set j t) (lo++r) D) Q):
  ∀(k i:Nat) (w:List Int) (c:Int),i+k=n->w.length=n->Aw ze w->(0<=c/\c<=1)->zd ze w+(ze:Int)^n*h'=X-zd ze v+zd ze (v.take i)-(ze:Int)^i*c->
   Ends ML (L5 o v n a e j t c i A (lo++(w++h'::z)) D) Q
 |0,i,w,c,G,q,s,U,L=>by
  have G:i=n:=ae
  subst G;have H:zg .i64 ((j:Int)+(i:Int))=((i+j:Nat):Int):=by rw[wr _ ae ae];omega
  have F:v.take i=v:=zj ae;rw[F]at L;have a1:=AD (b:=ze) af s;have a2:=Bs (b:=ze) af s;rw[q]at a2;have hp:=AR (b:=ze) af i;have B:zd ze w+(ze:Int)^i*(h'+c)=X:=by rw[zx];omega
  have f:h'+c=0:=by
   rcases Int.lt_trichotomy (h'+c) 0 with g|g|g
   ·have:=zh (show h'+c<= -1 by omega)<|zp hp;rw[jk,y7]at this;omega
   ·exact g
   ·have:=zh (show 1<=h'+c by omega)<|zp hp;rw[y7]at this;omega
  have h:i+j<(lo++(w++h'::z)).length:=by simp;omega
  refine zo (Eu ..) (zy (by simp) ?_);rw[H,zf,zf,gH l q,sH _ l q,wr (h'+c) ae ae,f];have t1:(decide ((0:Int)<=((i+j:Nat):Int))&&decide (((i+j:Nat):Int)<(a:Int)))=true:=by simp;omega
  refine zc t1 (zc (w4 h)<|zc t1<|zc (w4 h)<|zc (by simp;omega)<|zc (w4 x)<|m _ (by simp;omega) (Fj s<|fun d p=>?_) ?_)
  ·rcases qz.1 p with rfl|p
   ·decide
   ·exact u d p
  ·rw[On _ _ _ J,q, <-B,f]
 |k+1,i,w,c,G,q,s,U,L=>by
  have Y:=GX K i;have W:=GX s i;have H:zg .i64 ((i:Int)+(j:Int))=((i+j:Nat):Int):=by rw[wr _ ae ae];omega
  have O:=wn (i:=i) ae;have N:zg .i64 (zg .i64 (w.getD i 0+v.getD i 0)+c)=w.getD i 0+v.getD i 0+c:=by
   rw[wr (w.getD i 0+v.getD i 0) ae ae];exact wr _ ae ae
  have P:qt (w.getD i 0+v.getD i 0+c) 1000000000=(w.getD i 0+v.getD i 0+c) % 1000000000:=z6 ae;have B:zg .i64 (yt (w.getD i 0+v.getD i 0+c) 1000000000)=(w.getD i 0+v.getD i 0+c)/1000000000:=by
   rw[zu ae];exact wr _ ae ae
  have h:i+j<(lo++(w++h'::z)).length:=by simp;omega
  refine zo (Eu ..) (zc (by simp;omega) ?_);rw[H,O,zf,zf,gW l ae,sW _ l ae,N,P,B];have t1:(decide ((0:Int)<=((i+j:Nat):Int))&&decide (((i+j:Nat):Int)<(a:Int)))=true:=by simp;omega
  refine zc t1 (zc (w4 h)<|zc (by simp;omega)<|zc rfl (zc t1<|zc (w4 h)<|zc rfl ?_));refine CN o a e A D v lo z n j t h' X M C l T I E x K J u S R y m k (i+1) _ _ ae (by simp[q]) (G4 s i<|by show 0<=_/\_<(1000000000:Int);omega) ae ?_;rw[HW _ _ _ _ ae,Kc,AH];have V:(ze:Int)^i*((w.getD i 0+v.getD i 0+c) % 1000000000-w.getD i 0)=(ze:Int)^i*v.getD i 0+(ze:Int)^i*c-(ze:Int)^i*(1000000000*((w.getD i 0+v.getD i 0+c)/1000000000)):=by
   rw[<-zx, <-qf];congr 1;omega
  omega
theorem B0(g a b:Nat)(m q v lo z:List Int)(n j:Nat)(t h W:Int)(N:v.length=n)(y:n<=9000)(e:lo.length=j)(hj:j<=9000)(G:n+j<a)(A:j<b)(p:j<m.length)(J:Aw ze v)(X:0<=h/\h<1000000000)(u:a=j+n+1+z.length)(K:0<=t/\t<1000000000)
  (h0:∀(w:List Int) (h':Int),w.length=n->Aw ze w->0<=h'->zd ze w+(ze:Int)^n*h'=W-t*zd ze v->Ends ML (L2 g v n a b (zg .i64<|(j:Int)-1) (m.set j t) (lo++(w++h'::z)) q) Q)
  (H:∀(w:List Int) (h':Int),w.length=n->Aw ze w->h'<0-> -2000000000<=h'->zd ze w+(ze:Int)^n*h'=W-t*zd ze v->Ends ML (L5 g v n a b j (zg .i64<|t-1) 0 0 m (lo++(w++h'::z)) q) Q):
  ∀(k i:Nat) (w:List Int) (c:Int),i+k=n->w.length=n->Aw ze w->(0<=c/\c<=1000000000)->zd ze w+(ze:Int)^n*h=W-t*zd ze (v.take i)+(ze:Int)^i*c->
   Ends ML (L4 g v n a b j t c i m (lo++(w++h::z)) q) Q
 |0,i,w,c,C,l,s,M,L=>by
  have C:i=n:=ae
  subst C;have E:zg .i64 ((j:Int)+(i:Int))=((i+j:Nat):Int):=by rw[wr _ ae ae];omega
  have B:v.take i=v:=zj ae;rw[B]at L;have f:i+j<(lo++(w++h::z)).length:=by simp;omega
  have r:i+j<(lo++(w++(h-c)::z)).length:=by simp;omega
  have I:zd ze w+(ze:Int)^i*(h-c)=W-t*zd ze v:=by rw[qf];omega
  refine zo (CD ..) (zy (by simp) ?_);rw[E,zf,zf,gH e l,wr (h-c) ae ae,sH _ e l,gH e l];have t1:(decide ((0:Int)<=((i+j:Nat):Int))&&decide (((i+j:Nat):Int)<(a:Int)))=true:=by simp;omega
  refine zc t1<|zc (w4 f)<|zc t1<|zc (w4 f)<|zc t1<|zc (w4 r)<|zr (fun d=>?_)<|fun d=>?_
  ·have d:=w6 d;exact H w (h-c) l s d ae I
  ·have d:=w7 d;exact zc (by simp;omega) (zc (w4 p)<|h0 w (h-c) l s ae I)
 |k+1,i,w,c,C,l,s,M,L=>by
  have gx:=GX J i;have T:=GX s i;obtain⟨Z,U,Y,S,V,m6,m7⟩:=Tu K gx T M;have E:zg .i64 ((i:Int)+(j:Int))=((i+j:Nat):Int):=by rw[wr _ ae ae];omega
  have R:=wn (i:=i) ae;have f:i+j<(lo++(w++h::z)).length:=by simp;omega
  have t1:(decide ((0:Int)<=((i+j:Nat):Int))&&decide (((i+j:Nat):Int)<(a:Int)))=true:=by simp;omega
  have go:∀(x o:Int),(0<=x/\x<1000000000)->(0<=o/\o<=1000000000)->c+(x-w.getD i 0)=1000000000*o-t*v.getD i 0->Ends ML (L4 g v n a b j t o ((i+1:Nat):Int) m (lo++(w.set i x++h::z)) q) Q:=by
   intro x o O D F;refine B0 g a b m q v lo z n j t h W N y e hj G A p J X u K h0 H k (i+1) _ _ ae (by simp[l]) (G4 s i O) D ?_;rw[HW _ _ _ _ ae,Kc,AH,zx t,ye t];have e6:(ze:Int)^i*c+(ze:Int)^i*(x-w.getD i 0)=(ze:Int)^i*(1000000000*o)-(ze:Int)^i*(t*v.getD i 0):=by
    rw[<-zx, <-qf,F]
   omega
  refine zo (CD ..) (zc (by simp;omega) ?_);rw[E,R,zf,zf,gW e ae,Z,U,Y,S,V,sW _ e ae,sW _ e ae];refine zc (by simp;omega)<|zc t1<|zc (w4 f)<|zc rfl (zc rfl (zr (fun d=>?_)<|fun d=>?_))
  ·have d:=w6 d;rw[wr (w.getD i 0-(t*v.getD i 0+c) % 1000000000+1000000000) ae ae];refine zc t1 (zc (w4 f) (go _ _ ae ae ?_));generalize t*v.getD i 0=P at*;omega
  ·have d:=w7 d;refine zc t1 (zc (w4 f) (go _ _ ae ae ?_));generalize t*v.getD i 0=P at*;omega
theorem qM(i h f:Nat)(u B v lo e:List Int)(n j:Nat)(F:v.length=n)(y:n<=9000)(A:lo.length=j)(M:j<=9000)(hr:n+1<=e.length)(L:h=j+e.length)(z:j<f)(p:j<u.length)(D:Aw ze v)(E:Aw ze e)(C:zd ze (e.drop<|n+1)=0)
  (l:∀(q:Int) (r:List Int),r.length=e.length->Aw ze r->(0<=q/\q<1000000000)->zd ze r<zd ze v->zd ze r=zd ze e-q*zd ze v->Ends ML (L2 i v n h f (zg .i64<|(j:Int)-1) (u.set j q) (lo++r) B) Q)
  (q:Int) (K:0<=q/\q<1000000000) (N:zd ze e<(q+1)*zd ze v) (W:q*zd ze v<zd ze e+zd ze v):
  Ends ML (L4 i v n h f j q 0 0 u (lo++e) B) Q:=by
 have k:e=e.take n++e.getD n 0::e.drop (n+1):=by
  rw[<-Cn ae];exact(yw n e).symm
 have gh:=GX E n;have H:=AQ E n;have s:=E1 E<|n+1;have o:(e.take n).length=n:=by rw[zz];omega
 have S:(e.drop<|n+1).length=e.length-(n+1):=zq ..;have hW:zd ze e=zd ze (e.take n)+(ze:Int)^n*e.getD n 0:=by
  conv=>lhs;rw[k]
  rw[On _ _ _ C,o]
 have m:=Bs (b:=ze) af D;rw[F]at m;have T:=AD (b:=ze) af D;have R:=AD (b:=ze) af E;have hp:=AR (b:=ze) af n;rw[Int.add_mul,yh]at N;rw[k];refine B0 i h f u B v lo (e.drop<|n+1) n j q (e.getD n 0) (zd ze e) F y A M ae z p D gh ae K (fun w h' a b c d=>?_) (fun w h' a b c V d=>?_) n 0 (e.take n) 0 ae o H af (by rw[<-hW];simp[zd])
 ·have J:=AD (b:=ze) af b;have I:h'=0:=by
   rcases yg 0 h' with g|g
   ·have:=zh (show 1<=h' by omega)<|zp hp;omega
   ·omega
  refine l q _ (by simp;omega) (Fj b<|fun x G=>?_) K ?_ ?_
  ·rcases qz.1 G with rfl|G
   ·rw[I];decide
   ·exact s x G
  ·rw[On _ _ _ C,a,d];omega
  ·rw[On _ _ _ C,a,d]
 ·have J:=Bs (b:=ze) af b;rw[a]at J;have t:zd ze e-q*zd ze v<0:=by
   have:=zh (show h'<= -1 by omega)<|zp hp;rw[jk,y7]at this;omega
  have O:1<=q:=by
   rcases yg 0 q with g|g
   ·exact g
   ·have:q=0:=ae
    subst this;rw[jo]at t;omega
  rw[wr (q-1) ae ae];refine CN i h f u B v lo (e.drop<|n+1) n j (q-1) h' (zd ze e-q*zd ze v+zd ze v) F y A M ae z p D C s ae ae ae (fun r U b' P=>?_) n 0 w 0 ae a b af (by rw[d];simp[zd]<;>omega);refine l (q-1) r ae b' ae ae ?_;rw[P,Int.sub_mul,yh];omega
theorem Dl(l e i:Nat)(p x v lo h:List Int)(a2 a1 a0:List Int)(k j:Nat)(P:v.length=k+2)(E:k+2<=9000)(z:lo.length=j)(hj:j<=9000)(hr:k+3<=h.length)(t:e=j+h.length)(F:j<i)(D:j<p.length)(u:Aw ze v)(w:Aw ze h)(M:zd ze (h.drop<|k+3)=0)(G:1<=v.getD (k+1) 0)
  (A:h.getD (k+2) 0<=v.getD (k+1) 0) (O:zd ze h<1000000000*zd ze v)
  (m:∀(q:Int) (r:List Int),r.length=h.length->Aw ze r->(0<=q/\q<1000000000)->zd ze r<zd ze v->zd ze r=zd ze h-q*zd ze v->Ends ML (L2 l v ((k+2:Nat):Int) e i (zg .i64<|(j:Int)-1) (p.set j q) (lo++r) x) Q):
  ∀(f:Nat) (q r:Int),0<=q->q<f->q<=2000000000000000000->(0<=r/\r<1000000000)->q*v.getD (k+1) 0+r=h.getD (k+2) 0*1000000000+h.getD (k+1) 0->zd ze h<(q+1)*zd ze v->
   Ends ML (L3 l v ((k+2:Nat):Int) e i j a2 a1 a0 e v j ((k+2:Nat):Int) q r p (lo++h) x) Q
 |0,q,r,h0,hf,_,_,_,_=>by omega
 |f+1,q,r,h0,hf,Z,hr1,X,K=>by
  have y:=GX u k;have gv1:=GX u<|k+1;have gu2:=GX w k;have gu1:=GX w<|k+1;have V:=AR (b:=ze) af k;have hW:=wO ze h k ae M;have Y:=uX ze v k P;have N:=AD (b:=ze) af<|AQ w k;have n:=Bs (b:=ze) af<|AQ w k;have H:=AD (b:=ze) af<|AQ u k;have o:=Bs (b:=ze) af<|AQ u k;have U:=AD (b:=ze) af u;rw[zz,qc ae]at n o;have exit:∀q R:Int,0<=q->q<1000000000->q*v.getD (k+1) 0+R=h.getD (k+2) 0*1000000000+h.getD (k+1) 0->zd ze h<(q+1)*zd ze v->q*v.getD k 0<=R*1000000000+h.getD k 0->Ends ML (L4 l v ((k+2:Nat):Int) e i j q 0 0 p (lo++h) x) Q:=by
   intro q R q0 q1 S T J;refine qM l e i p x v lo h (k+2) j P E z hj hr t F D u w M m q ⟨q0,q1⟩ T ?_;rw[hW,Y];exact Um V ⟨H,o⟩ N ⟨q0,q1⟩ G y.1 S J
  have e1:zg .i64 (((k+2:Nat):Int)-2)=(k:Int):=by rw[wr _ ae ae];omega
  have e2:zg .i64 (((k+2:Nat):Int)-1)=((k+1:Nat):Int):=by rw[wr _ ae ae];omega
  have e3:zg .i64 (zg .i64 ((j:Int)+((k+2:Nat):Int))-2)=((k+j:Nat):Int):=by
   rw[wr ((j:Int)+((k+2:Nat):Int)) ae ae,wr _ ae ae];omega
  have g3:(lo++h).getD (k+j) 0=h.getD k 0:=Hj _ _ _ _ z;have W:(decide ((0:Int)<=((k+1:Nat):Int))&&decide (((k+1:Nat):Int)<(v.length:Int)))=true:=by simp;omega
  have I:zd ze h<q*zd ze v->Ends ML (.ite (decide (zg .i64 (r+v.getD (k+1) 0)>=(1000000000:Int))) (L4 l v ((k+2:Nat):Int) e i j (zg .i64<|q-1) 0 0 p (lo++h) x)<|L3 l v ((k+2:Nat):Int) e i j a2 a1 a0 e v j ((k+2:Nat):Int) (zg .i64<|q-1) (zg .i64<|r+v.getD (k+1) 0) p (lo++h) x) Q:=by
   intro J;have hW0:=AD (b:=ze) af w;have hq1:1<=q:=by
    rcases yg 0 q with g|g
    ·exact g
    ·have:q=0:=ae
     subst this;rw[jo]at J;omega
   have C:(q-1)*v.getD (k+1) 0+(r+v.getD (k+1) 0)=h.getD (k+2) 0*1000000000+h.getD (k+1) 0:=by rw[Int.sub_mul,yh];omega
   have s:zd ze h<(q-1+1)*zd ze v:=by rw[show q-1+1=q by omega];exact J
   rw[wr (q-1) ae ae,wr (r+v.getD (k+1) 0) ae ae];refine zr (fun c=>?_)<|fun c=>?_
   ·have c:=w6 c;have L:q-1<1000000000:=by
     rcases yg (q-1) 1000000000 with g|g
     ·exact g
     ·have a:=zk g (show 0<=v.getD (k+1) 0 by omega);have b:=zk A (show(0:Int)<=1000000000 by omega);omega
    refine exit (q-1) _ ae L C s ?_;have a:=zh (show v.getD k 0<=999999999 by omega) (show 0<=q-1 by omega);omega
   ·have c:=w7 c;exact Dl l e i p x v lo h a2 a1 a0 k j P E z hj hr t F D u w M G A O m f (q-1) _ ae ae ae ae C s
  refine zo (Ca ..) ?_;conv=>zeta
  rw[e1,e2,e3,zf,zf,zf,g3];refine zr (fun c=>zc W<|I ?_) (fun c=>zc (by simp;omega) (zc (by simp;omega)<|zc (by simp;omega)<|zr (fun d=>zc W<|I ?_)<|fun d=>?_))
  ·have c:=w6 c;have:=zk c U;omega
  ·have c:=w7 c;have d:=w6 d;have a:=zh (show v.getD k 0<=999999999 by omega) h0;have b:=yb h0 y.1;rw[wr (q*v.getD k 0) ae ae,wr (r*1000000000) ae ae,wr _ ae ae]at d;have:=Ve (B:=ze) (u0:=h.getD (k+2) 0) (u1:=h.getD (k+1) 0) (u2:=h.getD k 0) V H n h0 (v1:=v.getD (k+1) 0) (v2:=v.getD k 0) (r:=r) X d;rw[<-hW, <-Y]at this;exact this
  ·have c:=w7 c;have d:=w7 d;have a:=zh (show v.getD k 0<=999999999 by omega) h0;have b:=yb h0 y.1;rw[wr (q*v.getD k 0) ae ae,wr (r*1000000000) ae ae,wr _ ae ae]at d;exact exit q r h0 ae X K ae
end T154
theorem Gz{w:List Int}(b:Aw ze w)(a:Sp.nz w){k:Nat}(c:w.length=k+1):0<w.getD k 0/\w.getD k 0<1000000000:=by
 have g:=GX b k;refine⟨?_,g.2⟩;have e:w.getLast?=some (w.getD k 0):=by
  rw[qu,c,yu,yk,qx ae];rfl
 unfold Sp.nz at a;rw[e]at a;have:w.getD k 0≠0:=fun h=>a (by rw[h])
 omega
theorem EF(d:Int):zd ze [d]=d:=by simp[zd]
namespace T154
theorem A0(v:List Int)(k h:Nat)(f:Int)(L:0<f/\f<1000000000)(C:v.length=k+2)(hla:h<=9000)(P:k+2<=h)(s:Aw ze v)(I:1<=v.getD (k+1) 0)(W0:Int)
  (hq:∀(u c:List Int) ob,Aw ze u->Aw ze c->zd ze u<zd ze v->W0=zd ze u+zd ze v*zd ze c->Q (.tup [.dat li<|Ax c,.dat li<|B5<|zd ze u/f]) ob):
  ∀(t:Nat) (u c:List Int),t+c.length=h-(k+2)+1->u.length=h+1->Aw ze u->Aw ze c->zd ze (u.drop t)<zd ze v->W0=zd ze u+zd ze v*((ze:Int)^t*zd ze c)->
   Ends ML (L2 1 v ((k+2:Nat):Int) (h+1) (h-(k+2)+1) ((t:Int)-1) (zl t 0++c) u [f]) Q
 |0,u,c,hl,N,w,A,n,S=>by
  have n:zd ze u<zd ze v:=n;have m:=Bs (b:=ze) af s;rw[C]at m;have D:zd ze (u.drop<|k+2)=0:=Jh (b:=ze) af w ae ae;have G:zd ze (u.take<|k+2)=zd ze u:=by
   rw[Cq ze u (k+2) ae,D,y8,qo]
  have ht:(zl 0 0++c).take (h-(k+2)+1)=c:=by
   rw[List.replicate_zero,qn];exact zj ae
  have htr:=HA<|AQ w<|k+2;have hlr:(Ax<|u.take<|k+2).length<=9000:=by
   rw[Gf<|AQ w<|k+2];refine Nat.le_trans (NO (k:=k+2) (AD af<|AQ w<|k+2) ?_) ae;show zd ze (u.take<|k+2)<_;rw[G];omega
  have O:Au (Ax<|u.take<|k+2)=zd ze u:=by
   show zd ze (Ax _)=_;rw[JF,G]
  refine zo (AJ ..) (zy (by simp) ?_);rw[zf,ht,O];refine zc (by simp;omega) (zc rfl (zc rfl (zc (by simp;omega)<|zc (Ab (Ab (KR ae htr)<|w4 L.1)<|w4 L.2)<|zc (by simp;omega)<|zn<|hq u c _ w A n<|by rw[S,yc,yh])))
 |j+1,u,c,hl,N,w,A,n,S=>by
  obtain⟨lo,r,rfl,p⟩:∃lo r:List Int,u=lo++r/\lo.length=j:=⟨u.take j,u.drop j,(yw j u).symm,by rw[zz];omega⟩;have J:Aw ze lo:=fun d g=>w d<|List.mem_append.2<|.inl g
  have e:Aw ze r:=fun d g=>w d<|List.mem_append.2<|.inr g
  have hrl:r.length=h+1-j:=by rw[ym]at N;omega
  have o:∀z:List Int,(lo++z).drop j=z:=fun z=>by rw[<-p];exact List.drop_left
  have hr0:r=r.getD 0 0::r.drop 1:=by
   have:=Cn (l:=r) (i:=0) ae;rw[List.drop_zero]at this;exact this
  have T:(lo++r).drop (j+1)=r.drop 1:=by rw[Nat.add_comm j 1,Nat.add_comm 1 j, <-List.drop_drop,o]
  rw[T]at n;have g0:=GX e 0;have V:zd ze r=r.getD 0 0+1000000000*zd ze (r.drop 1):=by
   conv=>lhs;rw[hr0]
   rfl
  have m:=Bs (b:=ze) af s;rw[C]at m;have hrV:zd ze r<1000000000*zd ze v:=by rw[V];omega
  have D:zd ze (r.drop<|k+3)=0:=by
   refine Jh (b:=ze) af e ae ?_;have ep:(ze:Int)^(k+3)=(ze:Int)^(k+2)*1000000000:=zt ..;rw[ep];omega
  have gu0:=GX e<|k+2;have gu1:=GX e<|k+1;have W:=GX e k;have gv1:=GX s<|k+1;have Y:=GX s k;have hP:=AR (b:=ze) af k;have hW:=wO ze r k ae D;have hV:=uX ze v k C;have x:=Bs (b:=ze) af<|AQ e k;have X:=AD (b:=ze) af<|AQ s k;rw[zz,qc ae]at x;have M:r.getD (k+2) 0<=v.getD (k+1) 0:=by
   have a1:=Cq ze (r.drop 1) (k+1) (by rw[zq];omega);have a2:(r.drop 1).drop (k+1)=r.getD (k+2) 0::r.drop (k+3):=by
    rw[List.drop_drop,show 1+(k+1)=k+2 by omega];exact Cn ae
   have a3:zd ze (r.getD (k+2) 0::r.drop (k+3))=r.getD (k+2) 0:=by
    show r.getD (k+2) 0+(ze:Int)*zd ze (r.drop<|k+3)=_;rw[D];omega
   rw[a2,a3]at a1;have b1:zd ze v=zd ze (v.take<|k+1)+(ze:Int)^(k+1)*v.getD (k+1) 0:=by
    rw[<-AH,zj ae]
   have K:=Bs (b:=ze) af<|AQ s<|k+1;rw[zz,qc ae]at K;have c1:=AD (b:=ze) af<|AQ (E1 e 1)<|k+1;have c2:(ze:Int)^(k+1)*r.getD (k+2) 0<(ze:Int)^(k+1)*(v.getD (k+1) 0+1):=by
    rw[zx,y7];omega
   have:=z8 c2 (zp<|AR af<|k+1);omega
  have E:∀(q:Int) (B:List Int),B.length=r.length->Aw ze B->(0<=q/\q<1000000000)->zd ze B<zd ze v->zd ze B=zd ze r-q*zd ze v->Ends ML (L2 1 v ((k+2:Nat):Int) (h+1) (h-(k+2)+1) (zg .i64<|(j:Int)-1) ((zl (j+1) 0++c).set j q) (lo++B) [f]) Q:=by
   intro q B h1 h2 h3 h4 h5;have es:(zl (j+1) (0:Int)++c).set j q=zl j 0++(q::c):=by
    rw[List.replicate_succ',ya];exact DD _ _ _ _ (by simp)
   rw[es,wr ((j:Int)-1) ae ae];refine A0 v k h f L C hla P s I W0 hq j (lo++B) (q::c) (by simp;omega) (by simp;omega) (Fj J h2) (fun d g=>?_) (by rw[o];exact h4) ?_
   ·rcases qz.1 g with rfl|g
    ·exact h3
    ·exact A d g
   ·rw[S,Da,Da,p,h5,Kc];show zd ze lo+(ze:Int)^j*zd ze r+zd ze v*((ze:Int)^j*(1000000000*zd ze c))=zd ze lo+(ze:Int)^j*(zd ze r-q*zd ze v)+zd ze v*((ze:Int)^j*(q+1000000000*zd ze c));have x1:zd ze v*((ze:Int)^j*q)=(ze:Int)^j*(q*zd ze v):=by
     rw[ye,zw (zd ze v) q]
    rw[qf,zx ((ze:Int)^j) q,zx<|zd ze v,x1];omega
  have e0:(((j+1:Nat):Int)-1)=(j:Int):=ae
  have O:zg .i64 ((j:Int)+((k+2:Nat):Int))=((k+2+j:Nat):Int):=by rw[wr _ ae ae];omega
  have e2:zg .i64 (((k+2+j:Nat):Int)-1)=((k+1+j:Nat):Int):=by rw[wr _ ae ae];omega
  have e3:zg .i64 (((k+2:Nat):Int)-1)=((k+1:Nat):Int):=by rw[wr _ ae ae];omega
  have g1:(lo++r).getD (k+2+j) 0=r.getD (k+2) 0:=Hj _ _ _ _ p;have g2:(lo++r).getD (k+1+j) 0=r.getD (k+1) 0:=Hj _ _ _ _ p;have R:(lo++r).length=h+1:=N;have H:zg .i64 (zg .i64 (r.getD (k+2) 0*1000000000)+r.getD (k+1) 0)=r.getD (k+2) 0*1000000000+r.getD (k+1) 0:=by
   rw[wr (r.getD (k+2) 0*1000000000) ae ae];exact wr _ ae ae
  have a:0<=r.getD (k+2) 0*1000000000+r.getD (k+1) 0:=ae
  have F:0<=(r.getD (k+2) 0*1000000000+r.getD (k+1) 0)/v.getD (k+1) 0:=qk a ae;have hqs:(r.getD (k+2) 0*1000000000+r.getD (k+1) 0)/v.getD (k+1) 0<=r.getD (k+2) 0*1000000000+r.getD (k+1) 0:=Int.ediv_le_self _ a;have y:=yn (r.getD (k+2) 0*1000000000+r.getD (k+1) 0)<|v.getD (k+1) 0;have U:=yo (r.getD (k+2) 0*1000000000+r.getD (k+1) 0) (show v.getD (k+1) 0≠0 by omega);have Z:=yj (r.getD (k+2) 0*1000000000+r.getD (k+1) 0) (show 0<v.getD (k+1) 0 by omega);rw[zw]at y;have et:zg .i64 (yt (r.getD (k+2) 0*1000000000+r.getD (k+1) 0)<|v.getD (k+1) 0)=(r.getD (k+2) 0*1000000000+r.getD (k+1) 0)/v.getD (k+1) 0:=by
   rw[zu a];exact wr _ ae ae
  have em:qt (r.getD (k+2) 0*1000000000+r.getD (k+1) 0) (v.getD (k+1) 0)=(r.getD (k+2) 0*1000000000+r.getD (k+1) 0) % v.getD (k+1) 0:=z6 a;have K:(decide ((0:Int)<=((k+1:Nat):Int))&&decide (((k+1:Nat):Int)<((k+2:Nat):Int)))=true:=by simp;omega
  have bn:decide (v.getD (k+1) 0≠0)=true:=w4 ae;rw[e0];refine zo (AJ ..) (zc (by simp) ?_);rw[C,O,e2,e3,zf,zf,zf,g1,g2,H,et,em,R];refine zc (by simp;omega) (zc (w4 ae) (zc (by simp;omega)<|zc (w4 ae)<|zc K<|zc bn<|zc K<|zc bn ?_));refine Dl 1 (h+1) (h-(k+2)+1) _ [f] v lo r _ _ _ k j C ae p ae ae ae ae (by simp;omega) s e D I M hrV E (((r.getD (k+2) 0*1000000000+r.getD (k+1) 0)/v.getD (k+1) 0).toNat+1) _ _ F ae ae ⟨U,by omega⟩ y ?_;rw[hW,hV];exact M9 hP af F X Y.1 x W.2 y Z
theorem Aq(a v:List Int)(n b:Nat)(f:Int)(i:a.length=b)(d:b<=9000)(e:n<=b)(k:∀u:List Int,u.length=b+1->Aw ze u->zd ze u=zd ze a*f->Ends ML (L2 1 v n (b+1) (b-n+1) (((b-n+1:Nat):Int)-1) (zl (b-n+1) 0) u [f]) Q):
  ∀(m:Nat) (u:List Int),u.length+m=b+1->Aw ze u->zd ze u=zd ze a*f->Ends ML (L1 a 1 v n u.length u [f]) Q
 |0,u,p,g,j=>by
  have h:zg .i64 ((a.length:Int)+1)=((b+1:Nat):Int):=by rw[wr _ ae ae];omega
  have o:zg .i64 ((u.length:Int)-(n:Int))=((b-n+1:Nat):Int):=by rw[wr _ ae ae];omega
  have l:zg .i64 (((b-n+1:Nat):Int)-1)=((b-n+1:Nat):Int)-1:=wr _ ae ae;refine zo (Al ..) ?_;conv=>zeta
  rw[h,o,l,zf];refine zy (by simp;omega) (zc (by simp;omega) ?_);have c:u.length=b+1:=ae
  rw[c];exact k u c g j
 |m+1,u,p,g,j=>by
  have h:zg .i64 ((a.length:Int)+1)=((b+1:Nat):Int):=by rw[wr _ ae ae];omega
  refine zo (Al ..) ?_;conv=>zeta
  rw[h];refine zc (by simp;omega) (zc (by simp;omega) ?_);have:=Aq a v n b f i d e k m (u++[0]) (by simp;omega) (FE g af) (by rw[Cp,y8,qo];exact j);rw[ym]at this;exact this
set_option maxHeartbeats 1000000 in
theorem ok:Af A9 154 RT:=by
 refine BN uM<|fun(i:List Int×List Int) D=>?_;obtain⟨a,b⟩:=i;have D:(Ba a&&Ba b&&decide (a.length<=9000)&&decide (b.length<=9000)&&decide (0<Au b))=true:=D;rw[zi,zi,zi,zi,w5,w5,w5]at D;obtain⟨⟨⟨⟨na,nb⟩,la9⟩,lb9⟩,j⟩:=D;obtain⟨_,da,za⟩:=Bn na;obtain⟨_,db,zb⟩:=Bn nb;have j:0<zd ze b:=j;have p:=AD (b:=ze) af da;have V:∀q r ob,q=B5 (Au a/Au b)->r=B5 (Au a % Au b)->Ad RT (a,b) (PV.tup [PV.dat li q,PV.dat li r]) ob:=fun q r ob J O=>yv rfl rfl (Prod.ext J O)
 have l:b≠[]:=by rintro rfl;simp[zd]at j
 have R:b.length≠0:=fun h=>l<|z7.1 h
 refine yq (Ak a b) (zc (by rw[na,nb];rfl)<|zr (fun c=>?_)<|fun c=>?_)
 ·have c:=w6 c;have w:zd ze a<zd ze b:=by
   unfold Cg at c;have c:(if zd ze a<zd ze b then(-1:Int)else if zd ze a>zd ze b then 1 else 0)<0:=c;split at c
   ·assumption
   ·split at c<;>omega
  refine zn<|yv rfl rfl ?_;show([],a)=(B5<|zd ze a/zd ze b,B5<|zd ze a % zd ze b);rw[qh p w,Int.emod_eq_of_lt p w];exact Prod.ext rfl (Jc af da za)
 ·have c:=w7 c;have hge:zd ze b<=zd ze a:=by
   rcases yg (zd ze a) (zd ze b)with g|g
   ·have:Cg (Au a) (Au b)= -1:=wd g;omega
   ·exact g
  have hll:b.length<=a.length:=by
   rcases Nat.lt_or_ge a.length b.length with g|g
   ·have:=E2 (b:=ze) af da db zb g;omega
   ·exact g
  refine zr (fun s=>?_)<|fun s=>?_
  ·have s:b.length=1:=by
    have:(b.length:Int)=1:=by simpa using s
    omega
   obtain⟨d,rfl⟩:=jf.1 s;have I:0<d/\d<1000000000:=Gz (k:=0) db zb rfl;have m0:=yo (zd ze a) (show d≠0 by omega);have m1:=yj (zd ze a) I.1;refine zc rfl (zc (Ab (Ab (KR ae da)<|w4 I.1)<|w4 I.2)<|zc rfl (zn<|V _ _ _ ?_ ?_))
   ·show B5 (zd ze a/d)=B5 (zd ze a/zd ze [d]);rw[EF]
   ·show Ax [zd ze a % d]=B5 (zd ze a % zd ze [d]);rw[EF,Gf<|fun x o=>by rw[qd]at o;subst o;show 0<=_/\_<(1000000000:Int);omega];show B5 (zd ze [_])=_;rw[EF]
  ·have s:b.length≠1:=by
    have:(b.length:Int)≠1:=by simpa using s
    omega
   obtain⟨k,E⟩:∃k,b.length=k+2:=⟨b.length-2,by omega⟩;obtain⟨y0,y1⟩:=Gz (k:=k+1) db zb E;have J:zg .i64 (((k+2:Nat):Int)-1)=((k+1:Nat):Int):=by rw[wr _ ae ae];omega
   have O:zg .i64 (b.getD (k+1) 0+1)=b.getD (k+1) 0+1:=wr _ ae ae;have f0:0<1000000000/(b.getD (k+1) 0+1):=by
    have:=Int.le_ediv_of_mul_le (a:=1) (b:=1000000000) (c:=b.getD (k+1) 0+1) ae ae;omega
   have f1:1000000000/(b.getD (k+1) 0+1)<1000000000:=qi ae ae;have f2:1000000000/(b.getD (k+1) 0+1)*(b.getD (k+1) 0+1)<=1000000000:=Int.ediv_mul_le _ ae;have e3:zg .i64 (yt 1000000000<|b.getD (k+1) 0+1)=1000000000/(b.getD (k+1) 0+1):=by
    rw[zu af];exact wr _ ae ae
   rw[E,J,zf,O,e3];generalize 1000000000/(b.getD (k+1) 0+1)=f at*;have N:Aw ze [f]:=fun x o=>by rw[qd]at o;subst o;show 0<=_/\_<(1000000000:Int);omega
   have L:Au [f]=f:=EF f;rw[L];have P:(ze:Int)^(k+1)<=zd ze b*f:=by
    have a1:=Dw (b:=ze) af db zb l;rw[E,show k+2-1=k+1 by omega]at a1;have a2:=zh (show 1<=f by omega)<|zp j;omega
   have K:zd ze b*f<(ze:Int)^(k+2):=by
    have b1:zd ze b=zd ze (b.take<|k+1)+(ze:Int)^(k+1)*b.getD (k+1) 0:=by
     rw[<-AH,zj ae]
    have b2:=Bs (b:=ze) af<|AQ db<|k+1;rw[zz,qc ae]at b2;have hp:=AR (b:=ze) af<|k+1;have b3:zd ze b<(ze:Int)^(k+1)*(b.getD (k+1) 0+1):=by
     rw[zx,y7];omega
    have b4:=yx b3 f0;have b5:=zh f2<|zp hp;have b6:(ze:Int)^(k+2)=(ze:Int)^(k+1)*1000000000:=zt ..;rw[yd,zw (b.getD (k+1) 0+1) f]at b4;omega
   have S:0<=zd ze b*f:=yb (zp j) ae;have t:0<=zd ze a*f:=yb p ae;have G:zd ze a*f<(ze:Int)^(a.length+1):=by
    have a1:=Bs (b:=ze) af da;have a2:=yx a1 f0;have a3:=zh (show f<=1000000000 by omega) (zp<|AR (b:=ze) af a.length);have a4:(ze:Int)^(a.length+1)=(ze:Int)^a.length*1000000000:=zt ..;omega
   have vd:=FO (b:=ze) af<|zd ze b*f;have U:=Yj (b:=ze) af<|zd ze b*f;have C:zd ze (Sp.dg ze<|zd ze b*f)=zd ze b*f:=C9 af S;have X:=kG (b:=ze) af vd U (k:=k+1) (by rw[C];exact P) (by rw[C];exact K);have v1:=(Gz vd U X).1;have ud:=FO (b:=ze) af<|zd ze a*f;have uv:zd ze (Sp.dg ze<|zd ze a*f)=zd ze a*f:=C9 af t;have ul:=NO (k:=a.length+1) t G;have v:Sp.hR [f]=true:=RH (by simp) N;have bd:decide ((3*(0+(B5<|Au a*f).length)+2000)*8<=562949953421312)=true:=w4 (by have:(B5<|Au a*f).length<=a.length+1:=ul;omega);refine zc (by simp;omega) (zc (w4 ae)<|zc (by rw[RH lb9 db,v];rfl)<|zc (by rw[RH la9 da,v];rfl)<|zc bd ?_);have ez:j0 0 (B5<|Au a*f).length=(B5<|Au a*f).length:=Nat.zero_add _;have A:(B5<|Au b*f).length=k+2:=X;rw[ez,qn,A];refine Aq a (B5<|Au b*f) (k+2) a.length f rfl la9 ae (fun u T B F=>?_) (a.length+1-(B5<|Au a*f).length) (B5<|Au a*f) (by have:(B5<|Au a*f).length<=a.length+1:=ul;omega) ud uv;have y:=AR (b:=ze) af<|a.length-(k+2)+1;have start:zd ze (u.drop<|a.length-(k+2)+1)<zd ze (B5<|Au b*f):=by
    have a1:=Cq ze u (a.length-(k+2)+1) ae;have a2:=AD (b:=ze) af<|AQ B<|a.length-(k+2)+1;have a3:=Bs (b:=ze) af da;have a4:=yx a3 f0;have a5:(ze:Int)^a.length=(ze:Int)^(a.length-(k+2)+1)*(ze:Int)^(k+1):=by rw[<-ji,show a.length-(k+2)+1+(k+1)=a.length by omega]
    have Y:=Dw (b:=ze) af db zb l;rw[E,show k+2-1=k+1 by omega]at Y;have a7:=zk Y (show 0<=f by omega);have a8:=zh a7<|zp y;rw[a5,yd]at a4;show _<zd ze (Sp.dg ze<|zd ze b*f);rw[C];refine z8 (a:=(ze:Int)^(a.length-(k+2)+1)) ?_<|zp y;omega
   have go:=A0 (Q:=Ad RT (a,b)) (B5<|Au b*f) k a.length f ⟨f0,f1⟩ A la9 ae vd (by have:0<(B5<|Au b*f).getD (k+1) 0:=v1;omega) (zd ze a*f) (fun W n ob z M m Z=>by
    have H:zd ze (B5<|Au b*f)=zd ze b*f:=C;rw[H]at Z m;have e:zd ze W=f*(zd ze a-zd ze n*zd ze b):=by
     have x1:zd ze b*f*zd ze n=f*(zd ze n*zd ze b):=by
      rw[zw (zd ze b) f,yd,zw<|zd ze b]
     rw[x1,zw<|zd ze a]at Z;rw[qf];omega
    have h0:=AD (b:=ze) af z;have r0:0<=zd ze a-zd ze n*zd ze b:=by
     rw[e]at h0;exact Int.nonneg_of_mul_nonneg_right h0 f0
    have r1:zd ze a-zd ze n*zd ze b<zd ze b:=by
     rw[e,zw (zd ze b) f]at m;exact z8 m ae
    obtain⟨u1,u2⟩:=(yp (a:=zd ze a) (b:=zd ze b) (r:=zd ze a-zd ze n*zd ze b) (q:=zd ze n) j).2 ⟨by rw[zw<|zd ze b];omega,r0,r1⟩;refine V _ _ ob ?_ ?_
    ·rw[Gf M];show B5 (zd ze n)=B5 (zd ze a/zd ze b);rw[u1]
    ·show B5 (zd ze W/f)=B5 (zd ze a % zd ze b);rw[u2,e,qy _ ae]) (a.length-(k+2)+1) u [] (by simp) T B (fun x o=>by cases o) start (by rw[F];simp[zd])
   rw[ql]at go;exact go
end T154
theorem sN:Dg XG3:=Aa T154.ok AI
namespace T130
theorem Aq(g:Nat)(L:Int)(c:∀n:Nat,(n:Int)<L->Ba (B5 (n:Int))=true/\Au (B5 (n:Int))=n/\(B5 (n:Int)).length<=9000)(d:∀ob,Q (.dat li<|B5 (g:Int)) ob):∀(f x y:Nat),y<f->jz x y=g->(x:Int)<L->(y:Int)<L->
  Ends XG3 (L1 (B5 (x:Int))<|B5 (y:Int)) Q
 |0,x,y,h,_,_,_=>by omega
 |f+1,x,y,m,b,i,a=>by
  obtain⟨nx,e,k⟩:=c x i;obtain⟨ny,vy,ly⟩:=c y a
  refine zo (Al ..) ?_;conv=>zeta
  by_cases h0:y=0
  ·subst h0;rw[Nat.gcd_zero_right]at b;subst b;exact zy rfl (zn<|d _)
  ·have j:x % y<y:=Nat.mod_lt _ ae;have l:(B5 (y:Int)).length≠0:=by
    intro h;have:=z7.1 h;rw[this]at vy;simp[Au,zd]at vy;omega
   rw[e,vy,UU];refine zc (by simp;omega) (zc (Ab (Ab (Ab (Ab nx ny)<|w4 k)<|w4 ly)<|w4 ae) ?_);exact Aq g L c d f y (x % y) ae (by rw[jg, <-Nat.gcd_rec,jg];exact b) a ae
theorem Uy{a:List Int}(h:Ba a=true):a=B5 (Au a)/\0<=Au a:=by
 obtain⟨_,d,z⟩:=Bn h;exact⟨Jc af d z,AD af d⟩
theorem Xf(n:Nat)(h:(n:Int)<(ze:Int)^9000):Ba (B5 (n:Int))=true/\Au (B5 (n:Int))=n/\(B5 (n:Int)).length<=9000:=by
 obtain⟨a,_,b,c⟩:=Hk (n:=(n:Int)) (k:=9000) (Int.natCast_nonneg n) h af;exact⟨a,b,c⟩
theorem ok:Af A9 130 Lc:=by
 refine BN sN<|fun(i:List Int×List Int) f=>?_;obtain⟨a,b⟩:=i;have f:(Ba a&&Ba b&&decide (a.length<=9000)&&decide (b.length<=9000))=true:=f;rw[zi,zi,zi,w5,w5]at f;obtain⟨⟨⟨na,nb⟩,la9⟩,lb9⟩:=f;obtain⟨ea,a0⟩:=Uy na;obtain⟨eb,b0⟩:=Uy nb;have g:Au a<(ze:Int)^9000:=qe (Bs (b:=ze) af (Bn na).2.1) (AM af la9);have h:Au b<(ze:Int)^9000:=qe (Bs (b:=ze) af (Bn nb).2.1) (AM af lb9);have key:∀(x y:Nat),Au a=x->Au b=y->Ends XG3 (L1 a b) (Ad Lc (a,b)):=by
  intro x y c d;rw[ea,eb,c,d];rw[c]at g;rw[d]at h;refine Aq (jz x y) _ Xf (fun ob=>yv rfl rfl ?_) (y+1) x y (Nat.lt_succ_self _) rfl g h;have e:Sp.gI (Au<|B5 (x:Int)) (Au<|B5 (y:Int))=((jz x y:Nat):Int):=by
   rw[(Xf x g).2.1,(Xf y h).2.1,F8];rfl
  exact wi B5 e.symm
 obtain⟨x,c⟩:=qg a0;obtain⟨y,d⟩:=qg b0;exact yq (Ak a b)<|key x y c d
end T130
theorem wC:Dg bK:=
 Aa (Hr ag<|Be ag) (Aa (Hr ag<|Be ag)<|Aa (Hr ag<|Be ag)<|Aa (Hr ag<|Be ag) AI)
theorem E4:Dg NQ:=fun g sp h=>by cases h
namespace T201
theorem AcP:∀i:Fin 10,(DG.getD i.1 0).toNat<128:=af
theorem Fb(s:Z)(i:Nat)(o:List Bool)(c:i<10)(d:o.length=256)(h:Ends bK (L2 s DG DG ((i+1:Nat):Int)<|o.set (DG.getD i 0).toNat true) Q):Ends bK (L2 s DG DG (i:Int) o) Q:=by
 have b:DG.length=10:=rfl;have a:=AcP ⟨i,c⟩;have a:(DG.getD i 0).toNat<128:=a;have e:=wn (i:=i) ae;refine zo (AJ ..) ?_;conv=>zeta
 rw[b,e,zf,zf];exact zc (w4 ae) (zc (ad ae ae) (zy (w8 ae) (zc (Ab (w4<|show(0:Int)<=((DG.getD i 0).toNat:Int)by omega)<|w4 ae)<|zc (w4 ae) h)))
def Tb(o:List Bool):Prop:=o.length=256/\∀c:UInt8,o.getD c.toNat false=BW c
theorem Cz(s t v0:Z)(v4:Int)(i:List Bool)(f:Z)(o1 b:List Bool)(g p0:List Bool)(h:Tb g):∀(w:Z),(∀ob,Q (.dat .str<|w.dropWhile BW) ob)->Ends bK (L7 s t v0 v4 i f o1 b w g p0) Q
 |[],a=>zo (DT ..) (zy (by simp)<|zn<|a _)
 |c::r,a=>by
  have k:c.toNat<256:=c.toNat_lt;have j:(c::r).getD 0 0=c:=rfl;have e:(jt 1 (c::r)).take (qp (c::r).length 1)=r:=by show r.take ((r.length+1)-1)=r;rw[yu];exact yi
  refine zo (DT ..) ?_;conv=>zeta
  rw[j,zf,h.2,h.1,e];refine zc (by simp) (zc (by simp)<|zc (Ab (w4<|show(0:Int)<=(c.toNat:Int)by omega)<|w4 ae) (zc (w4 k)<|zr (fun d=>?_)<|fun d=>zc (by simp) ?_))
  ·have d:BW c=false:=by simpa using d
   rw[yr,wc<|by rw[d];decide]at a;exact zn<|a _
  ·have d:BW c=true:=by simpa using d
   rw[yr,wd d]at a;exact Cz s t v0 v4 i f o1 b g p0 h r a
theorem B0(s t v0:Z)(v4:Int)(h:List Bool)(o1 a:List Bool)(g:Tb o1):∀(n:Nat) (w:Z),w.length=n->n<=1000000->(∀ob,Q (.dat .str<|((w.reverse.dropWhile BW).reverse).dropWhile BW) ob)->Ends bK (L4 s t v0 v4 h w o1 a) Q
 |0,w,e,_,b=>by
  have:w=[]:=z7.1 e;subst this;exact zo (CD ..) (zy (by simp)<|zo (Hu ..)<|zy (by simp)<|zn<|b _)
 |n+1,w,e,l,b=>by
  obtain⟨p,c,rfl⟩:∃p c,w=p++[c]:=by
   have f:w≠[]:=by rintro rfl;simp at e
   exact⟨w.dropLast,w.getLast f,(qm f).symm⟩
  have hp:p.length=n:=by simpa using e
  have k:c.toNat<256:=c.toNat_lt;have j:zg .i64 (((p++[c]).length:Int)-1)=(n:Int):=by rw[e,wr _ ae ae];omega
  have i:(p++[c]).getD n 0=c:=DU _ _ _ _ hp;have t1:(p++[c]).take n=p:=by rw[<-hp];exact jj
  have hr:(p++[c]).reverse=c::p.reverse:=by simp
  rw[hr,yr]at b;refine zo (CD ..) (zc (w4 ae) ?_);rw[j,zf,i,t1,zf,g.2,g.1,e];refine zc (by simp;omega) (zc (Ab (w4<|show(0:Int)<=(c.toNat:Int)by omega)<|w4 ae) (zc (w4 k)<|zr (fun d=>?_)<|fun d=>zc (by simp) ?_))
  ·have d:BW c=false:=by simpa using d
   rw[wc (by rw[d];decide),List.reverse_cons,List.reverse_reverse]at b;exact Cz s t v0 v4 h _ o1 a o1 a g (p++[c]) b
  ·have d:BW c=true:=by simpa using d
   rw[wd d]at b;exact B0 s t v0 v4 h o1 a g n p hp ae b
theorem AcZ{o:List Bool}(a:o.length=256)(b:∀c:Fin 256,o.getD c.1 false=(Nat.ble 48 c.1&&Nat.ble c.1 57)):Tb o:=by
 refine⟨a,fun c=>?_⟩;have:=b ⟨c.toNat,c.toNat_lt⟩;rw[show o.getD c.toNat false=_ from this];unfold BW;rw[Bool.eq_iff_iff];simp[Nat.ble_eq]
theorem ok:Af A9 201 WG:=by
 refine BN wC<|fun(i:Z×Z) a=>?_;obtain⟨s,t⟩:=i;have a:(decide (t=DG)&&decide (s.length<=1000000))=true:=a;rw[zi,w5,w5]at a;obtain⟨rfl,hl⟩:=a;have b:∀ob,Ad WG (s,DG) (.dat .str<|((s.reverse.dropWhile BW).reverse).dropWhile BW) ob:=fun ob=>yv rfl rfl rfl
 refine yq (Ak s DG) (zr (fun c=>?_)<|fun c=>zy af<|zy af ?_)
 ·have c:s=[]:=by simpa using c
  subst c;exact zn<|b _
 ·refine Fb s 0 _ af rfl (Fb s 1 _ af rfl (Fb s 2 _ af rfl (Fb s 3 _ af rfl (Fb s 4 _ af rfl (Fb s 5 _ af rfl (Fb s 6 _ af rfl (Fb s 7 _ af rfl (Fb s 8 _ af rfl (Fb s 9 _ af rfl ?_)))))))));refine zo (AJ ..) (zy af<|zc (by decide+kernel) (zc (by decide+kernel)<|zc (by decide+kernel)<|zc rfl (B0 s _ _ _ _ _ _ (AcZ rfl ?_) s.length s rfl hl b)));decide+kernel
end T201
theorem sX:Dg XH1:=Aa T201.ok AI
theorem dropWhile_nil{p:UInt8->Bool}:∀ {l:Z},l.dropWhile p=[]↔l.all p=true
 |[]=>by simp
 |a::l=>by
  rw[yr,List.all_cons];cases h:p a with
  |true=>simp only[wk,qj];exact dropWhile_nil
  |false=>simp
theorem Jd{p:UInt8->Bool}:∀ {l:Z} {a:UInt8} {r:Z},l.dropWhile p=a::r->p a=false
 |[],a,r,h=>by simp at h
 |b::l,a,r,h=>by
  rw[yr]at h;cases c:p b with
  |true=>rw[c,wd rfl]at h;exact Jd h
  |false=>
   rw[c]at h;simp at h;rw[<-h.1];exact c
theorem MK(s:Z):P3 s=[]↔Ap s=true:=by
 unfold P3 Ap;rw[dropWhile_nil,je];constructor
 ·intro h;cases b:s.reverse.dropWhile BW with
  |nil=>have:=dropWhile_nil.1 b;rwa [je]at this
  |cons a r=>
   rw[b,List.all_cons,Jd b]at h;cases h
 ·intro h;have:s.reverse.dropWhile BW=[]:=dropWhile_nil.2 (by rwa [je]);rw[this];rfl
theorem T167.ok:Af A9 167 XW:=by
 refine BN sX<|fun(s:Z) f=>?_;have f:s.length<=1000000:=w6 f;have a:∀v b ob,v=.bl b\/v=.dat .bool b->b=AV s->Ad XW s v ob:=by
  rintro v b ob (rfl|rfl) g
  ·exact yv rfl rfl g
  ·exact yv rfl rfl g
 refine yq (T167.Ak s)<|zr (fun c=>zc ?_<|zr (fun d=>zc ?_<|zr (fun e=>zn<|a _ _ _ (.inl rfl) ?_)<|fun e=>zn<|a _ _ _ (.inr rfl) ?_)<|fun d=>zn<|a _ _ _ (.inl rfl) ?_)<|fun c=>zn<|a _ _ _ (.inl rfl) ?_
 ·exact Ab (w4 rfl)<|w4 f
 ·have c:s≠[]:=by simpa using c
  have:s.length≠0:=fun h=>c<|z7.1 h
  exact w4 ae
 ·have c:s≠[]:=by simpa using c
  have d:P3 s=[]:=by simpa using d
  have d:=(MK s).1 d;have e:s.getD 0 0≠48:=by
   intro h;rw[h]at e;exact wh e af
  unfold AV;rw[d,w4 c,w4 e];rfl
 ·have c:s≠[]:=by simpa using c
  have d:P3 s=[]:=by simpa using d
  have d:=(MK s).1 d;have e:s.getD 0 0=48:=by
   have:((s.getD 0 0).toNat:Int)=48:=by simpa using e
   exact UInt8.toNat_inj.1 (by show _=48;omega)
  unfold AV;rw[d,w4 c,w8<|by rw[e];exact fun h=>h rfl];show(s==[48])=decide (s=[48]);rw[Bool.eq_iff_iff];simp
 ·have d:¬P3 s=[]:=by simpa using d
  have d:Ap s=false:=by
   cases h:Ap s with
   |true=>exact wh ((MK s).2 h) d
   |false=>rfl
  unfold AV;rw[d];simp
 ·have c:s=[]:=by simpa using c
  subst c;rfl
theorem T166.ok:Af A9 166 zA:=by
 refine BN E4<|fun(i:Z×Z) b=>?_;obtain⟨s,t⟩:=i;have b:(decide (t=[45])&&decide (s.length<=1000000))=true:=b;rw[zi,w5,w5]at b;obtain⟨rfl,hl⟩:=b;have a:s.getD 0 0≠45->(s,false)=(A2 s,Sp.preB s):=fun h=>by
  unfold A2 Sp.preB;rw[wc h,w8 h]
 refine yq (T166.Ak s [45]) ?_;conv=>zeta
 cases s with
 |nil=>exact zy af (zn<|yv rfl rfl (a af))
 |cons c r=>
  have f:(c::r).take 1=[c]:=rfl;refine zc (by simp;omega) (zc (by simp) ?_);show Ends NQ (.ite (!List.take 1 (c::r)==[45]) _ _) _;rw[f];refine zr (fun d=>zn<|yv rfl rfl (a ?_)) (fun d=>zc (by simp)<|zn<|yv rfl rfl ?_)
  ·show c≠45;rintro rfl;exact wh d af
  ·have d:c=45:=by simpa using d
   subst d;show(((jt 1 ((45:UInt8)::r)).take<|qp ((45:UInt8)::r).length 1),true)=(A2 (45::r),Sp.preB (45::r));have e:(jt 1 ((45:UInt8)::r)).take (qp ((45:UInt8)::r).length 1)=r:=by show r.take ((r.length+1)-1)=r;rw[yu];exact yi
   rw[e];rfl
theorem Aal{F:Fz}{s:Z}{c:Int}{args:List V}(h:MT F (Ae [Sh.str,Sh.int .u8] (s,c)) args):args=[.str s,.int .u8 c]:=by
 have:=h (fun _=>none) 0;simp only[Ae,Ci,Bf]at this;obtain⟨a,g,rfl,d,b,f,rfl,e,rfl⟩:=this;simp only[PR,DC,List.cons.injEq,ve]at d e;rw[d,e]
theorem T265.ok:Af A9 265 zO:=by
 refine .inr ⟨PK.indexByte.run,by kernel_rfl,fun F h args i a hp=>?_⟩;obtain⟨s,c⟩:=i;have:=Aal a;subst this;refine⟨V0<|s.findIdx? fun x=>x==c.toNat.toUInt8,rfl,fun ρ N=>?_⟩;show PR F ρ N (.dat i64<|QE s c) _;unfold QE;cases s.findIdx? fun x=>x==c.toNat.toUInt8 with
 |none=>simp[PR,DC,V0]
 |some i=>simp[PR,DC,V0,Det.i64]
theorem wD:Dg XH2:=Aa T265.ok AI
theorem WN{p:UInt8->Bool}{s:Z}{i:Nat}(h:s.findIdx? p=some i):i<s.length:=(List.findIdx?_eq_some_iff_getElem.1 h).1
theorem T124.ok:Af A9 124 pN:=by
 refine BN wD<|fun(i:Z×Z) e=>?_;obtain⟨s,t⟩:=i;have e:(decide (t=[47])&&decide (s.length<=1000000))=true:=e;rw[zi,w5,w5]at e;obtain⟨rfl,hl⟩:=e;have b:s.any (fun x=>x==47)=(s.findIdx? fun x=>x==47).isSome:=by
  rw[List.findIdx?_isSome]
 refine yq (T124.Ak s [47]) (zy af (zr (fun c=>?_)<|fun c=>zc af (zc af<|zc af ?_)))
 ·have c:s=[47]:=by
   have:[47]=s:=by simpa using c
   exact this.symm
  subst c;exact zc rfl (zc rfl (zc rfl (zn<|yv rfl rfl rfl)))
 ·have a:QE s (((([47]:Z).getD 0 0).toNat:Nat):Int)=match s.findIdx? (fun x=>x==47)with
   |some i=>(i:Int)
   |none=> -1:=rfl
  cases d:s.findIdx? (fun x=>x==47)with
  |none=>
   rw[d]at a;have a:QE s (((([47]:Z).getD 0 0).toNat:Nat):Int)= -1:=a;rw[a];refine zy af<|zn<|yv rfl rfl ?_;show(s,[],false)=(AA s,Sp.AS s,Bq s);unfold AA Sp.AS Bq;rw[b,d];rfl
  |some k=>
   rw[d]at a;have a:QE s (((([47]:Z).getD 0 0).toNat:Nat):Int)=(k:Int):=a;have h:=WN d;have g:zg .i64 ((k:Int)+(([47]:Z).length:Int))=((k+1:Nat):Int):=by
    show zg .i64 ((k:Int)+1)=_;rw[wr _ ae ae];omega
   rw[a,g,zf,zf];refine zc (by simp) (zc (by simp;omega)<|zc (by simp;omega)<|zn<|yv rfl rfl ?_);show(s.take k,(s.drop<|k+1).take<|qp s.length<|k+1,true)=(AA s,Sp.AS s,Bq s);unfold AA Sp.AS Bq;have f:(s.drop<|k+1).take (qp s.length<|k+1)=s.drop (k+1):=zj (by rw[zq];exact qw _);rw[b,d,f];rfl
namespace T152
theorem Aq{Q:PV->Ob->Prop}(s:Z)(a:Ap s=true)(n:s.length<=18)(f:∀ob,Q (.dat i64<|AE 0 s) ob):∀(r:Z) (i:Nat),s.drop i=r->i<=s.length->Ends pR (L1 s (AE 0<|s.take i) i) Q
 |[],i,h,g=>by
  have v:i=s.length:=drop_nil h g;subst v;rw[yi];exact zo (Al ..) (zy (by simp)<|zn<|f _)
 |c::r,i,h,g=>by
  obtain⟨j,q,o⟩:=drop_cons (d:=0) h;have k:=Bi<|Bg a i;have b:(s.take i).length=i:=by rw[zz];omega
  rw[b]at k;have hp:(10:Int)^i<=10^17:=AM af ae;have w:BW c=true:=by
   unfold Ap at a;rw[jc]at a;exact a c<|OQ h
  have p:=Dd w;have t:48<=c.toNat/\c.toNat<=57:=by unfold HM at p;omega
  have u:zg .i64 (c.toNat:Int)=(c.toNat:Int):=wr _ ae ae;have e:(10:Int)^17=100000000000000000:=af
  have m:zg .i64 (zg .i64 (zg .i64 (10*AE 0 (s.take i))+(c.toNat:Int))-48)=AE 0 (s.take<|i+1):=by
   rw[ME h,C2];show _=10*AE 0 (s.take i)+((c.toNat:Int)-48);generalize AE 0 (s.take i)=D at*;rw[wr (10*D) ae ae,wr (10*D+(c.toNat:Int)) ae ae,wr _ ae ae];omega
  have l:=wn (i:=i) ae;refine zo (Al ..) (zc (by simp;omega) ?_);rw[zf,q,u,m,l];exact zc (by simp;omega)<|Aq s a n f r (i+1) o j
theorem ok:Af A9 152 TA:=by
 refine BN TX<|fun(s:Z) a=>?_;have a:(decide (s.length<=18)&&Ap s)=true:=a;rw[zi,w5]at a;exact yq (Ak s)<|Aq s a.2 a.1 (fun ob=>yv rfl rfl rfl) s 0 rfl (Nat.zero_le _)
end T152
theorem vS:Dg eB:=Aa T152.ok<|Aa T155.ok AI
theorem MX{neg:Bool}{w:List Int}{D:Int}(d:Aw ze w)(c:zd ze w=D):(C1 neg w,Ax w)=(Sp.rN<|if neg=true then -D else D,Sp.rW<|if neg=true then -D else D):=by
 have h0:=AD (b:=ze) af d;rw[c]at h0;have e:Ax w=B5 D:=by rw[Gf d];show B5 (zd ze w)=_;rw[c]
 have a:B5 D=[]↔D=0:=zX af h0;have f:Ag (if neg=true then -D else D)=D:=by rw[Ai];split<;>omega
 unfold C1 Sp.rW Sp.rN;rw[f,e];congr 1;cases neg with
 |false=>simp;omega
 |true=>
  simp only[wk,qj,wm,a,decide_eq_decide];omega
namespace T149
theorem Acx:(10:Int)^9=1000000000:=af
theorem JO{s:Z}{m:Nat}(a:m+9=s.length):AE 0 s=AE 0 (s.take m)*1000000000+AE 0 (s.drop m):=by
 conv=>lhs;rw[<-yw m s]
 rw[C2,ER<|s.drop m,zq,show s.length-m=9 by omega,Acx]
theorem CI{s:Z}(b:Ap s=true)(h:s.length<=9):0<=AE 0 s/\AE 0 s<1000000000:=by
 have:=Bi b;have a:(10:Int)^s.length<=10^9:=AM af h;rw[Acx]at a;omega
theorem B8{s:Z}(a:Ap s=true)(h:s.length<=18):D9 s=true:=by
 unfold D9;rw[a,Bool.and_true];exact w4 h
theorem Dl(neg:Bool)(D:Int)(h:∀(w:List Int) ob,Aw ze w->zd ze w=D->Q (.agg [.dat .bool<|C1 neg w,.dat li<|Ax w]) ob):∀(f:Nat) (s:Z) (o1:List Int),s.length<=f->Ap s=true->o1.length+s.length<=6000->Aw ze o1->zd ze o1+(ze:Int)^o1.length*AE 0 s=D->Ends eB (L3 s neg o1.length o1) Q:=by
 intro f;induction f with
 |zero=>
  intro s o1 i a l c d;have e:s.length<=9:=ae
  have b:=CI a e;have g:(o1++[BP s]).take (j0 o1.length 1)=o1++[BP s]:=zj (by simp);refine zo (Ca ..) (zy (by simp;omega) (zc (B8 a ae)<|zc (by simp;omega) ?_));rw[g];refine zc (by simp;omega)<|zn<|h _ _ (FE c b) ?_;rw[Cp];exact d
 |succ f k=>
  intro s o1 i a l c d;by_cases e:s.length<=9
  ·have b:=CI a e;have g:(o1++[BP s]).take (j0 o1.length 1)=o1++[BP s]:=zj (by simp);refine zo (Ca ..) (zy (by simp;omega) (zc (B8 a ae)<|zc (by simp;omega) ?_));rw[g];refine zc (by simp;omega)<|zn<|h _ _ (FE c b) ?_;rw[Cp];exact d
  ·obtain⟨m,o⟩:∃m,m+9=s.length:=⟨s.length-9,by omega⟩;have n:zg .i64 ((s.length:Int)-9)=(m:Int):=by rw[wr _ ae ae];omega
   have j:(s.drop m).take (qp s.length m)=s.drop m:=zj (by rw[zq];exact qw _);have b:=CI (B2 a m) (by rw[zq];omega);refine zo (Ca ..) (zc (by simp;omega) ?_);rw[n,zf,j];refine zc (by simp;omega) (zc (B8 (B2 a m)<|by rw[zq];omega) (zc (by simp;omega)<|zc (by simp;omega) ?_));have:=k (s.take m) (o1++[BP<|s.drop m]) (by rw[zz];omega) (Bg a m) (by simp;omega) (FE c b) (by
    rw[Cp,ym];show zd ze o1+(ze:Int)^o1.length*AE 0 (s.drop m)+(ze:Int)^(o1.length+1)*AE 0 (s.take m)=D;rw[Kc,y9, <-zx, <-d,JO o];congr 2;omega)
   rw[ym]at this;exact this
theorem B0(D:Int)(h:∀(w:List Int) ob,Aw ze w->zd ze w=D->Q (.agg [.dat .bool<|C1 false w,.dat li<|Ax w]) ob):∀(f:Nat) (s:Z) (o1:List Int),s.length<=f->Ap s=true->o1.length+s.length<=6000->Aw ze o1->zd ze o1+(ze:Int)^o1.length*AE 0 s=D->Ends eB (L4 s o1.length o1) Q:=by
 intro f;induction f with
 |zero=>
  intro s o1 i a l c d;have e:s.length<=9:=ae
  have b:=CI a e;have g:(o1++[BP s]).take (j0 o1.length 1)=o1++[BP s]:=zj (by simp);refine zo (CD ..) (zy (by simp;omega)<|zc (B8 a ae) (zc (by simp;omega) ?_));rw[g];refine zc (by simp;omega)<|zn<|h _ _ (FE c b) ?_;rw[Cp];exact d
 |succ f k=>
  intro s o1 i a l c d;by_cases e:s.length<=9
  ·have b:=CI a e;have g:(o1++[BP s]).take (j0 o1.length 1)=o1++[BP s]:=zj (by simp);refine zo (CD ..) (zy (by simp;omega)<|zc (B8 a ae) (zc (by simp;omega) ?_));rw[g];refine zc (by simp;omega)<|zn<|h _ _ (FE c b) ?_;rw[Cp];exact d
  ·obtain⟨m,o⟩:∃m,m+9=s.length:=⟨s.length-9,by omega⟩;have n:zg .i64 ((s.length:Int)-9)=(m:Int):=by rw[wr _ ae ae];omega
   have j:(s.drop m).take (qp s.length m)=s.drop m:=zj (by rw[zq];exact qw _);have b:=CI (B2 a m) (by rw[zq];omega);refine zo (CD ..) (zc (by simp;omega) ?_);rw[n,zf,j];refine zc (by simp;omega) (zc (B8 (B2 a m)<|by rw[zq];omega) (zc (by simp;omega)<|zc (by simp;omega) ?_));have:=k (s.take m) (o1++[BP<|s.drop m]) (by rw[zz];omega) (Bg a m) (by simp;omega) (FE c b) (by
    rw[Cp,ym];show zd ze o1+(ze:Int)^o1.length*AE 0 (s.drop m)+(ze:Int)^(o1.length+1)*AE 0 (s.take m)=D;rw[Kc,y9, <-zx, <-d,JO o];congr 2;omega)
   rw[ym]at this;exact this
theorem Aq(neg:Bool)(s:Z)(a:Ap s=true)(i:s.length<=5999)(d:∀(w:List Int) ob,Aw ze w->zd ze w=AE 0 s->Q (.agg [.dat .bool<|C1 neg w,.dat li<|Ax w]) ob):Ends eB (L1 s neg) Q:=by
 by_cases h:s.length<=9
 ·have b:=CI a h;refine zo (Al ..) (zy (by simp;omega)<|zc (B8 a ae) (zc rfl (zc rfl (zn<|d _ _ (FE (l:=[]) (fun x c=>by cases c) b) ?_))));show zd ze [AE 0 s]=_;exact EF _
 ·obtain⟨m,g⟩:∃m,m+9=s.length:=⟨s.length-9,by omega⟩;have e:zg .i64 ((s.length:Int)-9)=(m:Int):=by rw[wr _ ae ae];omega
  have f:(s.drop m).take (qp s.length m)=s.drop m:=zj (by rw[zq];exact qw _);have b:=CI (B2 a m) (by rw[zq];omega);refine zo (Al ..) (zc (by simp;omega) ?_);rw[e,zf,f];refine zc (by simp;omega) (zc (B8 (B2 a m)<|by rw[zq];omega)<|zc rfl (zc (by simp;omega) ?_));refine Dl neg (AE 0 s) d m (s.take m) [BP<|s.drop m] (by rw[zz];omega) (Bg a m) (by simp;omega) (FE (l:=[]) (fun x c=>by cases c) b) ?_;rw[EF,JO g];show AE 0 (s.drop m)+(ze:Int)^1*_=_;rw[zt,yc,yh,zw];exact jm _ _
theorem A0(s:Z)(a:Ap s=true)(i:s.length<=5999)(d:∀(w:List Int) ob,Aw ze w->zd ze w=AE 0 s->Q (.agg [.dat .bool<|C1 false w,.dat li<|Ax w]) ob):Ends eB (L2 s) Q:=by
 by_cases h:s.length<=9
 ·have b:=CI a h;refine zo (AJ ..) (zy (by simp;omega)<|zc (B8 a ae) (zc rfl (zc rfl (zn<|d _ _ (FE (l:=[]) (fun x c=>by cases c) b) ?_))));show zd ze [AE 0 s]=_;exact EF _
 ·obtain⟨m,g⟩:∃m,m+9=s.length:=⟨s.length-9,by omega⟩;have e:zg .i64 ((s.length:Int)-9)=(m:Int):=by rw[wr _ ae ae];omega
  have f:(s.drop m).take (qp s.length m)=s.drop m:=zj (by rw[zq];exact qw _);have b:=CI (B2 a m) (by rw[zq];omega);refine zo (AJ ..) (zc (by simp;omega) ?_);rw[e,zf,f];refine zc (by simp;omega) (zc (B8 (B2 a m)<|by rw[zq];omega) (zc rfl (zc (by simp;omega) ?_)));refine B0 (AE 0 s) d m (s.take m) [BP<|s.drop m] (by rw[zz];omega) (Bg a m) (by simp;omega) (FE (l:=[]) (fun x c=>by cases c) b) ?_;rw[EF,JO g];show AE 0 (s.drop m)+(ze:Int)^1*_=_;rw[zt,yc,yh,zw];exact jm _ _
theorem ok:Af A9 149 Ta:=by
 refine BN vS<|fun(s:Z) a=>?_;have a:(decide (s.length<=5999)&&(if s.getD 0 0=45 then Ap (s.drop 1)else Ap s))=true:=a;rw[zi,w5]at a;obtain⟨g,a⟩:=a;have fin:∀(neg:Bool) (D:Int),Cr s=(if neg=true then -D else D)->∀(w:List Int) ob,Aw ze w->zd ze w=D->Ad Ta s (.agg [.dat .bool<|C1 neg w,.dat li<|Ax w]) ob:=by
  intro neg D hr w ob i h;refine yv rfl rfl ?_;show(C1 neg w,Ax w)=(Sp.rN<|Cr s,Sp.rW<|Cr s);rw[hr];exact MX i h
 refine yq (Ak s) ?_;conv=>zeta
 cases s with
 |nil=>exact zy af (A0 [] rfl af (fin false 0 rfl))
 |cons c r=>
  have f:(c::r).getD 0 0=c:=rfl;rw[f]at a;rw[f];refine zc (by simp) (zc (by simp)<|zr (fun d=>?_)<|fun d=>?_)
  ·have b:c=45:=by
    have:(c.toNat:Int)=45:=by simpa using d
    exact UInt8.toNat_inj.1 (by show _=45;omega)
   rw[wd b]at a;have e:(jt 1 (c::r)).take (qp (c::r).length 1)=r:=by show r.take ((r.length+1)-1)=r;rw[yu];exact yi
   rw[d,e];refine zc (by simp) (Aq true r a (by simp at g;omega)<|fin true _ ?_);unfold Cr;rw[f,wd b,wd rfl];rfl
  ·have b:c≠45:=by
    rintro rfl;exact wh d af
   rw[wc b]at a;rw[d];refine Aq false (c::r) a g<|fin false _ ?_;unfold Cr;rw[f,wc b,wc af]
end T149
end Go.Pe
