import Derived.Test.YtlohiljbghionaaGreatDoorX11
/- A part of a proof; no law is stated here. -/
set_option maxRecDepth 10000
open Go.Pe.Ends renaming tt -> zc, leaf -> zn, Ai -> zo, ite -> zr, ff -> zy, eq -> yq
open Go.Sp renaming val -> zd, B9 -> ze, vI -> zm, sg -> jl
open Int renaming toNat_natCast -> zf, mul_le_mul_of_nonneg_left -> zh, mul_le_mul_of_nonneg_right -> zk, le_of_lt -> zp, pow_succ -> zt, tdiv_eq_ediv_of_nonneg -> zu, mul_comm -> zw, mul_add -> zx, tmod_eq_emod_of_nonneg -> z6, lt_of_mul_lt_mul_left -> z8, mul_nonneg -> yb, pow_zero -> yc, mul_assoc -> yd, mul_left_comm -> ye, lt_or_le -> yg, one_mul -> yh, emod_lt_of_pos -> yj, mul_ediv_add_emod -> yn, emod_nonneg -> yo, ediv_emod_unique -> yp, tdiv -> yt, mul_lt_mul_of_pos_right -> yx, pow_pos -> yy, fdiv_eq_ediv_of_nonneg -> yz, mul_one -> y7, mul_zero -> y8, add_assoc -> y9, lt_of_lt_of_le -> qe, mul_sub -> qf, eq_ofNat_of_zero_le -> qg, ediv_eq_zero_of_lt -> qh, ediv_lt_of_lt_mul -> qi, ediv_nonneg -> qk, add_zero -> qo, mul_lt_mul_of_pos_left -> qq, tmod -> qt, le_refl -> qv, mul_ediv_cancel_left -> qy, pow_add -> ji, mul_neg -> jk, add_comm -> jm, zero_mul -> jo
open Go.IntKind renaming wrap -> zg
open Bool renaming and_eq_true -> zi, true_and -> qj
open List renaming take_of_length_le -> zj, replicate -> zl, length_drop -> zq, length_take -> zz, length_eq_zero_iff -> z7, append_assoc -> ya, take_length -> yi, getD_eq_getElem?_getD -> yk, length_append -> ym, dropWhile_cons -> yr, take_append_drop -> yw, mem_singleton -> qd, append_nil -> ql, dropLast_concat_getLast -> qm, nil_append -> qn, getLast?_eq_getElem? -> qu, getElem?_eq_getElem -> qx, mem_cons -> qz, drop_length -> q9, all_eq_true -> jc, all_reverse -> je, length_eq_one_iff -> jf, drop_eq_nil_of_le -> jh, take_left -> jj, drop -> jt
open BitVec renaming ofInt -> yf
open Nat renaming add_sub_cancel -> yu, min_eq_left -> qc, sub -> qp, le_refl -> qw, gcd_comm -> jg, gcd -> jz, add -> j0
open Go.Pe.Ad renaming of -> yv
variable {Q:Go.Pe.PV->Go.Pe.Ob->Prop}
namespace Go.Pe
open Sp
open Go.Det
theorem Ws{a b:Int}{s:Nat}(d:0<=a)(e:0<=b)(h:b<2^s)(c:a*2^s+b<18446744073709551616):cY .u64 b (a*2^s)=a*2^s+b:=by
 have:=Y5 d e h c;rw[<-this];show zg .u64 (((yf 64 b|||yf 64 (a*2^s)).toNat:Nat):Int)=zg .u64 (((yf 64 (a*2^s)|||yf 64 b).toNat:Nat):Int);rw[BitVec.or_comm]
theorem Zi{s:Nat}(a:s<=63):(18446744073709551616:Int)=2^s*2^(64-s):=by rw[<-ji,show s+(64-s)=64 by omega];rfl
namespace T212
theorem Fa(s:Nat)(T:s<=63)(a n m:Nat)(hn:n<=a)(E:a<=9000)(u g:List Int)(hu:u.length=a+1)(L:Az Ap u)(S:zd Ap (u.drop n)=0)(hm:g.length=m)(K:m<=9000)(t:Az Ap g)
  (R:∀(w:List Int) ob,Az Ap w->zd Ap w=zd Ap u/2^s->Q (.tup [.dat DE<|Ay g,.dat DE<|Ay w]) ob):
  ∀(k i:Nat) (p:List Int),i+k=n->p.length=i->Az Ap p->zd Ap p+(Ap:Int)^i*(zd Ap (u.drop i)/2^s)=zd Ap u/2^s->
   Ends Kc (L6 s (a+1) n m n i g<|p++u.drop i) Q
 |0,i,p,M,hp,e,v=>by
  have M:i=n:=ae
  subst M;have ht:(p++u.drop i).take i=p:=by rw[<-hp];exact jj
  have H:g.take m=g:=zj ae;rw[S,Int.zero_ediv,y8,qo]at v;refine zo (EX ..) (zy (by simp) ?_);rw[zf,ht,H];refine zc (by simp;omega) (zc (Ab (by simp;omega)<|EJ ae t)<|zc (Ab (by simp;omega)<|EJ ae e)<|zn<|R p _ e v)
 |k+1,i,p,M,hp,e,v=>by
  have C:=Cx (l:=u) (i:=i) ae;have P:=Cx (l:=u) (i:=i+1) ae;have O:=Sp.A5<|AZ L i;have gy:=Sp.A5<|AZ L<|i+1;have g1:(p++u.drop i).getD i 0=u.getD i 0:=by rw[C];exact D0 _ _ _ _ hp
  have s1:∀z,(p++u.drop i).set i z=p++z::u.drop (i+1):=fun z=>by rw[C];exact DN _ _ _ _ hp
  have s2:∀z x,(p++z::u.drop (i+1)).set i x=(p++[x])++u.drop (i+1):=fun z x=>by rw[DN _ _ _ _ hp,ya];rfl
  have U:∀z,(p++z::u.drop (i+1)).getD i 0=z:=fun z=>D0 _ _ _ _ hp
  have Y:∀z,(p++z::u.drop (i+1)).getD (i+1) 0=u.getD (i+1) 0:=fun z=>by
   rw[P,show p++z::u.getD (i+1) 0::u.drop (i+1+1)=(p++[z])++u.getD (i+1) 0::u.drop (i+1+1)by rw[ya];rfl];exact D0 _ _ _ _ (by simp[hp])
  have q:∀z,(p++z::u.drop (i+1)).length=a+1:=fun z=>by simp;omega
  have j:(p++u.drop i).length=a+1:=by simp;omega
  have W:=wn (i:=i) ae;have Z:zg .i64 ((64:Int)-(s:Int))=((64-s:Nat):Int):=by rw[wr _ ae ae];omega
  have V:Min.min s 64=s:=ae
  have J:Min.min (64-s) 64=64-s:=ae
  have A:=Zi T;have o:(0:Int)<2^s:=yy af;have f:(0:Int)<2^(64-s):=yy af;have I:Int.fdiv (u.getD i 0) ((2:Int)^s)=u.getD i 0/2^s:=yz _<|zp o;have a0:0<=u.getD i 0/2^s:=qk O.1<|zp o;have a1:u.getD i 0/2^s<2^(64-s):=qi o (by rw[zw, <-A];exact O.2);have N:=yo (u.getD (i+1) 0) (show(2:Int)^s≠0 by omega);have m1:=yj (u.getD (i+1) 0) o;have p0:0<=(u.getD (i+1) 0 % 2^s)*2^(64-s):=yb N<|zp f;have p1:(u.getD (i+1) 0 % 2^s)*2^(64-s)<=18446744073709551616-2^(64-s):=by
   have:=zk (show u.getD (i+1) 0 % 2^s<=2^s-1 by omega)<|zp f;rw[Int.sub_mul,yh, <-A]at this;exact this
  have h:0<=u.getD i 0/2^s+(u.getD (i+1) 0 % 2^s)*2^(64-s)/\u.getD i 0/2^s+(u.getD (i+1) 0 % 2^s)*2^(64-s)<18446744073709551616:=ae
  have G:zg .u64 (u.getD (i+1) 0*2^(64-s))=(u.getD (i+1) 0 % 2^s)*2^(64-s):=by
   rw[Mm];exact(WJ (b:=18446744073709551616) (c:=2^(64-s)) (d:=2^s) (k:=0) f o (by rw[A,zw]) ⟨qv _,f⟩ gy).1
  have F:cY .u64 (u.getD i 0/2^s) ((u.getD (i+1) 0 % 2^s)*2^(64-s))=u.getD i 0/2^s+(u.getD (i+1) 0 % 2^s)*2^(64-s):=by
   rw[Ws N a0 a1 ae,jm]
  have next:∀z,z=u.getD i 0/2^s+(u.getD (i+1) 0 % 2^s)*2^(64-s)->Ends Kc (L6 s (a+1) n m n ((i+1:Nat):Int) g<|(p++[z])++u.drop (i+1)) Q:=by
   intro z r;refine Fa s T a n m hn E u g hu L S hm K t R k (i+1) (p++[z]) ae (by simp[hp]) (Es e<|by rw[r];exact CZ h.1 h.2) ?_;rw[<-v,Fm,hp,LX,y9, <-zx];congr 2;have:=nP (b:=18446744073709551616) (c:=2^s) (d:=2^(64-s)) (x:=u.getD i 0) (y:=u.getD (i+1) 0) (X:=zd Ap<|u.drop<|i+1+1) o A;rw[r,C,P];exact this.symm
  have B:(decide ((0:Int)<=(i:Int))&&decide ((i:Int)<((a+1:Nat):Int)))=true:=by simp;omega
  have b2:(decide ((0:Int)<=((i+1:Nat):Int))&&decide (((i+1:Nat):Int)<((a+1:Nat):Int)))=true:=by simp;omega
  refine zo (EX ..) (zc (by simp;omega) ?_);rw[W,Z,zf,zf,zf,zf,V,J,g1,I,s1,U,Y,s2,G,F,q,j];refine zc B (zc (w4 ae)<|zc (by simp)<|zc B<|zc (w4 ae)<|zr (fun c=>zc (by simp;omega)<|zc B<|zc (w4 ae)<|zc b2<|zc (w4 ae)<|zc (by simp)<|zc B<|zc (w4 ae)<|next _ rfl)<|fun c=>?_);have c:=w7 c;have D:s=0:=ae
  subst D;rw[show ∀z:Int,p++z::u.drop (i+1)=(p++[z])++u.drop (i+1)from fun z=>by rw[ya];rfl];refine next _ ?_;rw[yc,Int.emod_one,jo,qo]
theorem Te{X:AT}{F:Int->List Int->Tr}(w:List Int)(s:Nat)(q:s<=63)(v:Az Ap w)
  (DU:∀(i:Nat) (o:List Int),i<w.length->o.length=w.length+1->Ends X (F ((i+1:Nat):Int)<|if 0<s then(o.set i<|cY .u64 (o.getD i 0)<|zg .u64<|w.getD i 0*2^s).set (i+1) (Int.fdiv (w.getD i 0)<|2^(64-s))else o.set i<|cY .u64 (o.getD i 0)<|zg .u64<|w.getD i 0*2^s) Q->Ends X (F i o) Q)
  (a:∀o:List Int,o.length=w.length+1->Az Ap o->zd Ap o=2^s*zd Ap w->Ends X (F w.length o) Q):
  ∀(k i:Nat) (p:List Int) (c:Int),i+k=w.length->p.length=i->Az Ap p->(0<=c/\c<2^s)->zd Ap p+(Ap:Int)^i*c=2^s*zd Ap (w.take i)->Ends X (F i (p++c::zl k 0)) Q
 |0,i,p,c,u,hp,e,g,h=>by
  have u:i=w.length:=ae
  subst u;have E:(2:Int)^s<=18446744073709551616:=by
   have:=Zi q;have B:(1:Int)<=2^(64-s):=yy af;have G:=zh B (show(0:Int)<=2^s from zp<|yy af);omega
  rw[yi]at h;refine a _ (by simp[hp]) (Es e<|CZ g.1 ae) ?_;rw[<-h];show zd Ap (p++[c])=_;rw[Fm,hp]
 |k+1,i,p,c,u,hp,e,g,h=>by
  have j:=Sp.A5<|AZ v i;have A:=Zi q;have m:(0:Int)<2^s:=yy af;have f:(0:Int)<2^(64-s):=yy af;obtain⟨s1,s2,s3,s4,s5,s6⟩:=WJ (b:=18446744073709551616) (c:=2^s) (d:=2^(64-s)) (x:=w.getD i 0) (k:=c) m f A g j;have r:Int.fdiv (w.getD i 0) ((2:Int)^(64-s))=w.getD i 0/2^(64-s):=yz _<|zp f;have D:(p++c::zl (k+1) 0).getD i 0=c:=D0 _ _ _ _ hp;have st:∀z:Int,(p++c::zl (k+1) 0).set i z=p++z::zl (k+1) 0:=fun z=>DN _ _ _ _ hp
  have t:∀z y:Int,(p++z::zl (k+1) 0).set (i+1) y=(p++[z])++y::zl k 0:=fun z y=>by
   rw[show p++z::zl (k+1) (0:Int)=(p++[z])++0::zl k 0 by rw[ya];rfl];exact DN _ _ _ _ (by simp[hp])
  have n:cY .u64 c ((w.getD i 0 % 2^(64-s))*2^s)=(w.getD i 0 % 2^(64-s))*2^s+c:=Ws (yo _ ae) g.1 g.2 s2;have go:=Te w s q v DU a k (i+1) (p++[(w.getD i 0 % 2^(64-s))*2^s+c]) (w.getD i 0/2^(64-s)) ae (by simp[hp]) (Es e<|CZ ae s2) ⟨s4,s5⟩ (by
   rw[Fm,hp,LX,AI,zx<|2^s, <-h,y9,y9, <-zx,ye<|2^s, <-zx];congr 2;rw[zw<|2^s];omega)
  refine DU i _ ae (by simp;omega) ?_;rw[Mm,s1,r,D,n,st,t];by_cases h0:0<s
  ·rw[wd h0];exact go
  ·have l:s=0:=ae
   subst l;have C:w.getD i 0/2^(64-0)=0:=qh j.1 j.2;rw[C]at go;rw[wc h0,show ∀z:Int,p++z::zl (k+1) (0:Int)=(p++[z])++0::zl k 0 from fun z=>by rw[ya];rfl];exact go
end T212
theorem xD:CX Kc:=
 Aa T187.ok (Aa T209.ok<|Aa T177.ok<|Aa T208.ok<|Aa T217.ok<|Aa lV<|Aa T247.ok AE)
theorem KR{w:List Int}(b:Az Ap w)(a:Sp.nz w){k:Nat}(c:w.length=k+1):0<w.getD k 0/\w.getD k 0<18446744073709551616:=by
 have g:=Sp.A5<|AZ b k;refine⟨?_,g.2⟩;have e:w.getLast?=some (w.getD k 0):=by
  rw[qu,c,yu,yk,qx ae];rfl
 unfold Sp.nz at a;rw[e]at a;have:w.getD k 0≠0:=fun h=>a (by rw[h])
 omega
namespace T212
set_option maxHeartbeats 1000000 in
theorem ok:Af A8 212 G5:=by
 refine BR xD<|fun(i:List Int×List Int) C=>?_;obtain⟨a,b⟩:=i;have C:(Cu a&&Cu b&&decide (a.length<=9000)&&decide (b.length<=9000)&&decide (0<At b))=true:=C;rw[zi,zi,zi,zi,w5,w5,w5]at C;obtain⟨⟨⟨⟨na,nb⟩,la9⟩,lb9⟩,m⟩:=C;obtain⟨_,da,za⟩:=Fs na;obtain⟨_,db,zb⟩:=Fs nb;have m:0<zd Ap b:=m;have J:=AD (b:=Ap) af da;have hg:∀q r ob,q=BC (At a/At b)->r=BC (At a % At b)->Ad G5 (a,b) (PV.tup [PV.dat DE q,PV.dat DE r]) ob:=fun q r ob W D=>yv rfl rfl (Prod.ext W D)
 have fin:∀(q r:List Int) ob,Az Ap q->Az Ap r->zd Ap a=zd Ap q*zd Ap b+zd Ap r->zd Ap r<zd Ap b->Ad G5 (a,b) (PV.tup [PV.dat DE<|Ay q,PV.dat DE<|Ay r]) ob:=by
  intro q r ob dq dr O hr;have Y:=AD (b:=Ap) af dr;obtain⟨u1,u2⟩:=(yp (a:=zd Ap a) (b:=zd Ap b) (r:=zd Ap r) (q:=zd Ap q) m).2 ⟨by rw[zw<|zd Ap b];omega,Y,hr⟩;refine hg _ _ ob ?_ ?_
  ·rw[Mo dq];show BC (zd Ap q)=BC (zd Ap a/zd Ap b);rw[u1]
  ·rw[Mo dr];show BC (zd Ap r)=BC (zd Ap a % zd Ap b);rw[u2]
 have l:b≠[]:=by rintro rfl;simp[zd]at m
 have V:b.length≠0:=fun h=>l<|z7.1 h
 refine yq (Aj a b) (zc (by rw[na,nb];rfl)<|zr (fun c=>?_)<|fun c=>?_)
 ·have c:=w6 c;have p:zd Ap a<zd Ap b:=by
   unfold Ck at c;have c:(if zd Ap a<zd Ap b then(-1:Int)else if zd Ap a>zd Ap b then 1 else 0)<0:=c;split at c
   ·assumption
   ·split at c<;>omega
  refine zn<|yv rfl rfl ?_;show([],a)=(BC<|zd Ap a/zd Ap b,BC<|zd Ap a % zd Ap b);rw[qh J p,Int.emod_eq_of_lt J p];exact Prod.ext rfl (Jt af da za)
 ·have c:=w7 c;have hge:zd Ap b<=zd Ap a:=by
   rcases yg (zd Ap a) (zd Ap b)with g|g
   ·have:Ck (At a) (At b)= -1:=wd g;omega
   ·exact g
  have hll:b.length<=a.length:=by
   rcases Nat.lt_or_ge a.length b.length with g|g
   ·have:=E6 (b:=Ap) af da db zb g;omega
   ·exact g
  refine zr (fun A=>?_)<|fun A=>?_
  ·have A:b.length=1:=by
    have:(b.length:Int)=1:=by simpa using A
    omega
   obtain⟨d,rfl⟩:=jf.1 A;have hd:0<d/\d<18446744073709551616:=KR (k:=0) db zb rfl;have W:zg .i64 ((a.length:Int)-1)=(a.length:Int)-1:=wr _ ae ae;rw[W,zf];refine zc (by simp;omega) ?_;have:=Ar (Q:=Ad G5 (a,[d])) a d da hd ae (fun q r ob dq dr O=>by
    refine fin q [r] ob dq (fun x j=>by rw[qd]at j;subst j;exact⟨dr.1,by show x<18446744073709551616;omega⟩) ?_ ?_
    ·rw[val_one,val_one];exact O
    ·rw[val_one,val_one];exact dr.2) a.length [] 0 (by simp) (fun x j=>by cases j) ⟨qv _,hd.1⟩ (by rw[q9];simp[zd])
   rw[ql]at this;exact this
  ·have A:b.length≠1:=by
    have:(b.length:Int)≠1:=by simpa using A
    omega
   obtain⟨k,z⟩:∃k,b.length=k+2:=⟨b.length-2,by omega⟩;obtain⟨y0,y1⟩:=KR (k:=k+1) db zb z;obtain⟨s,hs,hs63,p,_⟩:=Wl y0 y1;have hB:=Zi hs63;have f:(0:Int)<2^s:=yy af;have h2d:(0:Int)<2^(64-s):=yy af;have hyd:b.getD (k+1) 0<2^(64-s):=by
    rw[hB,zw<|b.getD (k+1) 0]at p;exact z8 p<|zp f
   have hv1:(Ap:Int)^(k+1)<=2^s*zd Ap b:=by
    have a1:=DF (b:=Ap) af db zb l;rw[z,show k+2-1=k+1 by omega]at a1;have a2:=zk (show(1:Int)<=2^s by omega)<|zp m;omega
   have U:2^s*zd Ap b<(Ap:Int)^(k+2):=by
    have B:zd Ap b=zd Ap (b.take<|k+1)+(Ap:Int)^(k+1)*b.getD (k+1) 0:=by
     rw[<-AI,zj ae]
    have b2:=Bz (b:=Ap) af<|AS db<|k+1;rw[zz,qc ae]at b2;have hp:=AU (b:=Ap) af<|k+1;have b3:zd Ap b<(Ap:Int)^(k+1)*2^(64-s):=by
     have:=zh (show b.getD (k+1) 0+1<=2^(64-s)by omega)<|zp hp;rw[zx,y7]at this;omega
    have b4:=qq b3 f;have b5:(2:Int)^s*((Ap:Int)^(k+1)*2^(64-s))=(Ap:Int)^(k+2):=by
     rw[ye, <-hB];exact(zt ..).symm
    rw[b5]at b4;exact b4
   have hls:∀o:List Int,Az Ap o->zd Ap o=2^s*zd Ap b->Az Ap (Ay o)/\(Ay o).length=k+2/\zd Ap (Ay o)=2^s*zd Ap b/\1<=(Ay o).getD (k+1) 0:=by
    intro o ho hv;have y:=Ir ho;have v:zd Ap (Ay o)=2^s*zd Ap b:=by rw[JR,hv]
    have M:=oF (b:=Ap) af y (Lh o) (k:=k+1) (by rw[v];exact hv1) (by rw[v];exact U);have:=(KR y (Lh o) M).1;exact⟨y,M,v,by omega⟩
   have D:zg .i64 (((k+2:Nat):Int)-1)=((k+1:Nat):Int):=by rw[wr _ ae ae];omega
   have e3:zg .i64 (((k+2:Nat):Int)+1)=((k+3:Nat):Int):=by rw[wr _ ae ae];omega
   have e4:zg .i64 ((a.length:Int)+1)=((a.length+1:Nat):Int):=by rw[wr _ ae ae];omega
   have e5:zg .i64 ((a.length:Int)-((k+2:Nat):Int))=((a.length-(k+2):Nat):Int):=by rw[wr _ ae ae];omega
   have e6:zg .i64 (((a.length-(k+2):Nat):Int)+1)=((a.length-(k+2)+1:Nat):Int):=by rw[wr _ ae ae];omega
   have e7:zg .i64 ((64:Int)-(s:Int))=((64-s:Nat):Int):=by rw[wr _ ae ae];omega
   have em:Min.min s 64=s:=ae
   have I:Min.min (64-s) 64=64-s:=ae
   rw[z,D,e3,zf,zf,hs];refine zc (by simp;omega) (zc (CZ ae y1) (zc (by simp;omega) ?_));refine Te (F:=fun i o=>L2 a b s (k+3) b ((k+2:Nat):Int) i o) b s hs63 db (fun i o C ho h=>?_) (fun o hol G X=>?_) (k+2) 0 [] 0 ae rfl (fun x j=>by cases j) ⟨qv _,f⟩ (by simp[zd])
   ·have T:=wn (i:=i) ae;have B:(decide ((0:Int)<=(i:Int))&&decide ((i:Int)<((k+3:Nat):Int)))=true:=by simp;omega
    refine zo (AG ..) (zc (by simp;omega) ?_);rw[T,e7,zf,zf,zf,zf,em,I];refine zc (by simp;omega) (zc B<|zc (w4 ae)<|zc (by simp)<|zc B<|zc (w4 ae)<|zr (fun c=>zc (by simp)<|zc (by simp;omega)<|zc (by simp;omega) ?_)<|fun c=>?_)
    ·have c:=w6 c;rw[wd ae]at h;exact h
    ·have c:=w7 c;rw[wc ae]at h;exact h
   obtain⟨vd,vl,N,v1⟩:=hls o G X;have eo:o.take (k+3)=o:=zj ae;rw[z];refine zo (AG ..) (zy (by simp) ?_);rw[eo,e4,zf,z,D,zf,hs];refine zc (Ab (by simp;omega)<|EJ ae G) (zc (by simp;omega) ?_);refine Te (F:=fun i o'=>L3 a b s (k+3) b ((k+2:Nat):Int) ((k+2:Nat):Int) o s (a.length+1) a a.length i o' o) a s hs63 da (fun i o' C ho h=>?_) (fun u R E huv=>?_) a.length 0 [] 0 ae rfl (fun x j=>by cases j) ⟨qv _,f⟩ (by simp[zd])
   ·have T:=wn (i:=i) ae;have B:(decide ((0:Int)<=(i:Int))&&decide ((i:Int)<((a.length+1:Nat):Int)))=true:=by simp;omega
    refine zo (BA ..) (zc (by simp;omega) ?_);rw[T,e7,zf,zf,zf,zf,em,I];refine zc (by simp;omega) (zc B<|zc (w4 ae)<|zc (by simp)<|zc B<|zc (w4 ae) (zr (fun c=>zc (by simp)<|zc (by simp;omega)<|zc (by simp;omega) ?_)<|fun c=>?_))
    ·have c:=w6 c;rw[wd ae]at h;exact h
    ·have c:=w7 c;rw[wc ae]at h;exact h
   refine zo (BA ..) (zy (by simp) ?_);rw[eo,vl,e5,e6,zf,z,D,zf,hs];refine zc (by simp;omega) ?_;have H:=AU (b:=Ap) af<|a.length-(k+2)+1;have start:zd Ap (u.drop<|a.length-(k+2)+1)<zd Ap (Ay o):=by
    have a1:=Cy Ap u (a.length-(k+2)+1) ae;have a2:=AD (b:=Ap) af<|AS E<|a.length-(k+2)+1;have a3:=Bz (b:=Ap) af da;have a4:=qq a3 f;have a5:(Ap:Int)^a.length=(Ap:Int)^(a.length-(k+2)+1)*(Ap:Int)^(k+1):=by rw[<-ji];congr 1;omega
    have a6:=DF (b:=Ap) af db zb l;rw[z,show k+2-1=k+1 by omega]at a6;have a7:=zh a6<|zp f;have a8:=zh a7<|zp H;rw[a5,ye]at a4;rw[N];refine z8 (a:=(Ap:Int)^(a.length-(k+2)+1)) ?_<|zp H;omega
   have go:=Cb (Q:=Ad G5 (a,b)) s (Ay o) k a.length vl la9 ae vd v1 (2^s*zd Ap a) (fun S P L t K n Z O=>by
    have hz:zd Ap (S.drop<|k+2)=0:=J0 (b:=Ap) af t ae (by rw[N]at n;omega);refine Fa s hs63 a.length (k+2) (a.length-(k+2)+1) ae la9 S P L t hz Z ae K (fun w ob hw hwv=>?_) (k+2) 0 [] ae rfl (fun x j=>by cases j) (by simp[zd]);have e:zd Ap S=2^s*(zd Ap a-zd Ap P*zd Ap b):=by
     rw[N,yd,zw<|zd Ap b]at O;rw[qf];omega
    have ew:zd Ap w=zd Ap a-zd Ap P*zd Ap b:=by
     rw[hwv,e];exact qy _ ae
    refine fin P w ob K hw ae ?_;rw[N,e]at n;have:=z8 n<|zp f;omega) (a.length-(k+2)+1) u [] (by simp) R E (fun x j=>by cases j) start (by rw[huv];simp[zd])
   rw[ql,show((a.length-(k+2)+1:Nat):Int)-1=((a.length-(k+2):Nat):Int)by omega]at go;exact go
end T212
theorem SF:Af A8 212 G5:=T212.ok
theorem tZ:CX XF0:=fun g sp h=>by cases h
theorem T106n.ok:Af A8 106 VT:=by
 refine BR tZ<|fun(n:Int) _=>?_;refine yq (T106n.Aj n)<|zn<|yv rfl rfl ?_;show(n,[])=(n,Co n);rw[Ea]
theorem rB:CX XF1:=
 Aa T106n.ok (Aa SF<|Aa (T179.ok FU)<|Aa (T180.ok FU)<|Aa T160.ok<|Aa T139.ok<|Aa T161.ok AE)
theorem Yy{m D:Int}(c:0<D):(m % D=0->(-m)/D= -(m/D)/\(-m) % D=0)/\(m % D≠0->(-m)/D= -(m/D)-1/\(-m) % D=D-m % D):=by
 have e:=yn m D;have f:=yo m (show D≠0 by omega);have d:=yj m c;refine⟨fun h=>?_,fun h=>?_⟩
 ·exact(yp (a:= -m) (b:=D) (r:=0) (q:= -(m/D)) c).2 ⟨by rw[jk];omega,by omega,by omega⟩
 ·exact(yp (a:= -m) (b:=D) (r:=D-m % D) (q:= -(m/D)-1) c).2 ⟨by rw[qf,jk,y7];omega,by omega,by omega⟩
theorem uU{m D:Int}(a:0<=m)(b:0<D):(0<=m/D/\m/D<=m)/\(0<=m % D/\m % D<=m/\m % D<D):=by
 have e:=yn m D;have q0:0<=m/D:=qk a ae;have q1:m/D<=m:=Int.ediv_le_self _ a;have d:=yo m (show D≠0 by omega);have c:=yj m b;have:=yb (show 0<=D by omega) q0;exact⟨⟨q0,q1⟩,d,by omega,c⟩
theorem Zl(n:Bool){v:Int}(h:0<=v):Ah (jl n v)=v:=by
 rw[DS,Ak];split<;>omega
theorem D8{n:Int}(h:Ah n<(Ap:Int)^9000):Bh (Dd n)=true:=by
 have:=Oo h ae;unfold Bh;exact Ab this.1<|w4 this.2
theorem fQ{a b:AK}(h:0<zm a+zm b):ES a b=Dd (zm a+zm b):=by
 unfold ES;split
 ·next c=>
  have:=EG c.2.2;rw[Br c.1,Br c.2.1]at h ⊢;exact(Cf ae).symm
 ·rfl
theorem OC:((1:Int),Co (1:Int))=Dd 1:=by rw[Ea];rfl
namespace T190
theorem So{a b:AK}(q:Int)(h: -9223372036854775808<q/\q<9223372036854775808)(c:HW a b=Dd q\/(-9223372036854775808<q/\HW a b=Oa (Dd<|q+1) (1,[])/\q+1<9223372036854775808)):HW a b=(q,[]):=by
 rcases c with c|⟨e,c,d⟩
 ·rw[c,Cf h]
 ·rw[c,Cf ae];unfold Oa Du;rw[wd ⟨rfl,by decide⟩];unfold ES;rw[wd ⟨rfl,rfl,Eb (by show _<=q+1+ -1;omega)<|by show q+1+ -1<_;omega⟩];show(q+1+ -1,[])=(q,[]);rw[show q+1+ -1=q by omega]
set_option maxHeartbeats 1000000 in
theorem ok:Af A8 190 Hz:=by
 refine BR rB<|fun(i:(Int×List Int)×(Int×List Int)) t=>?_;obtain⟨a,b⟩:=i;have t:(Bh a&&Bh b&&decide (0<zm b))=true:=t;rw[zi,zi,w5]at t;obtain⟨⟨ha,hb⟩,hD⟩:=t;obtain⟨oa,_,na,_,va,ba⟩:=words ha;obtain⟨ob,_,nb,_,vb,bb⟩:=words hb;have C:Ah (zm b)=zm b:=by rw[Ak];omega
 have H:=AJ<|zm a;have d:Ah (zm a)=if zm a<0 then -zm a else zm a:=rfl
 obtain⟨⟨q0,q1⟩,u,G,A⟩:=uU (D:=zm b) H hD;obtain⟨z1,z2⟩:=Yy (m:=Ah<|zm a) hD;have f:UA (BC<|Ah<|zm a) (BC<|Ah<|zm b)=true:=by
  unfold UA;exact Ab (Ab (Ab (Ab na nb)<|w4<|KJ H ba)<|w4<|KJ (AJ _) bb) (w4<|by rw[vb,C];exact hD)
 have fin:∀(q r:AK) v ob,Iw Hz.outs v ob=some (true,(q,r))->q=HW a b->r=Dd (zm a % zm b)->Ad Hz (a,b) v ob:=fun q r v ob h N J=>yv h rfl (by rw[N,J];rfl)
 have e:Ends XF1 (L1 (decide (zm a<0)) (BC<|At (BC<|Ah<|zm a)/At (BC<|Ah<|zm b)) (BC<|At (BC<|Ah<|zm a) % At (BC<|Ah<|zm b)) 0 0 b.1 b.2) (Ad Hz (a,b)):=by
  rw[va,vb,C];obtain⟨L,_,P⟩:=Dj (n:=Ah (zm a)/zm b) (k:=9000) q0 ae ae;obtain⟨nr,_,vr⟩:=Dj (n:=Ah (zm a) % zm b) (k:=9000) u ae ae;have E:Bh (Dd<|jl (decide (zm a<0))<|Ah (zm a) % zm b)=true:=D8 (by rw[Zl _ u];omega);have R:Bh (Dd<|jl (decide (zm a<0))<|Ah (zm a)/zm b)=true:=D8 (by rw[Zl _ q0];omega);have I:Bh ((1:Int),Co (1:Int))=true:=by rw[OC];decide
  have es:Ix (C4<|jl (decide (zm a<0))<|Ah (zm a) % zm b,C3<|jl (decide (zm a<0))<|Ah (zm a) % zm b)=Sp.NQ (jl (decide (zm a<0))<|Ah (zm a) % zm b):=by
   show Sp.NQ (zm<|Dd _)=_;rw[CL]
  refine zo (Al ..)<|zc L<|zc nr ?_;rw[P,vr];refine zo (AG ..)<|zc (Cc E).1 ?_;rw[es];refine zr (fun c=>?_)<|fun c=>?_
  ·have c:=w6 c;have o:jl (decide (zm a<0)) (Ah (zm a) % zm b)<0:=by
    rw[Mr]at c;split at c
    ·assumption
    ·split at c<;>omega
   have j:zm a<0:=by
    rcases yg (zm a) 0 with g|g
    ·exact g
    ·rw[DS,wc<|by simp;omega]at o;omega
   have hr:Ah (zm a) % zm b≠0:=by
    rw[DS,wd<|w4 j]at o;omega
   obtain⟨z3,z4⟩:=z2 hr;refine zc rfl (zc (Ab R I)<|zc (Ab E hb)<|zn<|fin (Oa (Dd<|jl (decide (zm a<0))<|Ah (zm a)/zm b) (1,Co 1)) (ES (Dd<|jl (decide (zm a<0))<|Ah (zm a) % zm b) b) _ _ rfl ?_ ?_)
   ·unfold HW;rw[wd ⟨j,hr⟩,Ea,DS,wd<|w4 j]
   ·have ev:zm a= -Ah (zm a):=by rw[d,wd j];omega
    have z:zm (Dd<|jl (decide (zm a<0))<|Ah (zm a) % zm b)= -(Ah (zm a) % zm b):=by rw[CL,DS,wd<|w4 j]
    have K:zm a % zm b=zm b-Ah (zm a) % zm b:=by rw[<-z4, <-ev]
    rw[fQ (by rw[z];omega),z,K];congr 1;omega
  ·have c:=w7 c;have o:¬(zm a<0/\Ah (zm a) % zm b≠0):=by
    rintro⟨j,hr⟩;rw[DS,wd<|w4 j,Mr,wd ae]at c;omega
   refine zn<|fin (Dd<|jl (decide (zm a<0))<|Ah (zm a)/zm b) (Dd<|jl (decide (zm a<0))<|Ah (zm a) % zm b) _ _ rfl ?_ ?_
   ·unfold HW;rw[wc o]
   ·congr 1;rcases yg (zm a) 0 with g|g
    ·have hr:Ah (zm a) % zm b=0:=by
      rcases yg 0 (Ah (zm a) % zm b)with g2|g2
      ·exact wh ⟨g,by omega⟩ o
      ·omega
     have ev:zm a= -Ah (zm a):=by rw[d,wd g];omega
     have:=(z1 hr).2;rw[<-ev]at this;rw[this,hr,DS];split<;>rfl
    ·rw[DS,wc (by simp;omega),d,wc ae]
 refine yq (Aj a b)<|zr (fun F=>zr (fun o=>zr (fun x=>?_)<|fun x=>?_)<|fun o=>?_)<|fun F=>?_
 ·have a2:=OY F;have S:=OY o;have x:a.1≠ -9223372036854775808:=by simpa using x
  have U:=EG (n:=a.1) (by
   have:=oa;unfold Sp.Dt at this;rw[zi]at this;exact this.1)
  have T:=EG (n:=b.1) (by
   have:=ob;unfold Sp.Dt at this;rw[zi]at this;exact this.1)
  have l:=Br a2;have p:=Br S;rw[l]at d;rw[p]at hD A;rw[l,p]at q0 q1 u G z1 z2;rw[l]at A;have s:yt a.1 b.1=if a.1<0 then -(Ah a.1/b.1)else Ah a.1/b.1:=by
   rw[d];split
   ·have:=Int.neg_tdiv (-a.1) b.1;rw[Int.neg_neg]at this;rw[this,zu ae]
   ·exact zu ae
  have hr:qt a.1 b.1=if a.1<0 then -(Ah a.1 % b.1)else Ah a.1 % b.1:=by
   rw[d];split
   ·have:=Int.neg_tmod (-a.1) b.1;rw[Int.neg_neg]at this;rw[this,z6 ae]
   ·exact z6 ae
  refine zc (w4 ae) (zc (w4 ae)<|zr (fun c=>?_)<|fun c=>?_)
  ·have c:=w6 c;rw[hr]at c;have j:a.1<0:=by split at c<;>omega
   rw[wd j]at c s hr;rw[wd j]at d;obtain⟨z3,z4⟩:=z2 ae;have ev:a.1= -Ah a.1:=ae
   have O:Ah a.1/b.1<9223372036854775807:=by
    rcases yg (Ah a.1/b.1) 9223372036854775807 with g|g
    ·exact g
    ·have:=yn (Ah a.1) b.1;have:=zk (show 1<=b.1 by omega) q0;omega
   refine zn<|fin (zg .i64<|zg .i64 (yt a.1 b.1)-1,[]) (zg .i64<|qt a.1 b.1+b.1,[]) _ _ rfl ?_ ?_
   ·rw[s,wr (-(Ah a.1/b.1)) ae ae,wr _ ae ae];refine(So _ ae<|.inr ⟨by omega,?_,by omega⟩).symm;unfold HW;rw[l,p,wd ⟨j,by omega⟩,show -(Ah a.1/b.1)-1+1= -(Ah a.1/b.1)by omega]
   ·rw[hr,wr _ ae ae];have:a.1 % b.1=b.1-Ah a.1 % b.1:=by rw[<-z4, <-ev]
    rw[l,p,this,Cf ae];congr 1;omega
  ·have c:=w7 c;rw[hr]at c;refine zn<|fin (zg .i64<|yt a.1 b.1,[]) (qt a.1 b.1,[]) _ _ rfl ?_ ?_
   ·have y:HW a b=Dd (yt a.1 b.1):=by
     unfold HW;rw[l,p,s,wc (by rintro⟨M,V⟩;rw[wd M]at c;omega),DS];by_cases h:a.1<0
     ·rw[wd<|w4 h,wd h]
     ·rw[wc (by simp;omega),wc h]
    have w: -9223372036854775808<yt a.1 b.1/\yt a.1 b.1<9223372036854775808:=by
     rw[s,d]at*;split<;>split at q1<;>split at q0<;>omega
    rw[wr _ ae ae];exact(So _ w<|.inl y).symm
   ·rw[hr];by_cases h:a.1<0
    ·rw[wd h]at c ⊢;have B:Ah a.1 % b.1=0:=ae
     rw[wd h]at d;have ev:a.1= -Ah a.1:=ae
     have:=(z1 B).2;rw[<-ev]at this;rw[l,p,this,B];rfl
    ·rw[wc h]at c ⊢;rw[wc h]at d;rw[l,p,d,Cf<|by rw[d]at u G;omega]
 ·exact zc oa<|zc ob<|zc f e
 ·exact zc oa<|zc ob<|zc f e
 ·exact zc oa<|zc ob<|zc f e
end T190
theorem sP:CX XF2:=
 Aa T190.ok (Aa T202.ok<|Aa T161.ok AE)
theorem sJ{a:AK}(h:Sp.Dt a=true):Wo a=Dd (Ah<|zm a):=by
 have k:=xG h;obtain⟨hr,b⟩:=Ej h;unfold Wo;by_cases h0:a.1<0
 ·rw[wd h0,Ak];unfold Du;have e:=k.1 h0;split
  ·next c=>rw[Br c.1]at e ⊢;rw[Cf ae];congr 1;omega
  ·congr 1;omega
 ·rw[wc h0];obtain⟨s,w⟩:=a;have h0:¬s<0:=h0;rcases b with b|⟨j,i,f⟩
  ·have b:w=[]:=b;subst b;have hr: -9223372036854775808<=s/\s<9223372036854775808:=hr;rw[E4,Ak,Cf ae];congr 1;omega
  ·obtain⟨_,d,z⟩:=Fs j;have i:s=1\/s= -1:=i;have f:9223372036854775808<=At w:=f;have g:w≠[]:=by rintro rfl;exact wh f af
   have l:s=1:=ae
   subst l;rw[Yg g,wc af,Ak];have:=Uh (w:=w) false d z f;rw[wc af,wc af]at this;rw[show((At w).natAbs:Int)=At w by omega,this]
theorem jL(n:Int):Ix (C4 n,C3 n)=Sp.NQ n:=by
 show Sp.NQ (zm<|Dd _)=_;rw[CL]
theorem Ll(n:Int):zm (C4 n,C3 n)=n:=CL n
theorem ZD(m n:Int):nO (C4 m,C3 m) (C4 n,C3 n)=C4 (m % n)/\kY (C4 m,C3 m) (C4 n,C3 n)=C3 (m % n):=by
 constructor
 ·show C4 (zm (Dd _) % zm (Dd _))=_;rw[CL,CL]
 ·show C3 (zm (Dd _) % zm (Dd _))=_;rw[CL,CL]
theorem Gj{n:Int}(h:Bh (Dd n)=true):Bh (C4 n,C3 n)=true:=h
theorem Ov{a:AK}(h:Sp.Dt a=true):QN a=C4 (Ah<|zm a)/\P6 a=C3 (Ah<|zm a):=by
 unfold QN P6;rw[sJ h];exact⟨rfl,rfl⟩
theorem WI(x y:Nat):((x:Int) % (y:Int))=((x % y:Nat):Int):=rfl
theorem wW(a b:AK)(n:Int)(h:n=Sp.gI (zm a) (zm b)):(C4 n,C3 n)=(NR a b,Nz a b):=by subst h;rfl
namespace T170
theorem uH(n:Nat)(h:(n:Int)<(Ap:Int)^9000):Bh (Dd (n:Int))=true:=D8 (by rw[Ak,Int.natAbs_natCast];exact h)
theorem Ar(g:Nat)(e L:Int)(c:∀n:Nat,(n:Int)<L->Bh (Dd (n:Int))=true)(d:∀ob,Q (.agg [.dat i64<|C4 (g:Int),.dat (.nlist u64)<|C3 (g:Int)]) ob):∀(f x y:Nat),y<f->jz x y=g->(x:Int)<L->(y:Int)<L->
  Ends XF2 (L1 e (C4 (y:Int)) (C3 (y:Int)) (C4 (x:Int))<|C3 (x:Int)) Q
 |0,x,y,h,_,_,_=>by omega
 |f+1,x,y,m,b,k,a=>by
  have l:Bh (Dd (x:Int))=true:=c x k;have i:Bh (Dd (y:Int))=true:=c y a
  refine zo (Al ..)<|zc (Cc<|Gj i).1 ?_;rw[jL,(ZD _ _).1,(ZD _ _).2,Ll,WI];by_cases h0:y=0
  ·subst h0;rw[Nat.gcd_zero_right]at b;subst b;exact zy rfl (zn<|d _)
  ·have j:x % y<y:=Nat.mod_lt _ ae;refine zc ?_ (zc (Ab (Ab (Gj l)<|Gj i)<|w4 ae) ?_)
   ·rw[Mr,wc ae,wd ae];rfl
   ·exact Ar g e L c d f y (x % y) ae (by rw[jg, <-Nat.gcd_rec,jg];exact b) a ae
theorem ok:Af A8 170 Zh:=by
 refine BR sP<|fun(i:(Int×List Int)×(Int×List Int)) c=>?_;obtain⟨a,b⟩:=i;have c:(Bh a&&Bh b)=true:=c;rw[zi]at c;obtain⟨ha,hb⟩:=c;have d:=(Cc ha).1;have ob:=(Cc hb).1;have f:=bounds ha;have e:=bounds hb;rw[Ak]at f e;refine yq (Aj a b)<|zc d<|zc ob ?_;show Ends XF2 (L1 0 (QN b) (P6 b) (QN a)<|P6 a) _;rw[(Ov d).1,(Ov d).2,(Ov ob).1,(Ov ob).2,Ak,Ak];refine Ar (jz (zm a).natAbs (zm b).natAbs) 0 _ uH (fun ob=>yv rfl rfl (wW a b _ ?_)) ((zm b).natAbs+1) _ _ (Nat.lt_succ_self _) rfl f e;rw[Gx];rfl
end T170
theorem Ado(n:Nat)(h:n<9223372036854775808):Is .i64 (n:Int) 1=((n % 2:Nat):Int):=by
 have e:(yf 64 (n:Int)&&&yf 64 1).toNat=n % 2:=by
  rw[BitVec.toNat_and];have b:(yf 64 (n:Int)).toNat=n:=by rw[BitVec.ofInt_natCast,BitVec.toNat_ofNat];exact Nat.mod_eq_of_lt ae
  have a:(yf 64 1).toNat=2^1-1:=af
  rw[b,a,Nat.and_two_pow_sub_one_eq_mod]
 show zg .i64 (((yf 64 (n:Int)&&&yf 64 1).toNat:Nat):Int)=_;rw[e];exact wr _ ae ae
namespace T176
theorem Vu{c:Int}(h:c≠0):1<=Ah c:=by rw[Ak];omega
theorem ZH(c:Int):∀k:Nat,Ah (c^k)=Ah c^k
 |0=>by rw[yc,yc];rfl
 |k+1=>by rw[zt,zt,JF,ZH c k]
theorem one_le_pow{c:Int}(h:1<=c):∀k:Nat,1<=c^k
 |0=>by rw[yc];decide
 |k+1=>by
  rw[zt];have:=zk (one_le_pow h k) (show 0<=c by omega);omega
theorem Aej{p c L:Int}{k:Nat}(m:1<L)(h:Ah (p*c^k)<L)(l:c=0->Ah p<=1)(g:c≠0->p≠0):Ah p<L/\(1<=k->Ah c<L)/\(2<=k->Ah (c*c)<L)/\(1<=k->Ah (p*c)<L):=by
 by_cases b:c=0
 ·subst b;have:=l rfl;have e:Ah 0=0:=rfl;exact⟨by omega,fun _=>by rw[e];omega,fun _=>by rw[y8,e];omega,fun _=>by rw[y8,e];omega⟩
 ·have hp:=Vu<|g b;have a:=Vu b;rw[JF,ZH]at h;rw[JF,JF];generalize Ah p=P at*;generalize Ah c=C at*;have i:1<=C^k:=one_le_pow a k;have a1:P<=P*C^k:=by
   have:=zh i (show 0<=P by omega);omega
  have f:C^k<=P*C^k:=by
   have:=zk hp (show 0<=C^k by omega);omega
  refine⟨by omega,fun d=>?_,fun d=>?_,fun d=>?_⟩
  ·obtain⟨j,rfl⟩:∃j,k=j+1:=⟨k-1,by omega⟩;rw[zt]at f h;have:=zk (one_le_pow a j) (show 0<=C by omega);omega
  ·obtain⟨j,rfl⟩:∃j,k=j+2:=⟨k-2,by omega⟩;have e:C^(j+2)=C^j*(C*C):=by rw[zt,zt,yd]
   rw[e]at f h;have:=zk (one_le_pow a j) (yb (show 0<=C by omega) (show 0<=C by omega));omega
  ·obtain⟨j,rfl⟩:∃j,k=j+1:=⟨k-1,by omega⟩;have e:P*C^(j+1)=C^j*(P*C):=by rw[zt,ye]
   rw[e]at h;have:=zk (one_le_pow a j) (yb (show 0<=P by omega) (show 0<=C by omega));omega
theorem cT{p c:Int}{k j:Nat}(h:k=2*j):p*(c*c)^j=p*c^k:=by
 subst h;rw[Int.pow_mul,zt,zt,yc,yh]
theorem kZ{p c:Int}{k j:Nat}(h:k=2*j+1):p*c*(c*c)^j=p*c^k:=by
 subst h;rw[zt,Int.pow_mul,show c^2=c*c by rw[zt,zt,yc,yh],yd,zw c]
theorem AcJ{x:Int}(h:x<(18446744073709551616:Int)^(4000:Nat)):x<(Ap:Int)^9000:=
 qe h (AQ (b:=Ap) af ae)
theorem Ar(o1 R:Int)(hR:Ah R<(18446744073709551616:Int)^(4000:Nat))(n:∀ob,Q (.agg [.dat i64<|C4 R,.dat (.nlist u64)<|C3 R]) ob):
  ∀(f k:Nat) (p:Int) (a:AK),k<f->k<=100000->(1<=k->Bh a=true)->p*zm a^k=R->(zm a=0->Ah p<=1)->(zm a≠0->p≠0)->
   Ends XF3 (L1 (k:Int) (C4 p) (C3 p) o1 a.1 a.2) Q
 |0,k,p,a,h,_,_,_,_,_=>by omega
 |f+1,k,p,a,D,C,w,i,u,l=>by
  have B:(1:Int)<(18446744073709551616:Int)^(4000:Nat):=qe (show(1:Int)<18446744073709551616^(1:Nat)by decide) (AQ (b:=18446744073709551616) af ae);rw[<-i]at hR;obtain⟨s1,s2,s3,s4⟩:=Aej B hR u l;by_cases h0:k=0
  ·subst h0;rw[yc,y7]at i;subst i;exact zo (Al ..) (zy (by simp)<|zn<|n _)
  ·have y:Bh (C4 p,C3 p)=true:=D8<|AcJ s1;have j:Bh a=true:=w ae;have A:Int.fdiv (k:Int) ((2:Int)^(1:Nat))=((k/2:Nat):Int):=by
    rw[yz _ af];rfl
   have s:(Fq (C4 p,C3 p) a,Fx (C4 p,C3 p) a)=Dd (p*zm a):=by
    show Dd (zm (Dd p)*zm a)=_;rw[CL]
   have o:Fq (C4 p,C3 p) (a.1,a.2)=C4 (p*zm a):=wi Prod.fst s;have m:Fx (C4 p,C3 p) (a.1,a.2)=C3 (p*zm a):=wi Prod.snd s;have r:zm (FN a a)=zm a*zm a:=DQ a a;have t:∀q:Int,1<k->q*(zm a*zm a)^(k/2)=p*zm a^k->(zm a=0->Ah q<=1)->(zm a≠0->q≠0)->Ends XF3 (L1 ((k/2:Nat):Int) (C4 q) (C3 q) o1 (Fq (a.1,a.2) (a.1,a.2))<|Fx (a.1,a.2) (a.1,a.2)) Q:=by
    intro q e g x v;refine Ar o1 R (by rw[i]at hR;exact hR) n f (k/2) q (FN a a) ae ae (fun _=>D8<|AcJ<|s3 ae) (by rw[r,g,i]) (fun z=>x ?_)<|fun z=>v ?_
    ·rw[r]at z;rcases Int.mul_eq_zero.1 z with z|z<;>exact z
    ·rintro z2;rw[r,z2]at z;exact z rfl
   have st:∀q:Int,k=1->q=R->Ends XF3 (L1 ((k/2:Nat):Int) (C4 q) (C3 q) o1 a.1 a.2) Q:=by
    intro q e g;subst e g;exact zo (Al ..) (zy (by simp)<|zn<|n _)
   refine zo (Al ..) (zc (w4 ae) ?_);rw[Ado k ae,A,o,m];refine zr (fun c=>?_)<|fun c=>?_
   ·have c:((k % 2:Nat):Int)=1:=by simpa using c
    refine zc (Ab y j)<|zr (fun d=>zc (Ab j j)<|zc rfl ?_)<|fun d=>zc rfl ?_
    ·have d:=w6 d;refine t _ ae (kZ ae) (fun z=>by rw[z,y8];decide)<|fun z=>?_;exact Int.mul_ne_zero (l z) z
    ·have d:=w7 d;have e:k=1:=ae
     refine st _ e ?_;rw[<-i,e,zt,yc,yh]
   ·have c:((k % 2:Nat):Int)≠1:=by simpa using c
    refine zr (fun d=>zc (Ab j j)<|zc rfl ?_)<|fun d=>?_
    ·have d:=w6 d;exact t _ ae (cT ae) u l
    ·have d:=w7 d;omega
theorem sC:CX XF3:=Aa T106n.ok<|Aa T127.ok AE
theorem ok:Af A8 176 oG:=by
 refine BR sC<|fun(i:(Int×List Int)×Int) b=>?_;obtain⟨a,k⟩:=i;have b:(Bh a&&(decide (0<=k)&&decide (k<=100000)&&decide (Ah (Sp.pI (zm a) k)<(18446744073709551616:Int)^(4000:Nat))))=true:=b;rw[zi,zi,zi,w5,w5,w5,T6]at b;obtain⟨ha,⟨k0,k1⟩,hR⟩:=b;obtain⟨n,rfl⟩:=qg k0;have c:Co 1=C3 1:=by rw[Ea];rfl
 refine yq (Aj a n)<|zc rfl ?_;rw[c];refine Ar (Q:=Ad oG (a,(n:Int))) 0 (zm a^n) hR (fun ob=>yv rfl rfl ?_) (n+1) n 1 a ae ae (fun _=>ha) (yh _) (fun _=>by decide) (fun _=>by decide);show Dd _=Dd (Sp.pI (zm a) (n:Int));rw[T6];rfl
end T176
end Go.Pe
namespace Go.Sp
theorem O6{l:List Int}(h:Kg l=true):l.length<=20000/\Az B9 l:=by
 unfold Kg at h;rw[zi,w5,jc]at h;exact⟨h.1,fun d a=>by
  have:=h.2 d a;rw[zi,w5,w5]at this;exact this⟩
theorem LO{l:List Int}(c:l.length<=20000)(b:Az B9 l):Kg l=true:=by
 unfold Kg;rw[zi,w5,jc];exact⟨c,fun d a=>by
  have:=b d a;rw[zi,w5,w5];exact this⟩
theorem Aab{l:List Int}(h:hR l=true):l.length<=9000/\Az B9 l:=by
 unfold hR at h;rw[zi,w5]at h;exact⟨h.2,(O6 h.1).2⟩
theorem Ss{l:List Int}(a:l.length<=9000)(b:Az B9 l):hR l=true:=by
 unfold hR;rw[LO ae b,qj];exact w4 a
theorem Bu{l:List Int}(h:Bb l=true):l.length<=20000/\Az B9 l/\nz l:=by
 unfold Bb at h;rw[zi]at h;have:=O6 h.1;exact⟨this.1,this.2,by
  have:=h.2;unfold nzW at this;have:l.getLast?≠some 0:=w6 this;exact this⟩
theorem kH{l:List Int}(a:l.length<=20000)(c:Az B9 l)(b:nz l):Bb l=true:=by
 unfold Bb nzW;rw[LO a c,qj];exact w4 b
theorem Hg{l:List Int}(h:Az B9 l)(i:Nat):0<=l.getD i 0/\l.getD i 0<1000000000:=KM af h i
theorem FR{l:List Int}{x:Int}(h:Az B9 l)(b:0<=x/\x<1000000000):Az B9 (l++[x]):=Fo h (fun d a=>by rw[qd]at a;subst a;exact b)
theorem Cv(l:List Int)(x:Int):val B9 (l++[x])=val B9 l+(B9:Int)^l.length*x:=by
 rw[De];simp[val]
theorem Kf(i:Nat)(c:Int):(B9:Int)^(i+1)*c=(B9:Int)^i*(1000000000*c):=by
 rw[zt,yd];rfl
theorem FD{l:List Int}(h:Az B9 l):Ay l=BS (An l):=Zn af h
theorem OB{n:Int}{k:Nat}(h0:0<=n)(h:n<(B9:Int)^k):(BS n).length<=k:=by
 refine Oy B9 af k n.toNat n.toNat ?_;have e:((B9^k:Nat):Int)=(B9:Int)^k:=Int.natCast_pow ..;rw[<-e]at h;generalize B9^k=P at*;omega
theorem F9{n:Int}{k:Nat}(h0:0<=n)(h:n<(B9:Int)^k)(d:k<=9000):Bb (BS n)=true/\hR (BS n)=true/\An (BS n)=n/\(BS n).length<=k:=by
 have c:=OB h0 h;have a:=F6 (b:=B9) af n;exact⟨kH ae a (aO af n),Ss ae a,Db af h0,c⟩
end Go.Sp
namespace Go.Pe
open Sp
open Go.Det
theorem UC:CX qV:=fun g sp h=>by cases h
namespace T193
theorem Ar{Q:PV->Ob->Prop}:∀(n:Nat) (w:List Int),w.length=n->n<=20000->(∀ob,Q (.dat li<|Ay w) ob)->Ends qV (L1 w) Q
 |0,w,d,_,a=>by
  have:w=[]:=z7.1 d;subst this;exact zo (Al ..) (zy (by simp)<|zn<|a _)
 |n+1,w,d,g,a=>by
  obtain⟨p,x,rfl⟩:∃p x,w=p++[x]:=by
   have b:w≠[]:=by rintro rfl;simp at d
   exact⟨w.dropLast,w.getLast b,(qm b).symm⟩
  have hp:p.length=n:=by simpa using d
  have f:zg .i64 (((p++[x]).length:Int)-1)=(n:Int):=by rw[wr _ ae ae];omega
  have e:(p++[x]).getD n 0=x:=D0 _ _ _ _ hp;have t1:(p++[x]).take n=p:=by rw[<-hp];exact jj
  refine zo (Al ..) (zc (w4 ae) ?_);rw[f,zf,e,t1];refine zc (by simp;omega) (zr (fun c=>zc (by simp;omega) ?_)<|fun c=>?_)
  ·have c:x=0:=by simpa using c
   subst c;rw[IW]at a;exact Ar n p hp ae a
  ·have c:x≠0:=by simpa using c
   rw[Jw<|YL c]at a;exact zn<|a _
theorem ok:Af A8 193 SV:=by
 refine BR UC<|fun(w:List Int) a=>?_;have a:w.length<=20000:=w6 a;exact yq (Aj w)<|Ar w.length w rfl a (fun ob=>yv rfl rfl rfl)
end T193
theorem TY:CX fE:=Aa T193.ok AE
theorem T155.ok:Af A8 155 Ja:=by
 refine BR TY<|fun(i:Bool×List Int) hi=>?_;obtain⟨n,w⟩:=i;refine yq (T155.Aj n w)<|zc hi<|zr (fun c=>zn<|yv rfl rfl ?_)<|fun c=>zn<|yv rfl rfl ?_
 ·show(decide (((Ay w).length:Int)>0),Ay w)=(CM n w,Ay w);unfold CM;rw[c,qj];congr 1;rw[decide_eq_decide];constructor
  ·intro h a;rw[a]at h;simp at h
  ·intro h;have:(Ay w).length≠0:=fun a=>h<|z7.1 a
   omega
 ·show(false,Ay w)=(CM n w,Ay w);unfold CM;rw[c];rfl
namespace T157
theorem Ar{Q:PV->Ob->Prop}(a b:List Int)(h:Az ze a)(k:Az ze b)(o:a.length=b.length)(l:b.length<=20000)(f:∀ob,Q (.dat i64<|Ck (An a)<|An b) ob):∀(i:Nat),i<=a.length->a.drop i=b.drop i->Ends qV (L1 a b<|(i:Int)-1) Q
 |0,n,g=>by
  have g:a=b:=g;have:Ck (An a) (An b)=0:=by rw[g];unfold Ck;simp
  rw[this]at f;exact zo (Al ..) (zy (by simp)<|zn<|f _)
 |i+1,n,g=>by
  have m:(((i+1:Nat):Int)-1)=(i:Int):=ae
  have j:a.drop i=a.getD i 0::a.drop (i+1):=Cx ae;have db:b.drop i=b.getD i 0::a.drop (i+1):=by rw[g];exact Cx ae
  rw[m];refine zo (Al ..) (zc (by simp) ?_);rw[zf];refine zc (by simp;omega) (zc (by simp;omega)<|zr (fun d=>?_) (fun d=>zc (by simp;omega)<|zc (by simp;omega)<|zr (fun c=>?_)<|fun c=>?_))
  ·have d:=w6 d;have:=JY (b:=ze) af h k j db d;have e:Ck (An a) (An b)= -1:=by unfold Ck;exact wd this
   rw[e]at f;exact zn<|f _
  ·have c:=w6 c;have:=JY (b:=ze) af k h db j c;have e:Ck (An a) (An b)=1:=by unfold Ck An;rw[wc ae,wd ae]
   rw[e]at f;exact zn<|f _
  ·have c:=w7 c;have d:=w7 d;rw[wr ((i:Int)-1) ae ae];exact Ar a b h k o l f i ae (by rw[j,db,show a.getD i 0=b.getD i 0 by omega])
theorem ok:Af A8 157 ZQ:=by
 refine BR UC<|fun(i:List Int×List Int) g=>?_;obtain⟨a,b⟩:=i;have g:(Bb a&&Bb b)=true:=g;rw[zi]at g;obtain⟨a1,a2,a3⟩:=Bu g.1;obtain⟨b1,b2,b3⟩:=Bu g.2;have f:∀ob,Ad ZQ (a,b) (.dat i64<|Ck (An a)<|An b) ob:=fun ob=>yv rfl rfl rfl
 refine yq (Aj a b)<|zr (fun c=>zr (fun d=>?_)<|fun d=>?_)<|fun c=>?_
 ·have d:=w6 d;have e:Ck (An a) (An b)= -1:=by unfold Ck;exact wd (E6 af a2 b2 b3 ae)
  rw[e]at f;exact zn<|f _
 ·have d:=w7 d;have c:(a.length:Int)≠b.length:=by simpa using c
  have:=E6 (b:=ze) af b2 a2 a3 ae;have e:Ck (An a) (An b)=1:=by
   unfold Ck An;rw[wc ae,wd ae]
  rw[e]at f;exact zn<|f _
 ·have c:(a.length:Int)=b.length:=by simpa using c
  rw[wr _ ae ae];exact Ar a b a2 b2 ae b1 f a.length ae (by rw[q9,jh ae])
end T157
theorem bJ{x y o c:Int}(d:0<=x/\x<1000000000)(e:0<=y/\y<1000000000)(k:0<=o/\o<1000000000)(j:0<=c/\c<1000000000):
  zg .i64 (zg .i64 (o+zg .i64 (x*y))+c)=o+x*y+c/\qt (o+x*y+c) 1000000000=(o+x*y+c) % 1000000000/\zg .i64 (yt (o+x*y+c) 1000000000)=(o+x*y+c)/1000000000/\
  (0<=(o+x*y+c)/1000000000/\(o+x*y+c)/1000000000<1000000000)/\(0<=(o+x*y+c) % 1000000000/\(o+x*y+c) % 1000000000<1000000000):=by
 have h0:0<=x*y:=yb d.1 e.1;have i:x*y<=999999999*999999999:=by
  have a:=zh (show y<=999999999 by omega) d.1;have b:=zk (show x<=999999999 by omega) (show(0:Int)<=999999999 by omega);omega
 generalize x*y=P at*;have g:zg .i64 P=P:=wr _ ae ae;have f:zg .i64 (o+P)=o+P:=wr _ ae ae;have h:yt (o+P+c) 1000000000=(o+P+c)/1000000000:=zu ae;refine⟨?_,z6 ae,?_,by omega,by omega⟩
 ·rw[g,f];exact wr _ ae ae
 ·rw[h];exact wr _ ae ae
namespace T159
theorem A2(x y:List Int)(n i:Nat)(M:i<x.length)(L:n=x.length+y.length)(f:x.length<=9000)(e:y.length<=9000)(u:Az ze x)(t:Az ze y)(p:List Int)(hp:p.length=i+y.length)(b:Az ze p)
  (s:∀q c,q.length=i+y.length->Az ze q->(0<=c/\c<1000000000)->zd ze q+(ze:Int)^(i+y.length)*c=zd ze p+(ze:Int)^i*(x.getD i 0*zd ze y)->Ends fE (L1 x y n ((i+1:Nat):Int)<|(q++[c])++zl (n-(i+y.length+1)) 0) Q):∀(k j:Nat) (q:List Int) (c:Int),j+k=y.length->q.length=i+j->Az ze q->(0<=c/\c<1000000000)->zd ze q+(ze:Int)^(i+j)*c=zd ze (p.take<|i+j)+(ze:Int)^i*(x.getD i 0*zd ze (y.take j))->
  Ends fE (L2 x y n i c j<|q++(p.drop (i+j)++zl (n-(i+y.length)) 0)) Q
 |0,j,q,c,m,a,h,l,o=>by
  have m:j=y.length:=ae
  subst m;have g:zg .i64 ((i:Int)+(y.length:Int))=((i+y.length:Nat):Int):=by rw[wr _ ae ae];omega
  have d:=wn (i:=i) ae;have H:p.drop (i+y.length)=[]:=jh ae;have K:(q++zl (n-(i+y.length)) (0:Int)).getD (i+y.length) 0=0:=by
   have:n-(i+y.length)=(n-(i+y.length+1))+1:=ae
   rw[this,List.replicate_succ];exact D0 _ _ _ _ a
  refine zo (AG ..) (zy (by simp) ?_);rw[g,d,zf,H,qn,K,Int.zero_add,wr c ae ae,J4 q n _ c a ae];refine zc (by simp;omega) (zc (by simp;omega) (zc (by simp;omega)<|zc (by simp;omega)<|s q c a h l ?_));rw[o,zj ae,yi]
 |k+1,j,q,c,m,a,h,l,o=>by
  have C:=Hg u i;have E:=Hg t j;have I:=Hg b<|i+j;have r:p.drop (i+j)=p.getD (i+j) 0::p.drop (i+j+1):=Cx ae;have g:zg .i64 ((i:Int)+(j:Int))=((i+j:Nat):Int):=by rw[wr _ ae ae];omega
  have d:=wn (i:=j) ae;have lo:(q++(p.drop (i+j)++zl (n-(i+y.length)) (0:Int))).length=n:=by simp;omega
  have J:(q++(p.drop (i+j)++zl (n-(i+y.length)) (0:Int))).getD (i+j) 0=p.getD (i+j) 0:=by
   rw[r,List.cons_append];exact D0 _ _ _ _ a
  have s1:∀z,(q++(p.drop (i+j)++zl (n-(i+y.length)) (0:Int))).set (i+j) z=(q++[z])++(p.drop (i+(j+1))++zl (n-(i+y.length)) 0):=by
   intro z;rw[r,List.cons_append,DN _ _ _ _ a,ya];rfl
  obtain⟨G,N,F,D,A⟩:=bJ C E I l;refine zo (AG ..) (zc (by simp;omega) ?_);rw[g,d,zf,zf,zf,J,G,N,F,s1];have t1:(decide ((0:Int)<=((i+j:Nat):Int))&&decide (((i+j:Nat):Int)<(n:Int)))=true:=by simp;omega
  refine zc t1 (zc (w4<|by rw[lo];omega)<|zc (by simp;omega) (zc (by simp;omega)<|zc rfl (zc t1<|zc (w4<|by rw[lo];omega)<|zc rfl ?_)));refine A2 x y n i M L f e u t p hp b s k (j+1) _ _ ae (by simp;omega) (FR h A) D ?_;have w:i+(j+1)=(i+j)+1:=ae
  have B:(ze:Int)^i*(x.getD i 0*((ze:Int)^j*y.getD j 0))=(ze:Int)^(i+j)*(x.getD i 0*y.getD j 0):=by
   rw[ji,yd,ye<|x.getD i 0]
  have v:(p.getD (i+j) 0+x.getD i 0*y.getD j 0+c) % 1000000000+1000000000*((p.getD (i+j) 0+x.getD i 0*y.getD j 0+c)/1000000000)=x.getD i 0*y.getD j 0+p.getD (i+j) 0+c:=by
   generalize x.getD i 0*y.getD j 0=P;omega
  rw[w,Cv,a,Kf,y9, <-zx,v,AI _ p<|i+j,AI _ y j,zx,zx,zx<|x.getD i 0,zx,B];omega
theorem Ar(x y:List Int)(n:Nat)(f:n=x.length+y.length)(b:x.length<=9000)(a:y.length<=9000)(o:Az ze x)(m:Az ze y)(l:∀ob,Q (.dat li<|BS<|An x*An y) ob):∀(k i:Nat) (p:List Int),i+k=x.length->p.length=i+y.length->Az ze p->zd ze p=zd ze (x.take i)*zd ze y->
  Ends fE (L1 x y n i<|p++zl (n-(i+y.length)) 0) Q
 |0,i,p,j,hp,e,d=>by
  have j:i=x.length:=ae
  subst j;have t:p++zl (n-(x.length+y.length)) (0:Int)=p:=by rw[f,Nat.sub_self];simp
  have g:An p=An x*An y:=by
   rw[yi]at d;exact d
  rw[t];refine zo (Al ..) (zy (by simp) ?_);rw[zj ae];refine zc ?_<|zn ?_
  ·simp;omega
  ·rw[FD e,g];exact l _
 |k+1,i,p,j,hp,e,d=>by
  refine zo (Al ..) (zc (by simp;omega) ?_);have:=A2 (Q:=Q) x y n i ae f b a o m p hp e (fun q c s h r g=>by
   have:=Ar x y n f b a o m l k (i+1) (q++[c]) ae (by simp;omega) (FR h r) (by
    rw[Cv,s,g,d,AI,Int.add_mul,yd])
   rw[show i+1+y.length=i+y.length+1 by omega]at this;exact this) y.length 0 (p.take i) 0 ae (by simp;omega) (AS e i) af (by simp[zd])
  rw[Nat.add_zero, <-ya,yw]at this;exact this
theorem ok:Af A8 159 Zm:=by
 refine BR TY<|fun(i:List Int×List Int) a=>?_;obtain⟨x,y⟩:=i;have a:(Sp.hR x&&Sp.hR y)=true:=a;rw[zi]at a;obtain⟨x1,x2⟩:=Aab a.1;obtain⟨y1,y2⟩:=Aab a.2;have c:zg .i64 ((x.length:Int)+(y.length:Int))=((x.length+y.length:Nat):Int):=by rw[wr _ ae ae];omega
 refine yq (Aj x y) ?_;conv=>zeta
 rw[c,zf];refine zc (by simp;omega) ?_;have:=Ar (Q:=Ad Zm (x,y)) x y (x.length+y.length) rfl x1 y1 x2 y2 (fun ob=>yv rfl rfl rfl) x.length 0 (zl y.length 0) ae (by simp) (fun d b=>by rw[(List.mem_replicate.1 b).2];decide) (by rw[Nr];simp[zd]);rw[Nat.zero_add,List.replicate_append_replicate,show y.length+(x.length+y.length-y.length)=x.length+y.length by omega]at this;exact this
end T159
theorem bL{r x d:Int}(a:0<d/\d<1000000000)(hr:0<=r/\r<d)(b:0<=x/\x<1000000000):
  zg .i64 (zg .i64 (r*1000000000)+x)=r*1000000000+x/\zg .i64 (yt (r*1000000000+x) d)=(r*1000000000+x)/d/\qt (r*1000000000+x) d=(r*1000000000+x) % d/\
  (0<=(r*1000000000+x)/d/\(r*1000000000+x)/d<1000000000)/\(0<=(r*1000000000+x) % d/\(r*1000000000+x) % d<d)/\(r*1000000000+x)/d*d+(r*1000000000+x) % d=r*1000000000+x:=by
 have h:=yn (r*1000000000+x) d;rw[zw]at h;have q0:0<=(r*1000000000+x)/d:=qk ae ae;have q1:(r*1000000000+x)/d<1000000000:=qi a.1 ae;refine⟨?_,?_,z6 ae,⟨q0,q1⟩,⟨yo _ ae,yj _ a.1⟩,h⟩
 ·rw[wr (r*1000000000) ae ae];exact wr _ ae ae
 ·rw[zu ae];exact wr _ ae ae
namespace T192
theorem Ar(a:List Int)(d:Int)(h:Az ze a)(g:0<d/\d<1000000000)(l:a.length<=20000)(f:∀q r ob,Az ze q->(0<=r/\r<d)->An a=An q*d+r->Q (.tup [.dat li<|Ay q,.dat i64 r]) ob):∀(i:Nat) (q:List Int) (r:Int),i+q.length=a.length->Az ze q->(0<=r/\r<d)->zd ze (a.drop i)=zd ze q*d+r->
  Ends fE (L1 a d a.length r ((i:Int)-1)<|zl i 0++q) Q
 |0,q,r,s,b,hr,c=>by
  have m:((zl 0 0++q).take a.length)=q:=by
   rw[List.replicate_zero,qn];exact zj ae
  refine zo (Al ..) (zy (by simp) ?_);rw[m];refine zc (Ab (by simp;omega)<|w4 ae)<|zn<|f q r _ b hr c
 |i+1,q,r,s,b,hr,c=>by
  have p:(((i+1:Nat):Int)-1)=(i:Int):=ae
  have t:=Hg h i;obtain⟨j,v,o,k,n,w⟩:=bL g hr t;have u:a.drop i=a.getD i 0::a.drop (i+1):=Cx ae;have es:∀x,(zl (i+1) (0:Int)++q).set i x=zl i 0++(x::q):=by
   intro x;rw[List.replicate_succ',ya];exact DN _ _ _ _ (by simp)
  rw[p];refine zo (Al ..) (zc (by simp) ?_);rw[zf,es,wr ((i:Int)-1) ae ae,j,v,o];refine zc (by simp;omega) (zc (w4 ae) (zc (by simp;omega)<|zc (by simp;omega)<|zc (w4 ae) ?_));refine Ar a d h g l f i _ _ (by simp;omega) (fun x e=>?_) n ?_
  ·rcases qz.1 e with rfl|e
   ·exact k
   ·exact b x e
  ·rw[u];show a.getD i 0+(1000000000:Int)*zd ze (a.drop<|i+1)=((r*1000000000+a.getD i 0)/d+(1000000000:Int)*zd ze q)*d+(r*1000000000+a.getD i 0) % d;rw[c,Int.add_mul,zx,yd];omega
theorem ok:Af A8 192 WW:=by
 refine BR TY<|fun(i:List Int×Int) c=>?_;obtain⟨a,d⟩:=i;have c:(Kg a&&decide (0<d)&&decide (d<1000000000))=true:=c;rw[zi,zi,w5,w5]at c;obtain⟨⟨ha,d0⟩,d1⟩:=c;obtain⟨hl,hda⟩:=O6 ha;refine yq (Aj a d) ?_;conv=>zeta
 rw[zf,wr ((a.length:Int)-1) ae ae];refine zc (by simp;omega) ?_;have:=Ar (Q:=Ad WW (a,d)) a d hda ⟨d0,d1⟩ hl (fun q r ob e hr g=>?_) a.length [] 0 (by simp) (fun x f=>by cases f) ⟨qv _,d0⟩ (by rw[q9];simp[zd])
 ·rw[ql]at this;exact this
 ·refine yv rfl rfl ?_;show(Ay q,r)=(BS<|An a/d,An a % d);obtain⟨u1,u2⟩:=(yp (a:=An a) (b:=d) (r:=r) (q:=An q) d0).2 ⟨by rw[zw d];omega,hr.1,hr.2⟩;rw[FD e,u1,u2]
end T192
theorem wS:CX Nb:=
 Aa T157.ok (Aa T193.ok<|Aa T192.ok<|Aa T159.ok AE)
theorem TB{t x y w:Int}(c:0<=t/\t<1000000000)(d:0<=x/\x<1000000000)(i:0<=y/\y<1000000000)(h:0<=w/\w<=1000000000):
  zg .i64 (zg .i64 (t*x)+w)=t*x+w/\qt (t*x+w) 1000000000=(t*x+w) % 1000000000/\zg .i64 (yt (t*x+w) 1000000000)=(t*x+w)/1000000000/\
  zg .i64 ((t*x+w)/1000000000+1)=(t*x+w)/1000000000+1/\zg .i64 (y-(t*x+w) % 1000000000)=y-(t*x+w) % 1000000000/\(0<=(t*x+w)/1000000000/\(t*x+w)/1000000000<1000000000)/\(0<=(t*x+w) % 1000000000/\(t*x+w) % 1000000000<1000000000):=by
 have h0:0<=t*x:=yb c.1 d.1;have g:t*x<=999999999*999999999:=by
  have a:=zh (show x<=999999999 by omega) c.1;have b:=zk (show t<=999999999 by omega) (show(0:Int)<=999999999 by omega);omega
 generalize t*x=P at*;have e:zg .i64 P=P:=wr _ ae ae;have f:yt (P+w) 1000000000=(P+w)/1000000000:=zu ae;refine⟨?_,z6 ae,?_,wr _ ae ae,wr _ ae ae,by omega,by omega⟩
 ·rw[e];exact wr _ ae ae
 ·rw[f];exact wr _ ae ae
theorem dN(w r:List Int)(i:Nat)(h:i<w.length):(w++r).getD i 0=w.getD i 0:=by
 rw[yk,yk,List.getElem?_append_left h]
namespace T154
theorem gW{lo w z:List Int}{h:Int}{j i:Nat}(a:lo.length=j)(b:i<w.length):(lo++(w++h::z)).getD (i+j) 0=w.getD i 0:=by
 rw[Hk _ _ _ _ a,dN _ _ _ b]
theorem sW{lo w z:List Int}{h:Int}{j i:Nat}(x:Int)(a:lo.length=j)(b:i<w.length):(lo++(w++h::z)).set (i+j) x=lo++(w.set i x++h::z):=by
 rw[Uw _ _ _ _ _ a,List.set_append_left _ _ b]
theorem gH{lo w z:List Int}{h:Int}{j n:Nat}(a:lo.length=j)(b:w.length=n):(lo++(w++h::z)).getD (n+j) 0=h:=by
 rw[Hk _ _ _ _ a];exact D0 _ _ _ _ b
theorem sH{lo w z:List Int}{h:Int}{j n:Nat}(x:Int)(a:lo.length=j)(b:w.length=n):(lo++(w++h::z)).set (n+j) x=lo++(w++x::z):=by
 rw[Uw _ _ _ _ _ a];congr 1;exact DN _ _ _ _ b
theorem Oi(w z:List Int)(h:Int)(a:zd ze z=0):zd ze (w++h::z)=zd ze w+(ze:Int)^w.length*h:=by
 rw[De];show _+_*(h+(ze:Int)*zd ze z)=_;rw[a,y8,qo]
theorem CP(p a e:Nat)(A G v lo z:List Int)(n j:Nat)(t h' X:Int)(P:v.length=n)(E:n<=9000)(l:lo.length=j)(U:j<=9000)(H:n+j<a)(B:j<e)(x:j<A.length)(K:Az ze v)(L:zd ze z=0)(u:Az ze z)(O: -2000000000<=h'/\h'<=2000000000)
  (N:0<=X/\X<(ze:Int)^n) (y:a=j+n+1+z.length)
  (m:∀r:List Int,r.length=n+1+z.length->Az ze r->zd ze r=X->Ends Nb (L2 p v n a e (zg .i64<|(j:Int)-1) (A.set j t) (lo++r) G) Q):
  ∀(k i:Nat) (w:List Int) (c:Int),i+k=n->w.length=n->Az ze w->(0<=c/\c<=1)->zd ze w+(ze:Int)^n*h'=X-zd ze v+zd ze (v.take i)-(ze:Int)^i*c->
   Ends Nb (L5 p v n a e j t c i A (lo++(w++h'::z)) G) Q
 |0,i,w,c,I,q,s,S,J=>by
  have I:i=n:=ae
  subst I;have F:zg .i64 ((j:Int)+(i:Int))=((i+j:Nat):Int):=by rw[wr _ ae ae];omega
  have C:v.take i=v:=zj ae;rw[C]at J;have a1:=AD (b:=ze) af s;have a2:=Bz (b:=ze) af s;rw[q]at a2;have hp:=AU (b:=ze) af i;have D:zd ze w+(ze:Int)^i*(h'+c)=X:=by rw[zx];omega
  have h:h'+c=0:=by
   rcases Int.lt_trichotomy (h'+c) 0 with g|g|g
   ·have:=zh (show h'+c<= -1 by omega)<|zp hp;rw[jk,y7]at this;omega
   ·exact g
   ·have:=zh (show 1<=h'+c by omega)<|zp hp;rw[y7]at this;omega
  have f:i+j<(lo++(w++h'::z)).length:=by simp;omega
  refine zo (EO ..) (zy (by simp) ?_);rw[F,zf,zf,gH l q,sH _ l q,wr (h'+c) ae ae,h];have t1:(decide ((0:Int)<=((i+j:Nat):Int))&&decide (((i+j:Nat):Int)<(a:Int)))=true:=by simp;omega
  refine zc t1 (zc (w4 f)<|zc t1<|zc (w4 f)<|zc (by simp;omega)<|zc (w4 x)<|m _ (by simp;omega) (Fo s<|fun d o=>?_) ?_)
  ·rcases qz.1 o with rfl|o
   ·decide
   ·exact u d o
  ·rw[Oi _ _ _ L,q, <-D,h]
 |k+1,i,w,c,I,q,s,S,J=>by
  have Y:=Hg K i;have V:=Hg s i;have F:zg .i64 ((i:Int)+(j:Int))=((i+j:Nat):Int):=by rw[wr _ ae ae];omega
  have M:=wn (i:=i) ae;have T:zg .i64 (zg .i64 (w.getD i 0+v.getD i 0)+c)=w.getD i 0+v.getD i 0+c:=by
   rw[wr (w.getD i 0+v.getD i 0) ae ae];exact wr _ ae ae
  have R:qt (w.getD i 0+v.getD i 0+c) 1000000000=(w.getD i 0+v.getD i 0+c) % 1000000000:=z6 ae;have D:zg .i64 (yt (w.getD i 0+v.getD i 0+c) 1000000000)=(w.getD i 0+v.getD i 0+c)/1000000000:=by
   rw[zu ae];exact wr _ ae ae
  have f:i+j<(lo++(w++h'::z)).length:=by simp;omega
  refine zo (EO ..) (zc (by simp;omega) ?_);rw[F,M,zf,zf,gW l ae,sW _ l ae,T,R,D];have t1:(decide ((0:Int)<=((i+j:Nat):Int))&&decide (((i+j:Nat):Int)<(a:Int)))=true:=by simp;omega
  refine zc t1 (zc (w4 f)<|zc (by simp;omega)<|zc rfl (zc t1<|zc (w4 f)<|zc rfl ?_));refine CP p a e A G v lo z n j t h' X P E l U H B x K L u O N y m k (i+1) _ _ ae (by simp[q]) (Hw s i<|by show 0<=_/\_<(1000000000:Int);omega) ae ?_;rw[HX _ _ _ _ ae,Kf,AI];have W:(ze:Int)^i*((w.getD i 0+v.getD i 0+c) % 1000000000-w.getD i 0)=(ze:Int)^i*v.getD i 0+(ze:Int)^i*c-(ze:Int)^i*(1000000000*((w.getD i 0+v.getD i 0+c)/1000000000)):=by
   rw[<-zx, <-qf];congr 1;omega
  omega
theorem Cb(g a b:Nat)(m p v lo z:List Int)(n j:Nat)(t h W:Int)(Z:v.length=n)(C:n<=9000)(e:lo.length=j)(hj:j<=9000)(F:n+j<a)(A:j<b)(r:j<m.length)(J:Az ze v)(Y:0<=h/\h<1000000000)(u:a=j+n+1+z.length)(L:0<=t/\t<1000000000)
  (h0:∀(w:List Int) (h':Int),w.length=n->Az ze w->0<=h'->zd ze w+(ze:Int)^n*h'=W-t*zd ze v->Ends Nb (L2 g v n a b (zg .i64<|(j:Int)-1) (m.set j t) (lo++(w++h'::z)) p) Q)
  (K:∀(w:List Int) (h':Int),w.length=n->Az ze w->h'<0-> -2000000000<=h'->zd ze w+(ze:Int)^n*h'=W-t*zd ze v->Ends Nb (L5 g v n a b j (zg .i64<|t-1) 0 0 m (lo++(w++h'::z)) p) Q):
  ∀(k i:Nat) (w:List Int) (c:Int),i+k=n->w.length=n->Az ze w->(0<=c/\c<=1000000000)->zd ze w+(ze:Int)^n*h=W-t*zd ze (v.take i)+(ze:Int)^i*c->
   Ends Nb (L4 g v n a b j t c i m (lo++(w++h::z)) p) Q
 |0,i,w,c,G,l,q,M,H=>by
  have G:i=n:=ae
  subst G;have D:zg .i64 ((j:Int)+(i:Int))=((i+j:Nat):Int):=by rw[wr _ ae ae];omega
  have B:v.take i=v:=zj ae;rw[B]at H;have f:i+j<(lo++(w++h::z)).length:=by simp;omega
  have s:i+j<(lo++(w++(h-c)::z)).length:=by simp;omega
  have I:zd ze w+(ze:Int)^i*(h-c)=W-t*zd ze v:=by rw[qf];omega
  refine zo (Ci ..) (zy (by simp) ?_);rw[D,zf,zf,gH e l,wr (h-c) ae ae,sH _ e l,gH e l];have t1:(decide ((0:Int)<=((i+j:Nat):Int))&&decide (((i+j:Nat):Int)<(a:Int)))=true:=by simp;omega
  refine zc t1<|zc (w4 f)<|zc t1<|zc (w4 f)<|zc t1<|zc (w4 s)<|zr (fun d=>?_)<|fun d=>?_
  ·have d:=w6 d;exact K w (h-c) l q d ae I
  ·have d:=w7 d;exact zc (by simp;omega) (zc (w4 r)<|h0 w (h-c) l q ae I)
 |k+1,i,w,c,G,l,q,M,H=>by
  have V:=Hg J i;have N:=Hg q i;obtain⟨T,m2,S,X,U,m6,m7⟩:=TB L V N M;have D:zg .i64 ((i:Int)+(j:Int))=((i+j:Nat):Int):=by rw[wr _ ae ae];omega
  have R:=wn (i:=i) ae;have f:i+j<(lo++(w++h::z)).length:=by simp;omega
  have t1:(decide ((0:Int)<=((i+j:Nat):Int))&&decide (((i+j:Nat):Int)<(a:Int)))=true:=by simp;omega
  have go:∀(x o:Int),(0<=x/\x<1000000000)->(0<=o/\o<=1000000000)->c+(x-w.getD i 0)=1000000000*o-t*v.getD i 0->Ends Nb (L4 g v n a b j t o ((i+1:Nat):Int) m (lo++(w.set i x++h::z)) p) Q:=by
   intro x o O y E;refine Cb g a b m p v lo z n j t h W Z C e hj F A r J Y u L h0 K k (i+1) _ _ ae (by simp[l]) (Hw q i O) y ?_;rw[HX _ _ _ _ ae,Kf,AI,zx t,ye t];have e6:(ze:Int)^i*c+(ze:Int)^i*(x-w.getD i 0)=(ze:Int)^i*(1000000000*o)-(ze:Int)^i*(t*v.getD i 0):=by
    rw[<-zx, <-qf,E]
   omega
  refine zo (Ci ..) (zc (by simp;omega) ?_);rw[D,R,zf,zf,gW e ae,T,m2,S,X,U,sW _ e ae,sW _ e ae];refine zc (by simp;omega)<|zc t1<|zc (w4 f)<|zc rfl (zc rfl (zr (fun d=>?_)<|fun d=>?_))
  ·have d:=w6 d;rw[wr (w.getD i 0-(t*v.getD i 0+c) % 1000000000+1000000000) ae ae];refine zc t1 (zc (w4 f) (go _ _ ae ae ?_));generalize t*v.getD i 0=P at*;omega
  ·have d:=w7 d;refine zc t1 (zc (w4 f) (go _ _ ae ae ?_));generalize t*v.getD i 0=P at*;omega
theorem tN(i h f:Nat)(u C v lo e:List Int)(n j:Nat)(I:v.length=n)(p:n<=9000)(A:lo.length=j)(M:j<=9000)(hr:n+1<=e.length)(L:h=j+e.length)(m:j<f)(y:j<u.length)(B:Az ze v)(D:Az ze e)(E:zd ze (e.drop<|n+1)=0)
  (l:∀(q:Int) (r:List Int),r.length=e.length->Az ze r->(0<=q/\q<1000000000)->zd ze r<zd ze v->zd ze r=zd ze e-q*zd ze v->Ends Nb (L2 i v n h f (zg .i64<|(j:Int)-1) (u.set j q) (lo++r) C) Q)
  (q:Int) (K:0<=q/\q<1000000000) (P:zd ze e<(q+1)*zd ze v) (U:q*zd ze v<zd ze e+zd ze v):
  Ends Nb (L4 i v n h f j q 0 0 u (lo++e) C) Q:=by
 have k:e=e.take n++e.getD n 0::e.drop (n+1):=by
  rw[<-Cx ae];exact(yw n e).symm
 have gh:=Hg D n;have G:=AS D n;have o:=E9 D<|n+1;have s:(e.take n).length=n:=by rw[zz];omega
 have R:(e.drop<|n+1).length=e.length-(n+1):=zq ..;have hW:zd ze e=zd ze (e.take n)+(ze:Int)^n*e.getD n 0:=by
  conv=>lhs;rw[k]
  rw[Oi _ _ _ E,s]
 have t:=Bz (b:=ze) af B;rw[I]at t;have S:=AD (b:=ze) af B;have T:=AD (b:=ze) af D;have hp:=AU (b:=ze) af n;rw[Int.add_mul,yh]at P;rw[k];refine Cb i h f u C v lo (e.drop<|n+1) n j q (e.getD n 0) (zd ze e) I p A M ae m y B gh ae K (fun w h' a b c d=>?_) (fun w h' a b c W d=>?_) n 0 (e.take n) 0 ae s G af (by rw[<-hW];simp[zd])
 ·have J:=AD (b:=ze) af b;have H:h'=0:=by
   rcases yg 0 h' with g|g
   ·have:=zh (show 1<=h' by omega)<|zp hp;omega
   ·omega
  refine l q _ (by simp;omega) (Fo b<|fun x F=>?_) K ?_ ?_
  ·rcases qz.1 F with rfl|F
   ·rw[H];decide
   ·exact o x F
  ·rw[Oi _ _ _ E,a,d];omega
  ·rw[Oi _ _ _ E,a,d]
 ·have J:=Bz (b:=ze) af b;rw[a]at J;have z:zd ze e-q*zd ze v<0:=by
   have:=zh (show h'<= -1 by omega)<|zp hp;rw[jk,y7]at this;omega
  have N:1<=q:=by
   rcases yg 0 q with g|g
   ·exact g
   ·have:q=0:=ae
    subst this;rw[jo]at z;omega
  rw[wr (q-1) ae ae];refine CP i h f u C v lo (e.drop<|n+1) n j (q-1) h' (zd ze e-q*zd ze v+zd ze v) I p A M ae m y B E o ae ae ae (fun r V b' O=>?_) n 0 w 0 ae a b af (by rw[d];simp[zd]<;>omega);refine l (q-1) r ae b' ae ae ?_;rw[O,Int.sub_mul,yh];omega
theorem Dp(l e i:Nat)(o u v lo h:List Int)(a2 a1 a0:List Int)(k j:Nat)(O:v.length=k+2)(D:k+2<=9000)(z:lo.length=j)(hj:j<=9000)(hr:k+3<=h.length)(s:e=j+h.length)(A:j<i)(H:j<o.length)(w:Az ze v)(y:Az ze h)(M:zd ze (h.drop<|k+3)=0)(F:1<=v.getD (k+1) 0)
  (G:h.getD (k+2) 0<=v.getD (k+1) 0) (P:zd ze h<1000000000*zd ze v)
  (m:∀(q:Int) (r:List Int),r.length=h.length->Az ze r->(0<=q/\q<1000000000)->zd ze r<zd ze v->zd ze r=zd ze h-q*zd ze v->Ends Nb (L2 l v ((k+2:Nat):Int) e i (zg .i64<|(j:Int)-1) (o.set j q) (lo++r) u) Q):
  ∀(f:Nat) (q r:Int),0<=q->q<f->q<=2000000000000000000->(0<=r/\r<1000000000)->q*v.getD (k+1) 0+r=h.getD (k+2) 0*1000000000+h.getD (k+1) 0->zd ze h<(q+1)*zd ze v->
   Ends Nb (L3 l v ((k+2:Nat):Int) e i j a2 a1 a0 e v j ((k+2:Nat):Int) q r o (lo++h) u) Q
 |0,q,r,h0,hf,_,_,_,_=>by omega
 |f+1,q,r,h0,hf,Z,hr1,V,K=>by
  have x:=Hg w k;have gv1:=Hg w<|k+1;have gu2:=Hg y k;have gu1:=Hg y<|k+1;have X:=AU (b:=ze) af k;have hW:=tV ze h k ae M;have W:=vL ze v k O;have U:=AD (b:=ze) af<|AS y k;have p:=Bz (b:=ze) af<|AS y k;have C:=AD (b:=ze) af<|AS w k;have n:=Bz (b:=ze) af<|AS w k;have S:=AD (b:=ze) af w;rw[zz,qc ae]at p n;have exit:∀q R:Int,0<=q->q<1000000000->q*v.getD (k+1) 0+R=h.getD (k+2) 0*1000000000+h.getD (k+1) 0->zd ze h<(q+1)*zd ze v->q*v.getD k 0<=R*1000000000+h.getD k 0->Ends Nb (L4 l v ((k+2:Nat):Int) e i j q 0 0 o (lo++h) u) Q:=by
   intro q R q0 q1 N T J;refine tN l e i o u v lo h (k+2) j O D z hj hr s A H w y M m q ⟨q0,q1⟩ T ?_;rw[hW,W];exact Wp X ⟨C,n⟩ U ⟨q0,q1⟩ F x.1 N J
  have e1:zg .i64 (((k+2:Nat):Int)-2)=(k:Int):=by rw[wr _ ae ae];omega
  have e2:zg .i64 (((k+2:Nat):Int)-1)=((k+1:Nat):Int):=by rw[wr _ ae ae];omega
  have e3:zg .i64 (zg .i64 ((j:Int)+((k+2:Nat):Int))-2)=((k+j:Nat):Int):=by
   rw[wr ((j:Int)+((k+2:Nat):Int)) ae ae,wr _ ae ae];omega
  have g3:(lo++h).getD (k+j) 0=h.getD k 0:=Hk _ _ _ _ z;have Y:(decide ((0:Int)<=((k+1:Nat):Int))&&decide (((k+1:Nat):Int)<(v.length:Int)))=true:=by simp;omega
  have I:zd ze h<q*zd ze v->Ends Nb (.ite (decide (zg .i64 (r+v.getD (k+1) 0)>=(1000000000:Int))) (L4 l v ((k+2:Nat):Int) e i j (zg .i64<|q-1) 0 0 o (lo++h) u)<|L3 l v ((k+2:Nat):Int) e i j a2 a1 a0 e v j ((k+2:Nat):Int) (zg .i64<|q-1) (zg .i64<|r+v.getD (k+1) 0) o (lo++h) u) Q:=by
   intro J;have hW0:=AD (b:=ze) af y;have hq1:1<=q:=by
    rcases yg 0 q with g|g
    ·exact g
    ·have:q=0:=ae
     subst this;rw[jo]at J;omega
   have E:(q-1)*v.getD (k+1) 0+(r+v.getD (k+1) 0)=h.getD (k+2) 0*1000000000+h.getD (k+1) 0:=by rw[Int.sub_mul,yh];omega
   have t:zd ze h<(q-1+1)*zd ze v:=by rw[show q-1+1=q by omega];exact J
   rw[wr (q-1) ae ae,wr (r+v.getD (k+1) 0) ae ae];refine zr (fun c=>?_)<|fun c=>?_
   ·have c:=w6 c;have L:q-1<1000000000:=by
     rcases yg (q-1) 1000000000 with g|g
     ·exact g
     ·have a:=zk g (show 0<=v.getD (k+1) 0 by omega);have b:=zk G (show(0:Int)<=1000000000 by omega);omega
    refine exit (q-1) _ ae L E t ?_;have a:=zh (show v.getD k 0<=999999999 by omega) (show 0<=q-1 by omega);omega
   ·have c:=w7 c;exact Dp l e i o u v lo h a2 a1 a0 k j O D z hj hr s A H w y M F G P m f (q-1) _ ae ae ae ae E t
  refine zo (BA ..) ?_;conv=>zeta
  rw[e1,e2,e3,zf,zf,zf,g3];refine zr (fun c=>zc Y<|I ?_) (fun c=>zc (by simp;omega) (zc (by simp;omega)<|zc (by simp;omega)<|zr (fun d=>zc Y<|I ?_)<|fun d=>?_))
  ·have c:=w6 c;have:=zk c S;omega
  ·have c:=w7 c;have d:=w6 d;have a:=zh (show v.getD k 0<=999999999 by omega) h0;have b:=yb h0 x.1;rw[wr (q*v.getD k 0) ae ae,wr (r*1000000000) ae ae,wr _ ae ae]at d;have:=U0 (B:=ze) (u0:=h.getD (k+2) 0) (u1:=h.getD (k+1) 0) (u2:=h.getD k 0) X C p h0 (v1:=v.getD (k+1) 0) (v2:=v.getD k 0) (r:=r) V d;rw[<-hW, <-W]at this;exact this
  ·have c:=w7 c;have d:=w7 d;have a:=zh (show v.getD k 0<=999999999 by omega) h0;have b:=yb h0 x.1;rw[wr (q*v.getD k 0) ae ae,wr (r*1000000000) ae ae,wr _ ae ae]at d;exact exit q r h0 ae V K ae
end T154
theorem G3{w:List Int}(b:Az ze w)(a:Sp.nz w){k:Nat}(c:w.length=k+1):0<w.getD k 0/\w.getD k 0<1000000000:=by
 have g:=Hg b k;refine⟨?_,g.2⟩;have e:w.getLast?=some (w.getD k 0):=by
  rw[qu,c,yu,yk,qx ae];rfl
 unfold Sp.nz at a;rw[e]at a;have:w.getD k 0≠0:=fun h=>a (by rw[h])
 omega
theorem EN(d:Int):zd ze [d]=d:=by simp[zd]
namespace T154
theorem A2(v:List Int)(k h:Nat)(f:Int)(T:0<f/\f<1000000000)(C:v.length=k+2)(U:h<=9000)(V:k+2<=h)(w:Az ze v)(I:1<=v.getD (k+1) 0)(W0:Int)
  (hq:∀(u a:List Int) ob,Az ze u->Az ze a->zd ze u<zd ze v->W0=zd ze u+zd ze v*zd ze a->Q (.tup [.dat li<|Ay a,.dat li<|BS<|zd ze u/f]) ob):
  ∀(t:Nat) (u a:List Int),t+a.length=h-(k+2)+1->u.length=h+1->Az ze u->Az ze a->zd ze (u.drop t)<zd ze v->W0=zd ze u+zd ze v*((ze:Int)^t*zd ze a)->
   Ends Nb (L2 1 v ((k+2:Nat):Int) (h+1) (h-(k+2)+1) ((t:Int)-1) (zl t 0++a) u [f]) Q
 |0,u,a,hl,hu,x,B,n,N=>by
  have n:zd ze u<zd ze v:=n;have o:=Bz (b:=ze) af w;rw[C]at o;have H:zd ze (u.drop<|k+2)=0:=J0 (b:=ze) af x ae ae;have E:zd ze (u.take<|k+2)=zd ze u:=by
   rw[Cy ze u (k+2) ae,H,y8,qo]
  have ht:(zl 0 0++a).take (h-(k+2)+1)=a:=by
   rw[List.replicate_zero,qn];exact zj ae
  have htr:=Ir<|AS x<|k+2;have hlr:(Ay<|u.take<|k+2).length<=9000:=by
   rw[FD<|AS x<|k+2];refine Nat.le_trans (OB (k:=k+2) (AD af<|AS x<|k+2) ?_) ae;show zd ze (u.take<|k+2)<_;rw[E];omega
  have W:An (Ay<|u.take<|k+2)=zd ze u:=by
   show zd ze (Ay _)=_;rw[JR,E]
  refine zo (AG ..) (zy (by simp) ?_);rw[zf,ht,W];refine zc (by simp;omega) (zc rfl (zc rfl (zc (by simp;omega)<|zc (Ab (Ab (LO ae htr)<|w4 T.1)<|w4 T.2)<|zc (by simp;omega)<|zn<|hq u a _ x B n<|by rw[N,yc,yh])))
 |j+1,u,a,hl,hu,x,B,n,N=>by
  obtain⟨lo,r,rfl,p⟩:∃lo r:List Int,u=lo++r/\lo.length=j:=⟨u.take j,u.drop j,(yw j u).symm,by rw[zz];omega⟩;have G:Az ze lo:=fun d g=>x d<|List.mem_append.2<|.inl g
  have e:Az ze r:=fun d g=>x d<|List.mem_append.2<|.inr g
  have hrl:r.length=h+1-j:=by rw[ym]at hu;omega
  have m:∀z:List Int,(lo++z).drop j=z:=fun z=>by rw[<-p];exact List.drop_left
  have hr0:r=r.getD 0 0::r.drop 1:=by
   have:=Cx (l:=r) (i:=0) ae;rw[List.drop_zero]at this;exact this
  have O:(lo++r).drop (j+1)=r.drop 1:=by rw[Nat.add_comm j 1,Nat.add_comm 1 j, <-List.drop_drop,m]
  rw[O]at n;have g0:=Hg e 0;have P:zd ze r=r.getD 0 0+1000000000*zd ze (r.drop 1):=by
   conv=>lhs;rw[hr0]
   rfl
  have o:=Bz (b:=ze) af w;rw[C]at o;have S:zd ze r<1000000000*zd ze v:=by rw[P];omega
  have H:zd ze (r.drop<|k+3)=0:=by
   refine J0 (b:=ze) af e ae ?_;have ep:(ze:Int)^(k+3)=(ze:Int)^(k+2)*1000000000:=zt ..;rw[ep];omega
  have gu0:=Hg e<|k+2;have gu1:=Hg e<|k+1;have L:=Hg e k;have gv1:=Hg w<|k+1;have Y:=Hg w k;have hP:=AU (b:=ze) af k;have hW:=tV ze r k ae H;have hV:=vL ze v k C;have s:=Bz (b:=ze) af<|AS e k;have M:=AD (b:=ze) af<|AS w k;rw[zz,qc ae]at s;have hle:r.getD (k+2) 0<=v.getD (k+1) 0:=by
   have a1:=Cy ze (r.drop 1) (k+1) (by rw[zq];omega);have a2:(r.drop 1).drop (k+1)=r.getD (k+2) 0::r.drop (k+3):=by
    rw[List.drop_drop,show 1+(k+1)=k+2 by omega];exact Cx ae
   have a3:zd ze (r.getD (k+2) 0::r.drop (k+3))=r.getD (k+2) 0:=by
    show r.getD (k+2) 0+(ze:Int)*zd ze (r.drop<|k+3)=_;rw[H];omega
   rw[a2,a3]at a1;have b1:zd ze v=zd ze (v.take<|k+1)+(ze:Int)^(k+1)*v.getD (k+1) 0:=by
    rw[<-AI,zj ae]
   have K:=Bz (b:=ze) af<|AS w<|k+1;rw[zz,qc ae]at K;have c1:=AD (b:=ze) af<|AS (E9 e 1)<|k+1;have c2:(ze:Int)^(k+1)*r.getD (k+2) 0<(ze:Int)^(k+1)*(v.getD (k+1) 0+1):=by
    rw[zx,y7];omega
   have:=z8 c2 (zp<|AU af<|k+1);omega
  have F:∀(q:Int) (y:List Int),y.length=r.length->Az ze y->(0<=q/\q<1000000000)->zd ze y<zd ze v->zd ze y=zd ze r-q*zd ze v->Ends Nb (L2 1 v ((k+2:Nat):Int) (h+1) (h-(k+2)+1) (zg .i64<|(j:Int)-1) ((zl (j+1) 0++a).set j q) (lo++y) [f]) Q:=by
   intro q y h1 h2 h3 h4 h5;have es:(zl (j+1) (0:Int)++a).set j q=zl j 0++(q::a):=by
    rw[List.replicate_succ',ya];exact DN _ _ _ _ (by simp)
   rw[es,wr ((j:Int)-1) ae ae];refine A2 v k h f T C U V w I W0 hq j (lo++y) (q::a) (by simp;omega) (by simp;omega) (Fo G h2) (fun d g=>?_) (by rw[m];exact h4) ?_
   ·rcases qz.1 g with rfl|g
    ·exact h3
    ·exact B d g
   ·rw[N,De,De,p,h5,Kf];show zd ze lo+(ze:Int)^j*zd ze r+zd ze v*((ze:Int)^j*(1000000000*zd ze a))=zd ze lo+(ze:Int)^j*(zd ze r-q*zd ze v)+zd ze v*((ze:Int)^j*(q+1000000000*zd ze a));have x1:zd ze v*((ze:Int)^j*q)=(ze:Int)^j*(q*zd ze v):=by
     rw[ye,zw (zd ze v) q]
    rw[qf,zx ((ze:Int)^j) q,zx<|zd ze v,x1];omega
  have e0:(((j+1:Nat):Int)-1)=(j:Int):=ae
  have W:zg .i64 ((j:Int)+((k+2:Nat):Int))=((k+2+j:Nat):Int):=by rw[wr _ ae ae];omega
  have e2:zg .i64 (((k+2+j:Nat):Int)-1)=((k+1+j:Nat):Int):=by rw[wr _ ae ae];omega
  have e3:zg .i64 (((k+2:Nat):Int)-1)=((k+1:Nat):Int):=by rw[wr _ ae ae];omega
  have g1:(lo++r).getD (k+2+j) 0=r.getD (k+2) 0:=Hk _ _ _ _ p;have g2:(lo++r).getD (k+1+j) 0=r.getD (k+1) 0:=Hk _ _ _ _ p;have X:(lo++r).length=h+1:=hu;have D:zg .i64 (zg .i64 (r.getD (k+2) 0*1000000000)+r.getD (k+1) 0)=r.getD (k+2) 0*1000000000+r.getD (k+1) 0:=by
   rw[wr (r.getD (k+2) 0*1000000000) ae ae];exact wr _ ae ae
  have c:0<=r.getD (k+2) 0*1000000000+r.getD (k+1) 0:=ae
  have J:0<=(r.getD (k+2) 0*1000000000+r.getD (k+1) 0)/v.getD (k+1) 0:=qk c ae;have hqs:(r.getD (k+2) 0*1000000000+r.getD (k+1) 0)/v.getD (k+1) 0<=r.getD (k+2) 0*1000000000+r.getD (k+1) 0:=Int.ediv_le_self _ c;have A:=yn (r.getD (k+2) 0*1000000000+r.getD (k+1) 0)<|v.getD (k+1) 0;have Z:=yo (r.getD (k+2) 0*1000000000+r.getD (k+1) 0) (show v.getD (k+1) 0≠0 by omega);have R:=yj (r.getD (k+2) 0*1000000000+r.getD (k+1) 0) (show 0<v.getD (k+1) 0 by omega);rw[zw]at A;have et:zg .i64 (yt (r.getD (k+2) 0*1000000000+r.getD (k+1) 0)<|v.getD (k+1) 0)=(r.getD (k+2) 0*1000000000+r.getD (k+1) 0)/v.getD (k+1) 0:=by
   rw[zu c];exact wr _ ae ae
  have em:qt (r.getD (k+2) 0*1000000000+r.getD (k+1) 0) (v.getD (k+1) 0)=(r.getD (k+2) 0*1000000000+r.getD (k+1) 0) % v.getD (k+1) 0:=z6 c;have K:(decide ((0:Int)<=((k+1:Nat):Int))&&decide (((k+1:Nat):Int)<((k+2:Nat):Int)))=true:=by simp;omega
  have bn:decide (v.getD (k+1) 0≠0)=true:=w4 ae;rw[e0];refine zo (AG ..) (zc (by simp) ?_);rw[C,W,e2,e3,zf,zf,zf,g1,g2,D,et,em,X];refine zc (by simp;omega) (zc (w4 ae) (zc (by simp;omega)<|zc (w4 ae)<|zc K<|zc bn<|zc K<|zc bn ?_));refine Dp 1 (h+1) (h-(k+2)+1) _ [f] v lo r _ _ _ k j C ae p ae ae ae ae (by simp;omega) w e H I hle S F (((r.getD (k+2) 0*1000000000+r.getD (k+1) 0)/v.getD (k+1) 0).toNat+1) _ _ J ae ae ⟨Z,by omega⟩ A ?_;rw[hW,hV];exact NH hP af J M Y.1 s L.2 A R
theorem Ar(a v:List Int)(n b:Nat)(f:Int)(j:a.length=b)(d:b<=9000)(i:n<=b)(k:∀u:List Int,u.length=b+1->Az ze u->zd ze u=zd ze a*f->Ends Nb (L2 1 v n (b+1) (b-n+1) (((b-n+1:Nat):Int)-1) (zl (b-n+1) 0) u [f]) Q):
  ∀(m:Nat) (u:List Int),u.length+m=b+1->Az ze u->zd ze u=zd ze a*f->Ends Nb (L1 a 1 v n u.length u [f]) Q
 |0,u,o,g,e=>by
  have h:zg .i64 ((a.length:Int)+1)=((b+1:Nat):Int):=by rw[wr _ ae ae];omega
  have l:zg .i64 ((u.length:Int)-(n:Int))=((b-n+1:Nat):Int):=by rw[wr _ ae ae];omega
  have p:zg .i64 (((b-n+1:Nat):Int)-1)=((b-n+1:Nat):Int)-1:=wr _ ae ae;refine zo (Al ..) ?_;conv=>zeta
  rw[h,l,p,zf];refine zy (by simp;omega) (zc (by simp;omega) ?_);have c:u.length=b+1:=ae
  rw[c];exact k u c g e
 |m+1,u,o,g,e=>by
  have h:zg .i64 ((a.length:Int)+1)=((b+1:Nat):Int):=by rw[wr _ ae ae];omega
  refine zo (Al ..) ?_;conv=>zeta
  rw[h];refine zc (by simp;omega) (zc (by simp;omega) ?_);have:=Ar a v n b f j d i k m (u++[0]) (by simp;omega) (FR g af) (by rw[Cv,y8,qo];exact e);rw[ym]at this;exact this
set_option maxHeartbeats 1000000 in
theorem ok:Af A8 154 SG:=by
 refine BR wS<|fun(i:List Int×List Int) E=>?_;obtain⟨a,b⟩:=i;have E:(Bb a&&Bb b&&decide (a.length<=9000)&&decide (b.length<=9000)&&decide (0<An b))=true:=E;rw[zi,zi,zi,zi,w5,w5,w5]at E;obtain⟨⟨⟨⟨na,nb⟩,la9⟩,lb9⟩,j⟩:=E;obtain⟨_,da,za⟩:=Bu na;obtain⟨_,db,zb⟩:=Bu nb;have j:0<zd ze b:=j;have p:=AD (b:=ze) af da;have V:∀q r ob,q=BS (An a/An b)->r=BS (An a % An b)->Ad SG (a,b) (PV.tup [PV.dat li q,PV.dat li r]) ob:=fun q r ob M G=>yv rfl rfl (Prod.ext M G)
 have m:b≠[]:=by rintro rfl;simp[zd]at j
 have J:b.length≠0:=fun h=>m<|z7.1 h
 refine yq (Aj a b) (zc (by rw[na,nb];rfl)<|zr (fun c=>?_)<|fun c=>?_)
 ·have c:=w6 c;have w:zd ze a<zd ze b:=by
   unfold Ck at c;have c:(if zd ze a<zd ze b then(-1:Int)else if zd ze a>zd ze b then 1 else 0)<0:=c;split at c
   ·assumption
   ·split at c<;>omega
  refine zn<|yv rfl rfl ?_;show([],a)=(BS<|zd ze a/zd ze b,BS<|zd ze a % zd ze b);rw[qh p w,Int.emod_eq_of_lt p w];exact Prod.ext rfl (Jt af da za)
 ·have c:=w7 c;have hge:zd ze b<=zd ze a:=by
   rcases yg (zd ze a) (zd ze b)with g|g
   ·have:Ck (An a) (An b)= -1:=wd g;omega
   ·exact g
  have hll:b.length<=a.length:=by
   rcases Nat.lt_or_ge a.length b.length with g|g
   ·have:=E6 (b:=ze) af da db zb g;omega
   ·exact g
  refine zr (fun s=>?_)<|fun s=>?_
  ·have s:b.length=1:=by
    have:(b.length:Int)=1:=by simpa using s
    omega
   obtain⟨d,rfl⟩:=jf.1 s;have O:0<d/\d<1000000000:=G3 (k:=0) db zb rfl;have m0:=yo (zd ze a) (show d≠0 by omega);have m1:=yj (zd ze a) O.1;refine zc rfl (zc (Ab (Ab (LO ae da)<|w4 O.1)<|w4 O.2)<|zc rfl (zn<|V _ _ _ ?_ ?_))
   ·show BS (zd ze a/d)=BS (zd ze a/zd ze [d]);rw[EN]
   ·show Ay [zd ze a % d]=BS (zd ze a % zd ze [d]);rw[EN,FD<|fun x o=>by rw[qd]at o;subst o;show 0<=_/\_<(1000000000:Int);omega];show BS (zd ze [_])=_;rw[EN]
  ·have s:b.length≠1:=by
    have:(b.length:Int)≠1:=by simpa using s
    omega
   obtain⟨k,D⟩:∃k,b.length=k+2:=⟨b.length-2,by omega⟩;obtain⟨y0,y1⟩:=G3 (k:=k+1) db zb D;have M:zg .i64 (((k+2:Nat):Int)-1)=((k+1:Nat):Int):=by rw[wr _ ae ae];omega
   have G:zg .i64 (b.getD (k+1) 0+1)=b.getD (k+1) 0+1:=wr _ ae ae;have f0:0<1000000000/(b.getD (k+1) 0+1):=by
    have:=Int.le_ediv_of_mul_le (a:=1) (b:=1000000000) (c:=b.getD (k+1) 0+1) ae ae;omega
   have f1:1000000000/(b.getD (k+1) 0+1)<1000000000:=qi ae ae;have f2:1000000000/(b.getD (k+1) 0+1)*(b.getD (k+1) 0+1)<=1000000000:=Int.ediv_mul_le _ ae;have e3:zg .i64 (yt 1000000000<|b.getD (k+1) 0+1)=1000000000/(b.getD (k+1) 0+1):=by
    rw[zu af];exact wr _ ae ae
   rw[D,M,zf,G,e3];generalize 1000000000/(b.getD (k+1) 0+1)=f at*;have H:Az ze [f]:=fun x o=>by rw[qd]at o;subst o;show 0<=_/\_<(1000000000:Int);omega
   have R:An [f]=f:=EN f;rw[R];have L:(ze:Int)^(k+1)<=zd ze b*f:=by
    have a1:=DF (b:=ze) af db zb m;rw[D,show k+2-1=k+1 by omega]at a1;have a2:=zh (show 1<=f by omega)<|zp j;omega
   have I:zd ze b*f<(ze:Int)^(k+2):=by
    have b1:zd ze b=zd ze (b.take<|k+1)+(ze:Int)^(k+1)*b.getD (k+1) 0:=by
     rw[<-AI,zj ae]
    have b2:=Bz (b:=ze) af<|AS db<|k+1;rw[zz,qc ae]at b2;have hp:=AU (b:=ze) af<|k+1;have b3:zd ze b<(ze:Int)^(k+1)*(b.getD (k+1) 0+1):=by
     rw[zx,y7];omega
    have b4:=yx b3 f0;have b5:=zh f2<|zp hp;have b6:(ze:Int)^(k+2)=(ze:Int)^(k+1)*1000000000:=zt ..;rw[yd,zw (b.getD (k+1) 0+1) f]at b4;omega
   have S:0<=zd ze b*f:=yb (zp j) ae;have B:0<=zd ze a*f:=yb p ae;have K:zd ze a*f<(ze:Int)^(a.length+1):=by
    have a1:=Bz (b:=ze) af da;have a2:=yx a1 f0;have a3:=zh (show f<=1000000000 by omega) (zp<|AU (b:=ze) af a.length);have a4:(ze:Int)^(a.length+1)=(ze:Int)^a.length*1000000000:=zt ..;omega
   have vd:=F6 (b:=ze) af<|zd ze b*f;have U:=aO (b:=ze) af<|zd ze b*f;have C:zd ze (Sp.dg ze<|zd ze b*f)=zd ze b*f:=Db af S;have Y:=oF (b:=ze) af vd U (k:=k+1) (by rw[C];exact L) (by rw[C];exact I);have v1:=(G3 vd U Y).1;have ud:=F6 (b:=ze) af<|zd ze a*f;have uv:zd ze (Sp.dg ze<|zd ze a*f)=zd ze a*f:=Db af B;have ul:=OB (k:=a.length+1) B K;have v:Sp.hR [f]=true:=Ss (by simp) H;have bd:decide ((3*(0+(BS<|An a*f).length)+2000)*8<=562949953421312)=true:=w4 (by have:(BS<|An a*f).length<=a.length+1:=ul;omega);refine zc (by simp;omega) (zc (w4 ae)<|zc (by rw[Ss lb9 db,v];rfl)<|zc (by rw[Ss la9 da,v];rfl)<|zc bd ?_);have ez:j0 0 (BS<|An a*f).length=(BS<|An a*f).length:=Nat.zero_add _;have y:(BS<|An b*f).length=k+2:=Y;rw[ez,qn,y];refine Ar a (BS<|An b*f) (k+2) a.length f rfl la9 ae (fun u F t T=>?_) (a.length+1-(BS<|An a*f).length) (BS<|An a*f) (by have:(BS<|An a*f).length<=a.length+1:=ul;omega) ud uv;have A:=AU (b:=ze) af<|a.length-(k+2)+1;have start:zd ze (u.drop<|a.length-(k+2)+1)<zd ze (BS<|An b*f):=by
    have a1:=Cy ze u (a.length-(k+2)+1) ae;have a2:=AD (b:=ze) af<|AS t<|a.length-(k+2)+1;have a3:=Bz (b:=ze) af da;have a4:=yx a3 f0;have a5:(ze:Int)^a.length=(ze:Int)^(a.length-(k+2)+1)*(ze:Int)^(k+1):=by rw[<-ji,show a.length-(k+2)+1+(k+1)=a.length by omega]
    have Z:=DF (b:=ze) af db zb m;rw[D,show k+2-1=k+1 by omega]at Z;have a7:=zk Z (show 0<=f by omega);have a8:=zh a7<|zp A;rw[a5,yd]at a4;show _<zd ze (Sp.dg ze<|zd ze b*f);rw[C];refine z8 (a:=(ze:Int)^(a.length-(k+2)+1)) ?_<|zp A;omega
   have go:=A2 (Q:=Ad SG (a,b)) (BS<|An b*f) k a.length f ⟨f0,f1⟩ y la9 ae vd (by have:0<(BS<|An b*f).getD (k+1) 0:=v1;omega) (zd ze a*f) (fun X n ob z P l W=>by
    have N:zd ze (BS<|An b*f)=zd ze b*f:=C;rw[N]at W l;have e:zd ze X=f*(zd ze a-zd ze n*zd ze b):=by
     have x1:zd ze b*f*zd ze n=f*(zd ze n*zd ze b):=by
      rw[zw (zd ze b) f,yd,zw<|zd ze b]
     rw[x1,zw<|zd ze a]at W;rw[qf];omega
    have h0:=AD (b:=ze) af z;have r0:0<=zd ze a-zd ze n*zd ze b:=by
     rw[e]at h0;exact Int.nonneg_of_mul_nonneg_right h0 f0
    have r1:zd ze a-zd ze n*zd ze b<zd ze b:=by
     rw[e,zw (zd ze b) f]at l;exact z8 l ae
    obtain⟨u1,u2⟩:=(yp (a:=zd ze a) (b:=zd ze b) (r:=zd ze a-zd ze n*zd ze b) (q:=zd ze n) j).2 ⟨by rw[zw<|zd ze b];omega,r0,r1⟩;refine V _ _ ob ?_ ?_
    ·rw[FD P];show BS (zd ze n)=BS (zd ze a/zd ze b);rw[u1]
    ·show BS (zd ze X/f)=BS (zd ze a % zd ze b);rw[u2,e,qy _ ae]) (a.length-(k+2)+1) u [] (by simp) F t (fun x o=>by cases o) start (by rw[T];simp[zd])
   rw[ql]at go;exact go
end T154
theorem uS:CX XG3:=Aa T154.ok AE
namespace T130
theorem Ar(g:Nat)(L:Int)(c:∀n:Nat,(n:Int)<L->Bb (BS (n:Int))=true/\An (BS (n:Int))=n/\(BS (n:Int)).length<=9000)(d:∀ob,Q (.dat li<|BS (g:Int)) ob):∀(f x y:Nat),y<f->jz x y=g->(x:Int)<L->(y:Int)<L->
  Ends XG3 (L1 (BS (x:Int))<|BS (y:Int)) Q
 |0,x,y,h,_,_,_=>by omega
 |f+1,x,y,l,b,j,a=>by
  obtain⟨nx,k,e⟩:=c x j;obtain⟨ny,vy,ly⟩:=c y a
  refine zo (Al ..) ?_;conv=>zeta
  by_cases h0:y=0
  ·subst h0;rw[Nat.gcd_zero_right]at b;subst b;exact zy rfl (zn<|d _)
  ·have i:x % y<y:=Nat.mod_lt _ ae;have m:(BS (y:Int)).length≠0:=by
    intro h;have:=z7.1 h;rw[this]at vy;simp[An,zd]at vy;omega
   rw[k,vy,WI];refine zc (by simp;omega) (zc (Ab (Ab (Ab (Ab nx ny)<|w4 e)<|w4 ly)<|w4 ae) ?_);exact Ar g L c d f y (x % y) ae (by rw[jg, <-Nat.gcd_rec,jg];exact b) a ae
theorem VI{a:List Int}(h:Bb a=true):a=BS (An a)/\0<=An a:=by
 obtain⟨_,d,z⟩:=Bu h;exact⟨Jt af d z,AD af d⟩
theorem Xq(n:Nat)(h:(n:Int)<(ze:Int)^9000):Bb (BS (n:Int))=true/\An (BS (n:Int))=n/\(BS (n:Int)).length<=9000:=by
 obtain⟨a,_,b,c⟩:=F9 (n:=(n:Int)) (k:=9000) (Int.natCast_nonneg n) h af;exact⟨a,b,c⟩
theorem ok:Af A8 130 Me:=by
 refine BR uS<|fun(i:List Int×List Int) c=>?_;obtain⟨a,b⟩:=i;have c:(Bb a&&Bb b&&decide (a.length<=9000)&&decide (b.length<=9000))=true:=c;rw[zi,zi,zi,w5,w5]at c;obtain⟨⟨⟨na,nb⟩,la9⟩,lb9⟩:=c;obtain⟨ea,a0⟩:=VI na;obtain⟨eb,b0⟩:=VI nb;have h:An a<(ze:Int)^9000:=qe (Bz (b:=ze) af (Bu na).2.1) (AQ af la9);have g:An b<(ze:Int)^9000:=qe (Bz (b:=ze) af (Bu nb).2.1) (AQ af lb9);have key:∀(x y:Nat),An a=x->An b=y->Ends XG3 (L1 a b) (Ad Me (a,b)):=by
  intro x y f d;rw[ea,eb,f,d];rw[f]at h;rw[d]at g;refine Ar (jz x y) _ Xq (fun ob=>yv rfl rfl ?_) (y+1) x y (Nat.lt_succ_self _) rfl h g;have e:Sp.gI (An<|BS (x:Int)) (An<|BS (y:Int))=((jz x y:Nat):Int):=by
   rw[(Xq x h).2.1,(Xq y g).2.1,Gx];rfl
  exact wi BS e.symm
 obtain⟨x,f⟩:=qg a0;obtain⟨y,d⟩:=qg b0;exact yq (Aj a b)<|key x y f d
end T130
theorem vX:CX bR:=
 Aa (Hr ag<|Bd ag) (Aa (Hr ag<|Bd ag)<|Aa (Hr ag<|Bd ag)<|Aa (Hr ag<|Bd ag) AE)
theorem Fh:CX OJ:=fun g sp h=>by cases h
namespace T201
theorem Ad6:∀i:Fin 10,(DJ.getD i.1 0).toNat<128:=af
theorem Fi(s:Z)(i:Nat)(o:List Bool)(b:i<10)(d:o.length=256)(h:Ends bR (L2 s DJ DJ ((i+1:Nat):Int)<|o.set (DJ.getD i 0).toNat true) Q):Ends bR (L2 s DJ DJ (i:Int) o) Q:=by
 have c:DJ.length=10:=rfl;have a:=Ad6 ⟨i,b⟩;have a:(DJ.getD i 0).toNat<128:=a;have e:=wn (i:=i) ae;refine zo (AG ..) ?_;conv=>zeta
 rw[c,e,zf,zf];exact zc (w4 ae) (zc (ad ae ae) (zy (w8 ae) (zc (Ab (w4<|show(0:Int)<=((DJ.getD i 0).toNat:Int)by omega)<|w4 ae)<|zc (w4 ae) h)))
def Tb(o:List Bool):Prop:=o.length=256/\∀c:UInt8,o.getD c.toNat false=B4 c
theorem CG(s t v0:Z)(v4:Int)(i:List Bool)(f:Z)(o1 b:List Bool)(h p0:List Bool)(g:Tb h):∀(w:Z),(∀ob,Q (.dat .str<|w.dropWhile B4) ob)->Ends bR (L7 s t v0 v4 i f o1 b w h p0) Q
 |[],a=>zo (D5 ..) (zy (by simp)<|zn<|a _)
 |c::r,a=>by
  have k:c.toNat<256:=c.toNat_lt;have j:(c::r).getD 0 0=c:=rfl;have e:(jt 1 (c::r)).take (qp (c::r).length 1)=r:=by show r.take ((r.length+1)-1)=r;rw[yu];exact yi
  refine zo (D5 ..) ?_;conv=>zeta
  rw[j,zf,g.2,g.1,e];refine zc (by simp) (zc (by simp)<|zc (Ab (w4<|show(0:Int)<=(c.toNat:Int)by omega)<|w4 ae) (zc (w4 k)<|zr (fun d=>?_)<|fun d=>zc (by simp) ?_))
  ·have d:B4 c=false:=by simpa using d
   rw[yr,wc<|by rw[d];decide]at a;exact zn<|a _
  ·have d:B4 c=true:=by simpa using d
   rw[yr,wd d]at a;exact CG s t v0 v4 i f o1 b h p0 g r a
theorem Cb(s t v0:Z)(v4:Int)(h:List Bool)(o1 a:List Bool)(g:Tb o1):∀(n:Nat) (w:Z),w.length=n->n<=1000000->(∀ob,Q (.dat .str<|((w.reverse.dropWhile B4).reverse).dropWhile B4) ob)->Ends bR (L4 s t v0 v4 h w o1 a) Q
 |0,w,e,_,b=>by
  have:w=[]:=z7.1 e;subst this;exact zo (Ci ..) (zy (by simp)<|zo (Ho ..)<|zy (by simp)<|zn<|b _)
 |n+1,w,e,l,b=>by
  obtain⟨p,c,rfl⟩:∃p c,w=p++[c]:=by
   have f:w≠[]:=by rintro rfl;simp at e
   exact⟨w.dropLast,w.getLast f,(qm f).symm⟩
  have hp:p.length=n:=by simpa using e
  have k:c.toNat<256:=c.toNat_lt;have i:zg .i64 (((p++[c]).length:Int)-1)=(n:Int):=by rw[e,wr _ ae ae];omega
  have j:(p++[c]).getD n 0=c:=D0 _ _ _ _ hp;have t1:(p++[c]).take n=p:=by rw[<-hp];exact jj
  have hr:(p++[c]).reverse=c::p.reverse:=by simp
  rw[hr,yr]at b;refine zo (Ci ..) (zc (w4 ae) ?_);rw[i,zf,j,t1,zf,g.2,g.1,e];refine zc (by simp;omega) (zc (Ab (w4<|show(0:Int)<=(c.toNat:Int)by omega)<|w4 ae) (zc (w4 k)<|zr (fun d=>?_)<|fun d=>zc (by simp) ?_))
  ·have d:B4 c=false:=by simpa using d
   rw[wc (by rw[d];decide),List.reverse_cons,List.reverse_reverse]at b;exact CG s t v0 v4 h _ o1 a o1 a g (p++[c]) b
  ·have d:B4 c=true:=by simpa using d
   rw[wd d]at b;exact Cb s t v0 v4 h o1 a g n p hp ae b
theorem Ady{o:List Bool}(a:o.length=256)(b:∀c:Fin 256,o.getD c.1 false=(Nat.ble 48 c.1&&Nat.ble c.1 57)):Tb o:=by
 refine⟨a,fun c=>?_⟩;have:=b ⟨c.toNat,c.toNat_lt⟩;rw[show o.getD c.toNat false=_ from this];unfold B4;rw[Bool.eq_iff_iff];simp[Nat.ble_eq]
theorem ok:Af A8 201 YE:=by
 refine BR vX<|fun(i:Z×Z) a=>?_;obtain⟨s,t⟩:=i;have a:(decide (t=DJ)&&decide (s.length<=1000000))=true:=a;rw[zi,w5,w5]at a;obtain⟨rfl,hl⟩:=a;have b:∀ob,Ad YE (s,DJ) (.dat .str<|((s.reverse.dropWhile B4).reverse).dropWhile B4) ob:=fun ob=>yv rfl rfl rfl
 refine yq (Aj s DJ) (zr (fun c=>?_)<|fun c=>zy af<|zy af ?_)
 ·have c:s=[]:=by simpa using c
  subst c;exact zn<|b _
 ·refine Fi s 0 _ af rfl (Fi s 1 _ af rfl (Fi s 2 _ af rfl (Fi s 3 _ af rfl (Fi s 4 _ af rfl (Fi s 5 _ af rfl (Fi s 6 _ af rfl (Fi s 7 _ af rfl (Fi s 8 _ af rfl (Fi s 9 _ af rfl ?_)))))))));refine zo (AG ..) (zy af<|zc (by decide+kernel) (zc (by decide+kernel)<|zc (by decide+kernel)<|zc rfl (Cb s _ _ _ _ _ _ (Ady rfl ?_) s.length s rfl hl b)));decide+kernel
end T201
theorem yE:CX XH1:=Aa T201.ok AE
theorem dropWhile_nil{p:UInt8->Bool}:∀ {l:Z},l.dropWhile p=[]↔l.all p=true
 |[]=>by simp
 |a::l=>by
  rw[yr,List.all_cons];cases h:p a with
  |true=>simp only[wk,qj];exact dropWhile_nil
  |false=>simp
theorem I8{p:UInt8->Bool}:∀ {l:Z} {a:UInt8} {r:Z},l.dropWhile p=a::r->p a=false
 |[],a,r,h=>by simp at h
 |b::l,a,r,h=>by
  rw[yr]at h;cases c:p b with
  |true=>rw[c,wd rfl]at h;exact I8 h
  |false=>
   rw[c]at h;simp at h;rw[<-h.1];exact c
theorem MF(s:Z):Qz s=[]↔Aq s=true:=by
 unfold Qz Aq;rw[dropWhile_nil,je];constructor
 ·intro h;cases b:s.reverse.dropWhile B4 with
  |nil=>have:=dropWhile_nil.1 b;rwa [je]at this
  |cons a r=>
   rw[b,List.all_cons,I8 b]at h;cases h
 ·intro h;have:s.reverse.dropWhile B4=[]:=dropWhile_nil.2 (by rwa [je]);rw[this];rfl
theorem T167.ok:Af A8 167 YF:=by
 refine BR yE<|fun(s:Z) f=>?_;have f:s.length<=1000000:=w6 f;have a:∀v b ob,v=.bl b\/v=.dat .bool b->b=AX s->Ad YF s v ob:=by
  rintro v b ob (rfl|rfl) g
  ·exact yv rfl rfl g
  ·exact yv rfl rfl g
 refine yq (T167.Aj s)<|zr (fun c=>zc ?_<|zr (fun d=>zc ?_<|zr (fun e=>zn<|a _ _ _ (.inl rfl) ?_)<|fun e=>zn<|a _ _ _ (.inr rfl) ?_)<|fun d=>zn<|a _ _ _ (.inl rfl) ?_)<|fun c=>zn<|a _ _ _ (.inl rfl) ?_
 ·exact Ab (w4 rfl)<|w4 f
 ·have c:s≠[]:=by simpa using c
  have:s.length≠0:=fun h=>c<|z7.1 h
  exact w4 ae
 ·have c:s≠[]:=by simpa using c
  have d:Qz s=[]:=by simpa using d
  have d:=(MF s).1 d;have e:s.getD 0 0≠48:=by
   intro h;rw[h]at e;exact wh e af
  unfold AX;rw[d,w4 c,w4 e];rfl
 ·have c:s≠[]:=by simpa using c
  have d:Qz s=[]:=by simpa using d
  have d:=(MF s).1 d;have e:s.getD 0 0=48:=by
   have:((s.getD 0 0).toNat:Int)=48:=by simpa using e
   exact UInt8.toNat_inj.1 (by show _=48;omega)
  unfold AX;rw[d,w4 c,w8<|by rw[e];exact fun h=>h rfl];show(s==[48])=decide (s=[48]);rw[Bool.eq_iff_iff];simp
 ·have d:¬Qz s=[]:=by simpa using d
  have d:Aq s=false:=by
   cases h:Aq s with
   |true=>exact wh ((MF s).2 h) d
   |false=>rfl
  unfold AX;rw[d];simp
 ·have c:s=[]:=by simpa using c
  subst c;rfl
theorem T166.ok:Af A8 166 Aaa:=by
 refine BR Fh<|fun(i:Z×Z) b=>?_;obtain⟨s,t⟩:=i;have b:(decide (t=[45])&&decide (s.length<=1000000))=true:=b;rw[zi,w5,w5]at b;obtain⟨rfl,hl⟩:=b;have a:s.getD 0 0≠45->(s,false)=(A9 s,Sp.preB s):=fun h=>by
  unfold A9 Sp.preB;rw[wc h,w8 h]
 refine yq (T166.Aj s [45]) ?_;conv=>zeta
 cases s with
 |nil=>exact zy af (zn<|yv rfl rfl (a af))
 |cons c r=>
  have f:(c::r).take 1=[c]:=rfl;refine zc (by simp;omega) (zc (by simp) ?_);show Ends OJ (.ite (!List.take 1 (c::r)==[45]) _ _) _;rw[f];refine zr (fun d=>zn<|yv rfl rfl (a ?_)) (fun d=>zc (by simp)<|zn<|yv rfl rfl ?_)
  ·show c≠45;rintro rfl;exact wh d af
  ·have d:c=45:=by simpa using d
   subst d;show(((jt 1 ((45:UInt8)::r)).take<|qp ((45:UInt8)::r).length 1),true)=(A9 (45::r),Sp.preB (45::r));have e:(jt 1 ((45:UInt8)::r)).take (qp ((45:UInt8)::r).length 1)=r:=by show r.take ((r.length+1)-1)=r;rw[yu];exact yi
   rw[e];rfl
theorem Aca{F:Fz}{s:Z}{c:Int}{args:List V}(h:M0 F (Ae [Sh.str,Sh.int .u8] (s,c)) args):args=[.str s,.int .u8 c]:=by
 have:=h (fun _=>none) 0;simp only[Ae,Cp,Bi]at this;obtain⟨a,g,rfl,e,b,f,rfl,d,rfl⟩:=this;simp only[PR,DC,List.cons.injEq,ve]at e d;rw[e,d]
theorem T265.ok:Af A8 265 zI:=by
 refine .inr ⟨PK.indexByte.run,by kernel_rfl,fun F h args i a hp=>?_⟩;obtain⟨s,c⟩:=i;have:=Aca a;subst this;refine⟨UX<|s.findIdx? fun x=>x==c.toNat.toUInt8,rfl,fun ρ N=>?_⟩;show PR F ρ N (.dat i64<|PU s c) _;unfold PU;cases s.findIdx? fun x=>x==c.toNat.toUInt8 with
 |none=>simp[PR,DC,UX]
 |some i=>simp[PR,DC,UX,Det.i64]
theorem uZ:CX XH2:=Aa T265.ok AE
theorem Xf{p:UInt8->Bool}{s:Z}{i:Nat}(h:s.findIdx? p=some i):i<s.length:=(List.findIdx?_eq_some_iff_getElem.1 h).1
theorem T124.ok:Af A8 124 gU:=by
 refine BR uZ<|fun(i:Z×Z) e=>?_;obtain⟨s,t⟩:=i;have e:(decide (t=[47])&&decide (s.length<=1000000))=true:=e;rw[zi,w5,w5]at e;obtain⟨rfl,hl⟩:=e;have b:s.any (fun x=>x==47)=(s.findIdx? fun x=>x==47).isSome:=by
  rw[List.findIdx?_isSome]
 refine yq (T124.Aj s [47]) (zy af (zr (fun c=>?_)<|fun c=>zc af (zc af<|zc af ?_)))
 ·have c:s=[47]:=by
   have:[47]=s:=by simpa using c
   exact this.symm
  subst c;exact zc rfl (zc rfl (zc rfl (zn<|yv rfl rfl rfl)))
 ·have a:PU s (((([47]:Z).getD 0 0).toNat:Nat):Int)=match s.findIdx? (fun x=>x==47)with
   |some i=>(i:Int)
   |none=> -1:=rfl
  cases d:s.findIdx? (fun x=>x==47)with
  |none=>
   rw[d]at a;have a:PU s (((([47]:Z).getD 0 0).toNat:Nat):Int)= -1:=a;rw[a];refine zy af<|zn<|yv rfl rfl ?_;show(s,[],false)=(AB s,Sp.AV s,Bs s);unfold AB Sp.AV Bs;rw[b,d];rfl
  |some k=>
   rw[d]at a;have a:PU s (((([47]:Z).getD 0 0).toNat:Nat):Int)=(k:Int):=a;have h:=Xf d;have g:zg .i64 ((k:Int)+(([47]:Z).length:Int))=((k+1:Nat):Int):=by
    show zg .i64 ((k:Int)+1)=_;rw[wr _ ae ae];omega
   rw[a,g,zf,zf];refine zc (by simp) (zc (by simp;omega)<|zc (by simp;omega)<|zn<|yv rfl rfl ?_);show(s.take k,(s.drop<|k+1).take<|qp s.length<|k+1,true)=(AB s,Sp.AV s,Bs s);unfold AB Sp.AV Bs;have f:(s.drop<|k+1).take (qp s.length<|k+1)=s.drop (k+1):=zj (by rw[zq];exact qw _);rw[b,d,f];rfl
namespace T152
theorem Ar{Q:PV->Ob->Prop}(s:Z)(a:Aq s=true)(n:s.length<=18)(e:∀ob,Q (.dat i64<|AF 0 s) ob):∀(r:Z) (i:Nat),s.drop i=r->i<=s.length->Ends qV (L1 s (AF 0<|s.take i) i) Q
 |[],i,h,g=>by
  have k:i=s.length:=drop_nil h g;subst k;rw[yi];exact zo (Al ..) (zy (by simp)<|zn<|e _)
 |c::r,i,h,g=>by
  obtain⟨p,j,w⟩:=drop_cons (d:=0) h;have o:=Bl<|Bj a i;have b:(s.take i).length=i:=by rw[zz];omega
  rw[b]at o;have hp:(10:Int)^i<=10^17:=AQ af ae;have u:B4 c=true:=by
   unfold Aq at a;rw[jc]at a;exact a c<|QA h
  have q:=Dg u;have t:48<=c.toNat/\c.toNat<=57:=by unfold H6 at q;omega
  have m:zg .i64 (c.toNat:Int)=(c.toNat:Int):=wr _ ae ae;have f:(10:Int)^17=100000000000000000:=af
  have l:zg .i64 (zg .i64 (zg .i64 (10*AF 0 (s.take i))+(c.toNat:Int))-48)=AF 0 (s.take<|i+1):=by
   rw[MV h,C6];show _=10*AF 0 (s.take i)+((c.toNat:Int)-48);generalize AF 0 (s.take i)=D at*;rw[wr (10*D) ae ae,wr (10*D+(c.toNat:Int)) ae ae,wr _ ae ae];omega
  have v:=wn (i:=i) ae;refine zo (Al ..) (zc (by simp;omega) ?_);rw[zf,j,m,l,v];exact zc (by simp;omega)<|Ar s a n e r (i+1) w p
theorem ok:Af A8 152 T2:=by
 refine BR UC<|fun(s:Z) a=>?_;have a:(decide (s.length<=18)&&Aq s)=true:=a;rw[zi,w5]at a;exact yq (Aj s)<|Ar s a.2 a.1 (fun ob=>yv rfl rfl rfl) s 0 rfl (Nat.zero_le _)
end T152
theorem sI:CX fH:=Aa T152.ok<|Aa T155.ok AE
theorem MU{neg:Bool}{w:List Int}{D:Int}(c:Az ze w)(d:zd ze w=D):(CM neg w,Ay w)=(Sp.rN<|if neg=true then -D else D,Sp.rW<|if neg=true then -D else D):=by
 have h0:=AD (b:=ze) af c;rw[d]at h0;have e:Ay w=BS D:=by rw[FD c];show BS (zd ze w)=_;rw[d]
 have a:BS D=[]↔D=0:=oD af h0;have f:Ah (if neg=true then -D else D)=D:=by rw[Ak];split<;>omega
 unfold CM Sp.rW Sp.rN;rw[f,e];congr 1;cases neg with
 |false=>simp;omega
 |true=>
  simp only[wk,qj,wm,a,decide_eq_decide];omega
namespace T149
theorem Adq:(10:Int)^9=1000000000:=af
theorem J3{s:Z}{m:Nat}(a:m+9=s.length):AF 0 s=AF 0 (s.take m)*1000000000+AF 0 (s.drop m):=by
 conv=>lhs;rw[<-yw m s]
 rw[C6,E7<|s.drop m,zq,show s.length-m=9 by omega,Adq]
theorem CN{s:Z}(b:Aq s=true)(h:s.length<=9):0<=AF 0 s/\AF 0 s<1000000000:=by
 have:=Bl b;have a:(10:Int)^s.length<=10^9:=AQ af h;rw[Adq]at a;omega
theorem Cg{s:Z}(a:Aq s=true)(h:s.length<=18):El s=true:=by
 unfold El;rw[a,Bool.and_true];exact w4 h
theorem Dp(neg:Bool)(D:Int)(h:∀(w:List Int) ob,Az ze w->zd ze w=D->Q (.agg [.dat .bool<|CM neg w,.dat li<|Ay w]) ob):∀(f:Nat) (s:Z) (o1:List Int),s.length<=f->Aq s=true->o1.length+s.length<=6000->Az ze o1->zd ze o1+(ze:Int)^o1.length*AF 0 s=D->Ends fH (L3 s neg o1.length o1) Q:=by
 intro f;induction f with
 |zero=>
  intro s o1 n a k d c;have e:s.length<=9:=ae
  have b:=CN a e;have g:(o1++[B2 s]).take (j0 o1.length 1)=o1++[B2 s]:=zj (by simp);refine zo (BA ..) (zy (by simp;omega) (zc (Cg a ae)<|zc (by simp;omega) ?_));rw[g];refine zc (by simp;omega)<|zn<|h _ _ (FR d b) ?_;rw[Cv];exact c
 |succ f o=>
  intro s o1 n a k d c;by_cases e:s.length<=9
  ·have b:=CN a e;have g:(o1++[B2 s]).take (j0 o1.length 1)=o1++[B2 s]:=zj (by simp);refine zo (BA ..) (zy (by simp;omega) (zc (Cg a ae)<|zc (by simp;omega) ?_));rw[g];refine zc (by simp;omega)<|zn<|h _ _ (FR d b) ?_;rw[Cv];exact c
  ·obtain⟨m,l⟩:∃m,m+9=s.length:=⟨s.length-9,by omega⟩;have j:zg .i64 ((s.length:Int)-9)=(m:Int):=by rw[wr _ ae ae];omega
   have i:(s.drop m).take (qp s.length m)=s.drop m:=zj (by rw[zq];exact qw _);have b:=CN (Ca a m) (by rw[zq];omega);refine zo (BA ..) (zc (by simp;omega) ?_);rw[j,zf,i];refine zc (by simp;omega) (zc (Cg (Ca a m)<|by rw[zq];omega) (zc (by simp;omega)<|zc (by simp;omega) ?_));have:=o (s.take m) (o1++[B2<|s.drop m]) (by rw[zz];omega) (Bj a m) (by simp;omega) (FR d b) (by
    rw[Cv,ym];show zd ze o1+(ze:Int)^o1.length*AF 0 (s.drop m)+(ze:Int)^(o1.length+1)*AF 0 (s.take m)=D;rw[Kf,y9, <-zx, <-c,J3 l];congr 2;omega)
   rw[ym]at this;exact this
theorem Cb(D:Int)(h:∀(w:List Int) ob,Az ze w->zd ze w=D->Q (.agg [.dat .bool<|CM false w,.dat li<|Ay w]) ob):∀(f:Nat) (s:Z) (o1:List Int),s.length<=f->Aq s=true->o1.length+s.length<=6000->Az ze o1->zd ze o1+(ze:Int)^o1.length*AF 0 s=D->Ends fH (L4 s o1.length o1) Q:=by
 intro f;induction f with
 |zero=>
  intro s o1 n a k d c;have e:s.length<=9:=ae
  have b:=CN a e;have g:(o1++[B2 s]).take (j0 o1.length 1)=o1++[B2 s]:=zj (by simp);refine zo (Ci ..) (zy (by simp;omega)<|zc (Cg a ae) (zc (by simp;omega) ?_));rw[g];refine zc (by simp;omega)<|zn<|h _ _ (FR d b) ?_;rw[Cv];exact c
 |succ f o=>
  intro s o1 n a k d c;by_cases e:s.length<=9
  ·have b:=CN a e;have g:(o1++[B2 s]).take (j0 o1.length 1)=o1++[B2 s]:=zj (by simp);refine zo (Ci ..) (zy (by simp;omega)<|zc (Cg a ae) (zc (by simp;omega) ?_));rw[g];refine zc (by simp;omega)<|zn<|h _ _ (FR d b) ?_;rw[Cv];exact c
  ·obtain⟨m,l⟩:∃m,m+9=s.length:=⟨s.length-9,by omega⟩;have j:zg .i64 ((s.length:Int)-9)=(m:Int):=by rw[wr _ ae ae];omega
   have i:(s.drop m).take (qp s.length m)=s.drop m:=zj (by rw[zq];exact qw _);have b:=CN (Ca a m) (by rw[zq];omega);refine zo (Ci ..) (zc (by simp;omega) ?_);rw[j,zf,i];refine zc (by simp;omega) (zc (Cg (Ca a m)<|by rw[zq];omega) (zc (by simp;omega)<|zc (by simp;omega) ?_));have:=o (s.take m) (o1++[B2<|s.drop m]) (by rw[zz];omega) (Bj a m) (by simp;omega) (FR d b) (by
    rw[Cv,ym];show zd ze o1+(ze:Int)^o1.length*AF 0 (s.drop m)+(ze:Int)^(o1.length+1)*AF 0 (s.take m)=D;rw[Kf,y9, <-zx, <-c,J3 l];congr 2;omega)
   rw[ym]at this;exact this
theorem Ar(neg:Bool)(s:Z)(a:Aq s=true)(i:s.length<=5999)(d:∀(w:List Int) ob,Az ze w->zd ze w=AF 0 s->Q (.agg [.dat .bool<|CM neg w,.dat li<|Ay w]) ob):Ends fH (L1 s neg) Q:=by
 by_cases g:s.length<=9
 ·have b:=CN a g;refine zo (Al ..) (zy (by simp;omega)<|zc (Cg a ae) (zc rfl (zc rfl (zn<|d _ _ (FR (l:=[]) (fun x c=>by cases c) b) ?_))));show zd ze [AF 0 s]=_;exact EN _
 ·obtain⟨m,e⟩:∃m,m+9=s.length:=⟨s.length-9,by omega⟩;have h:zg .i64 ((s.length:Int)-9)=(m:Int):=by rw[wr _ ae ae];omega
  have f:(s.drop m).take (qp s.length m)=s.drop m:=zj (by rw[zq];exact qw _);have b:=CN (Ca a m) (by rw[zq];omega);refine zo (Al ..) (zc (by simp;omega) ?_);rw[h,zf,f];refine zc (by simp;omega) (zc (Cg (Ca a m)<|by rw[zq];omega)<|zc rfl (zc (by simp;omega) ?_));refine Dp neg (AF 0 s) d m (s.take m) [B2<|s.drop m] (by rw[zz];omega) (Bj a m) (by simp;omega) (FR (l:=[]) (fun x c=>by cases c) b) ?_;rw[EN,J3 e];show AF 0 (s.drop m)+(ze:Int)^1*_=_;rw[zt,yc,yh,zw];exact jm _ _
theorem A2(s:Z)(a:Aq s=true)(i:s.length<=5999)(d:∀(w:List Int) ob,Az ze w->zd ze w=AF 0 s->Q (.agg [.dat .bool<|CM false w,.dat li<|Ay w]) ob):Ends fH (L2 s) Q:=by
 by_cases g:s.length<=9
 ·have b:=CN a g;refine zo (AG ..) (zy (by simp;omega)<|zc (Cg a ae) (zc rfl (zc rfl (zn<|d _ _ (FR (l:=[]) (fun x c=>by cases c) b) ?_))));show zd ze [AF 0 s]=_;exact EN _
 ·obtain⟨m,e⟩:∃m,m+9=s.length:=⟨s.length-9,by omega⟩;have h:zg .i64 ((s.length:Int)-9)=(m:Int):=by rw[wr _ ae ae];omega
  have f:(s.drop m).take (qp s.length m)=s.drop m:=zj (by rw[zq];exact qw _);have b:=CN (Ca a m) (by rw[zq];omega);refine zo (AG ..) (zc (by simp;omega) ?_);rw[h,zf,f];refine zc (by simp;omega) (zc (Cg (Ca a m)<|by rw[zq];omega) (zc rfl (zc (by simp;omega) ?_)));refine Cb (AF 0 s) d m (s.take m) [B2<|s.drop m] (by rw[zz];omega) (Bj a m) (by simp;omega) (FR (l:=[]) (fun x c=>by cases c) b) ?_;rw[EN,J3 e];show AF 0 (s.drop m)+(ze:Int)^1*_=_;rw[zt,yc,yh,zw];exact jm _ _
theorem ok:Af A8 149 OA:=by
 refine BR sI<|fun(s:Z) a=>?_;have a:(decide (s.length<=5999)&&(if s.getD 0 0=45 then Aq (s.drop 1)else Aq s))=true:=a;rw[zi,w5]at a;obtain⟨g,a⟩:=a;have fin:∀(neg:Bool) (D:Int),BO s=(if neg=true then -D else D)->∀(w:List Int) ob,Az ze w->zd ze w=D->Ad OA s (.agg [.dat .bool<|CM neg w,.dat li<|Ay w]) ob:=by
  intro neg D hr w ob h i;refine yv rfl rfl ?_;show(CM neg w,Ay w)=(Sp.rN<|BO s,Sp.rW<|BO s);rw[hr];exact MU h i
 refine yq (Aj s) ?_;conv=>zeta
 cases s with
 |nil=>exact zy af (A2 [] rfl af (fin false 0 rfl))
 |cons c r=>
  have f:(c::r).getD 0 0=c:=rfl;rw[f]at a;rw[f];refine zc (by simp) (zc (by simp)<|zr (fun d=>?_)<|fun d=>?_)
  ·have b:c=45:=by
    have:(c.toNat:Int)=45:=by simpa using d
    exact UInt8.toNat_inj.1 (by show _=45;omega)
   rw[wd b]at a;have e:(jt 1 (c::r)).take (qp (c::r).length 1)=r:=by show r.take ((r.length+1)-1)=r;rw[yu];exact yi
   rw[d,e];refine zc (by simp) (Ar true r a (by simp at g;omega)<|fin true _ ?_);unfold BO;rw[f,wd b,wd rfl];rfl
  ·have b:c≠45:=by
    rintro rfl;exact wh d af
   rw[wc b]at a;rw[d];refine Ar false (c::r) a g<|fin false _ ?_;unfold BO;rw[f,wc b,wc af]
end T149
end Go.Pe
