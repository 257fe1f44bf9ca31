import Derived.Test.YtlohiljbghionaaGreatDoorX11
import Derived.Test.YtlohiljbghionaaGreatDoorX10
/- A part of a proof (no law is stated here). Made by program out of texts by AI agents. -/
set_option maxRecDepth 10000
open Go.Pe.Ends renaming tt -> zc, leaf -> zn, Ah -> zo, ite -> zr, ff -> zy, eq -> yq
open Go.Sp renaming val -> zd, B9 -> ze, vI -> zm, sg -> jl
open Int renaming toNat_natCast -> zf, mul_le_mul_of_nonneg_left -> zh, mul_le_mul_of_nonneg_right -> zk, le_of_lt -> zp, pow_succ -> zt, tdiv_eq_ediv_of_nonneg -> zu, mul_comm -> zw, mul_add -> zx, tmod_eq_emod_of_nonneg -> z6, lt_of_mul_lt_mul_left -> z8, mul_nonneg -> yb, pow_zero -> yc, mul_assoc -> yd, mul_left_comm -> ye, lt_or_le -> yg, one_mul -> yh, emod_lt_of_pos -> yj, mul_ediv_add_emod -> yn, emod_nonneg -> yo, ediv_emod_unique -> yp, tdiv -> yt, mul_lt_mul_of_pos_right -> yx, pow_pos -> yy, fdiv_eq_ediv_of_nonneg -> yz, mul_one -> y7, mul_zero -> y8, add_assoc -> y9, lt_of_lt_of_le -> qe, mul_sub -> qf, eq_ofNat_of_zero_le -> qg, ediv_eq_zero_of_lt -> qh, ediv_lt_of_lt_mul -> qi, ediv_nonneg -> qk, add_zero -> qo, mul_lt_mul_of_pos_left -> qq, tmod -> qt, le_refl -> qv, mul_ediv_cancel_left -> qy, pow_add -> ji, mul_neg -> jk, add_comm -> jm, zero_mul -> jo
open Go.IntKind renaming wrap -> zg
open Bool renaming and_eq_true -> zi, true_and -> qj
open List renaming take_of_length_le -> zj, replicate -> zl, length_drop -> zq, length_take -> zz, length_eq_zero_iff -> z7, append_assoc -> ya, take_length -> yi, getD_eq_getElem?_getD -> yk, length_append -> ym, dropWhile_cons -> yr, take_append_drop -> yw, mem_singleton -> qd, append_nil -> ql, dropLast_concat_getLast -> qm, nil_append -> qn, getLast?_eq_getElem? -> qu, getElem?_eq_getElem -> qx, mem_cons -> qz, drop_length -> q9, all_eq_true -> jc, all_reverse -> je, length_eq_one_iff -> jf, drop_eq_nil_of_le -> jh, take_left -> jj, drop -> jt
open BitVec renaming ofInt -> yf
open Nat renaming add_sub_cancel -> yu, min_eq_left -> qc, sub -> qp, le_refl -> qw, gcd_comm -> jg, gcd -> jz, add -> j0
open Go.Pe.Ad renaming of -> yv
namespace Go.Pe
open Sp
open Go.Det
theorem UO{a b:Int}{s:Nat}(e:0<=a)(c:0<=b)(h:b<2^s)(d:a*2^s+b<18446744073709551616):dO .u64 b (a*2^s)=a*2^s+b:=by
 have:=aE e c h d;rw[<-this];show zg .u64 (((yf 64 b|||yf 64 (a*2^s)).toNat:Nat):Int)=zg .u64 (((yf 64 (a*2^s)|||yf 64 b).toNat:Nat):Int);rw[BitVec.or_comm]
theorem ZD{s:Nat}(a:s<=63):(18446744073709551616:Int)=2^s*2^(64-s):=by rw[<-ji,show s+(64-s)=64 by omega];rfl
namespace T212
variable {Q:PV->Ob->Prop}
theorem Fh(s:Nat)(R:s<=63)(a n m:Nat)(hn:n<=a)(G:a<=9000)(u h:List Int)(Y:u.length=a+1)(M:Ay Ao u)(N:zd Ao (u.drop n)=0)(hm:h.length=m)(L:m<=9000)(q:Ay Ao h)
  (S:∀(w:List Int) ob,Ay Ao w->zd Ao w=zd Ao u/2^s->Q (.tup [.dat Dt<|Ax h,.dat Dt<|Ax w]) ob):
  ∀(k i:Nat) (p:List Int),i+k=n->p.length=i->Ay Ao p->zd Ao p+(Ao:Int)^i*(zd Ao (u.drop i)/2^s)=zd Ao u/2^s->
   Ends J7 (L6 s (a+1) n m n i h<|p++u.drop i) Q
 |0,i,p,E,hp,f,B=>by
  have E:i=n:=by omega
  subst E;have V:(p++u.drop i).take i=p:=by rw[<-hp];exact jj
  have F:h.take m=h:=zj (by omega);rw[N,Int.zero_ediv,y8,qo]at B;refine zo (ET ..) (zy (by simp) ?_);rw[zf,V,F];refine zc (by simp;omega) (zc (Ab (by simp;omega)<|EN (by omega) q)<|zc (Ab (by simp;omega)<|EN (by omega) f)<|zn<|S p _ f B)
 |k+1,i,p,E,hp,f,B=>by
  have I:=Cq (l:=u) (i:=i) (by omega);have P:=Cq (l:=u) (i:=i+1) (by omega);have O:=Sp.A5<|AZ M i;have W:=Sp.A5<|AZ M<|i+1;have g1:(p++u.drop i).getD i 0=u.getD i 0:=by rw[I];exact DZ _ _ _ _ hp
  have s1:∀z,(p++u.drop i).set i z=p++z::u.drop (i+1):=fun z=>by rw[I];exact DL _ _ _ _ hp
  have s2:∀z x,(p++z::u.drop (i+1)).set i x=(p++[x])++u.drop (i+1):=fun z x=>by rw[DL _ _ _ _ hp,ya];rfl
  have g2:∀z,(p++z::u.drop (i+1)).getD i 0=z:=fun z=>DZ _ _ _ _ hp
  have U:∀z,(p++z::u.drop (i+1)).getD (i+1) 0=u.getD (i+1) 0:=fun z=>by
   rw[P,show p++z::u.getD (i+1) 0::u.drop (i+1+1)=(p++[z])++u.getD (i+1) 0::u.drop (i+1+1)by rw[ya];rfl];exact DZ _ _ _ _ (by simp[hp])
  have r:∀z,(p++z::u.drop (i+1)).length=a+1:=fun z=>by simp;omega
  have j:(p++u.drop i).length=a+1:=by simp;omega
  have e2:=wn (i:=i) (by omega);have e3:zg .i64 ((64:Int)-(s:Int))=((64-s:Nat):Int):=by rw[wr _ (by omega)<|by omega];omega
  have Z:Min.min s 64=s:=by omega
  have C:Min.min (64-s) 64=64-s:=by omega
  have A:=ZD R;have o:(0:Int)<2^s:=yy (by decide);have e:(0:Int)<2^(64-s):=yy (by decide);have K:Int.fdiv (u.getD i 0) ((2:Int)^s)=u.getD i 0/2^s:=yz _<|zp o;have a0:0<=u.getD i 0/2^s:=qk O.1<|zp o;have a1:u.getD i 0/2^s<2^(64-s):=qi o (by rw[zw, <-A];exact O.2);have T:=yo (u.getD (i+1) 0) (show(2:Int)^s≠0 by omega);have m1:=yj (u.getD (i+1) 0) o;have p0:0<=(u.getD (i+1) 0 % 2^s)*2^(64-s):=yb T<|zp e;have p1:(u.getD (i+1) 0 % 2^s)*2^(64-s)<=18446744073709551616-2^(64-s):=by
   have:=zk (show u.getD (i+1) 0 % 2^s<=2^s-1 by omega)<|zp e;rw[Int.sub_mul,yh, <-A]at this;exact this
  have g:0<=u.getD i 0/2^s+(u.getD (i+1) 0 % 2^s)*2^(64-s)/\u.getD i 0/2^s+(u.getD (i+1) 0 % 2^s)*2^(64-s)<18446744073709551616:=by omega
  have J:zg .u64 (u.getD (i+1) 0*2^(64-s))=(u.getD (i+1) 0 % 2^s)*2^(64-s):=by
   rw[Ml];exact(Vm (b:=18446744073709551616) (c:=2^(64-s)) (d:=2^s) (k:=0) e o (by rw[A,zw]) ⟨qv _,e⟩ W).1
  have H:dO .u64 (u.getD i 0/2^s) ((u.getD (i+1) 0 % 2^s)*2^(64-s))=u.getD i 0/2^s+(u.getD (i+1) 0 % 2^s)*2^(64-s):=by
   rw[UO T a0 a1 (by omega),jm]
  have next:∀z,z=u.getD i 0/2^s+(u.getD (i+1) 0 % 2^s)*2^(64-s)->Ends J7 (L6 s (a+1) n m n ((i+1:Nat):Int) h<|(p++[z])++u.drop (i+1)) Q:=by
   intro z t;refine Fh s R a n m hn G u h Y M N hm L q S k (i+1) (p++[z]) (by omega) (by simp[hp]) (Eo f<|by rw[t];exact CZ g.1 g.2) ?_;rw[<-B,Fq,hp,Mo,y9, <-zx];congr 2;have:=lP (b:=18446744073709551616) (c:=2^s) (d:=2^(64-s)) (x:=u.getD i 0) (y:=u.getD (i+1) 0) (X:=zd Ao<|u.drop<|i+1+1) o A;rw[t,I,P];exact this.symm
  have v:(decide ((0:Int)<=(i:Int))&&decide ((i:Int)<((a+1:Nat):Int)))=true:=by simp;omega
  have b2:(decide ((0:Int)<=((i+1:Nat):Int))&&decide (((i+1:Nat):Int)<((a+1:Nat):Int)))=true:=by simp;omega
  refine zo (ET ..) (zc (by simp;omega) ?_);rw[e2,e3,zf,zf,zf,zf,Z,C,g1,K,s1,g2,U,s2,J,H,r,j];refine zc v (zc (w4<|by omega)<|zc (by simp)<|zc v<|zc (w4<|by omega)<|zr (fun c=>zc (by simp;omega)<|zc v<|zc (w4<|by omega)<|zc b2<|zc (w4<|by omega)<|zc (by simp)<|zc v<|zc (w4<|by omega)<|next _ rfl)<|fun c=>?_);have c:=w7 c;have D:s=0:=by omega
  subst D;rw[show ∀z:Int,p++z::u.drop (i+1)=(p++[z])++u.drop (i+1)from fun z=>by rw[ya];rfl];refine next _ ?_;rw[yc,Int.emod_one,jo,qo]
theorem Tk{X:AV}{F:Int->List Int->Tr}(w:List Int)(s:Nat)(t:s<=63)(v:Ay Ao w)
  (D0:∀(i:Nat) (o:List Int),i<w.length->o.length=w.length+1->Ends X (F ((i+1:Nat):Int)<|if 0<s then(o.set i<|dO .u64 (o.getD i 0)<|zg .u64<|w.getD i 0*2^s).set (i+1) (Int.fdiv (w.getD i 0)<|2^(64-s))else o.set i<|dO .u64 (o.getD i 0)<|zg .u64<|w.getD i 0*2^s) Q->Ends X (F i o) Q)
  (a:∀o:List Int,o.length=w.length+1->Ay Ao o->zd Ao o=2^s*zd Ao w->Ends X (F w.length o) Q):
  ∀(k i:Nat) (p:List Int) (c:Int),i+k=w.length->p.length=i->Ay Ao p->(0<=c/\c<2^s)->zd Ao p+(Ao:Int)^i*c=2^s*zd Ao (w.take i)->Ends X (F i (p++c::zl k 0)) Q
 |0,i,p,c,n,hp,e,g,h=>by
  have n:i=w.length:=by omega
  subst n;have G:(2:Int)^s<=18446744073709551616:=by
   have:=ZD t;have B:(1:Int)<=2^(64-s):=yy (by decide);have E:=zh B (show(0:Int)<=2^s from zp<|yy<|by decide);omega
  rw[yi]at h;refine a _ (by simp[hp]) (Eo e<|CZ g.1<|by omega) ?_;rw[<-h];show zd Ao (p++[c])=_;rw[Fq,hp]
 |k+1,i,p,c,n,hp,e,g,h=>by
  have m:=Sp.A5<|AZ v i;have C:=ZD t;have u:(0:Int)<2^s:=yy (by decide);have f:(0:Int)<2^(64-s):=yy (by decide);obtain⟨s1,s2,s3,s4,s5,s6⟩:=Vm (b:=18446744073709551616) (c:=2^s) (d:=2^(64-s)) (x:=w.getD i 0) (k:=c) u f C g m;have r:Int.fdiv (w.getD i 0) ((2:Int)^(64-s))=w.getD i 0/2^(64-s):=yz _<|zp f;have D:(p++c::zl (k+1) 0).getD i 0=c:=DZ _ _ _ _ hp;have st:∀z:Int,(p++c::zl (k+1) 0).set i z=p++z::zl (k+1) 0:=fun z=>DL _ _ _ _ hp
  have l:∀z y:Int,(p++z::zl (k+1) 0).set (i+1) y=(p++[z])++y::zl k 0:=fun z y=>by
   rw[show p++z::zl (k+1) (0:Int)=(p++[z])++0::zl k 0 by rw[ya];rfl];exact DL _ _ _ _ (by simp[hp])
  have q:dO .u64 c ((w.getD i 0 % 2^(64-s))*2^s)=(w.getD i 0 % 2^(64-s))*2^s+c:=UO (yo _<|by omega) g.1 g.2 s2;have go:=Tk w s t v D0 a k (i+1) (p++[(w.getD i 0 % 2^(64-s))*2^s+c]) (w.getD i 0/2^(64-s)) (by omega) (by simp[hp]) (Eo e<|CZ (by omega) s2) ⟨s4,s5⟩ (by
   rw[Fq,hp,Mo,AJ,zx<|2^s, <-h,y9,y9, <-zx,ye<|2^s, <-zx];congr 2;rw[zw<|2^s];omega)
  refine D0 i _ (by omega) (by simp;omega) ?_;rw[Ml,s1,r,D,q,st,l];by_cases h0:0<s
  ·rw[wd h0];exact go
  ·have j:s=0:=by omega
   subst j;have A:w.getD i 0/2^(64-0)=0:=qh m.1 m.2;rw[A]at go;rw[wc h0,show ∀z:Int,p++z::zl (k+1) (0:Int)=(p++[z])++0::zl k 0 from fun z=>by rw[ya];rfl];exact go
end T212
theorem xE:C9 J7:=
 Aa T187.ok (Aa T209.ok<|Aa T177.ok<|Aa T208.ok<|Aa T217.ok<|Aa mJ<|Aa T247.ok AI)
theorem KY{w:List Int}(c:Ay Ao w)(a:Sp.nz w){k:Nat}(b:w.length=k+1):0<w.getD k 0/\w.getD k 0<18446744073709551616:=by
 have g:=Sp.A5<|AZ c k;refine⟨?_,g.2⟩;have e:w.getLast?=some (w.getD k 0):=by
  rw[qu,b,yu,yk,qx<|by omega];rfl
 unfold Sp.nz at a;rw[e]at a;have:w.getD k 0≠0:=fun h=>a (by rw[h])
 omega
namespace T212
set_option maxHeartbeats 1000000 in
theorem ok:Af A6 212 GG:=by
 refine BO xE<|fun(i:List Int×List Int) A=>?_;obtain⟨a,b⟩:=i;have A:(Cp a&&Cp b&&decide (a.length<=9000)&&decide (b.length<=9000)&&decide (0<As b))=true:=A;rw[zi,zi,zi,zi,w5,w5,w5]at A;obtain⟨⟨⟨⟨na,nb⟩,la9⟩,lb9⟩,m⟩:=A;obtain⟨_,da,za⟩:=Fo na;obtain⟨_,db,zb⟩:=Fo nb;have m:0<zd Ao b:=m;have I:=AD (b:=Ao) (by decide) da;have hg:∀q r ob,q=BA (As a/As b)->r=BA (As a % As b)->Ad GG (a,b) (PV.tup [PV.dat Dt q,PV.dat Dt r]) ob:=fun q r ob R L=>yv rfl rfl (Prod.ext R L)
 have fin:∀(q r:List Int) ob,Ay Ao q->Ay Ao r->zd Ao a=zd Ao q*zd Ao b+zd Ao r->zd Ao r<zd Ao b->Ad GG (a,b) (PV.tup [PV.dat Dt<|Ax q,PV.dat Dt<|Ax r]) ob:=by
  intro q r ob dq dr N hr;have hr0:=AD (b:=Ao) (by decide) dr;obtain⟨u1,u2⟩:=(yp (a:=zd Ao a) (b:=zd Ao b) (r:=zd Ao r) (q:=zd Ao q) m).2 ⟨by rw[zw<|zd Ao b];omega,hr0,hr⟩;refine hg _ _ ob ?_ ?_
  ·rw[LG dq];show BA (zd Ao q)=BA (zd Ao a/zd Ao b);rw[u1]
  ·rw[LG dr];show BA (zd Ao r)=BA (zd Ao a % zd Ao b);rw[u2]
 have n:b≠[]:=by rintro rfl;simp[zd]at m
 have hblen:b.length≠0:=fun h=>n<|z7.1 h
 refine yq (Ai a b) (zc (by rw[na,nb];rfl)<|zr (fun c=>?_)<|fun c=>?_)
 ·have c:=w6 c;have l:zd Ao a<zd Ao b:=by
   unfold Cg at c;have c:(if zd Ao a<zd Ao b then(-1:Int)else if zd Ao a>zd Ao b then 1 else 0)<0:=c;split at c
   ·assumption
   ·split at c<;>omega
  refine zn<|yv rfl rfl ?_;show([],a)=(BA<|zd Ao a/zd Ao b,BA<|zd Ao a % zd Ao b);rw[qh I l,Int.emod_eq_of_lt I l];exact Prod.ext rfl (IF (by decide) da za)
 ·have c:=w7 c;have hge:zd Ao b<=zd Ao a:=by
   rcases yg (zd Ao a) (zd Ao b)with g|g
   ·have:Cg (As a) (As b)= -1:=wd g;omega
   ·exact g
  have hll:b.length<=a.length:=by
   rcases Nat.lt_or_ge a.length b.length with g|g
   ·have:=Fa (b:=Ao) (by decide) da db zb g;omega
   ·exact g
  refine zr (fun C=>?_)<|fun C=>?_
  ·have C:b.length=1:=by
    have:(b.length:Int)=1:=by simpa using C
    omega
   obtain⟨d,rfl⟩:=jf.1 C;have hd:0<d/\d<18446744073709551616:=KY (k:=0) db zb rfl;have R:zg .i64 ((a.length:Int)-1)=(a.length:Int)-1:=wr _ (by omega) (by omega);rw[R,zf];refine zc (by simp;omega) ?_;have:=Ar (Q:=Ad GG (a,[d])) a d da hd (by omega) (fun q r ob dq dr N=>by
    refine fin q [r] ob dq (fun x j=>by rw[qd]at j;subst j;exact⟨dr.1,by show x<18446744073709551616;omega⟩) ?_ ?_
    ·rw[val_one,val_one];exact N
    ·rw[val_one,val_one];exact dr.2) a.length [] 0 (by simp) (fun x j=>by cases j) ⟨qv _,hd.1⟩ (by rw[q9];simp[zd])
   rw[ql]at this;exact this
  ·have C:b.length≠1:=by
    have:(b.length:Int)≠1:=by simpa using C
    omega
   obtain⟨k,y⟩:∃k,b.length=k+2:=⟨b.length-2,by omega⟩;obtain⟨y0,y1⟩:=KY (k:=k+1) db zb y;obtain⟨s,hs,hs63,l,_⟩:=Va y0 y1;have hB:=ZD hs63;have f:(0:Int)<2^s:=yy (by decide);have h2d:(0:Int)<2^(64-s):=yy (by decide);have hyd:b.getD (k+1) 0<2^(64-s):=by
    rw[hB,zw<|b.getD (k+1) 0]at l;exact z8 l<|zp f
   have Z:(Ao:Int)^(k+1)<=2^s*zd Ao b:=by
    have a1:=DF (b:=Ao) (by decide) db zb n;rw[y,show k+2-1=k+1 by omega]at a1;have a2:=zk (show(1:Int)<=2^s by omega)<|zp m;omega
   have hv2:2^s*zd Ao b<(Ao:Int)^(k+2):=by
    have B:zd Ao b=zd Ao (b.take<|k+1)+(Ao:Int)^(k+1)*b.getD (k+1) 0:=by
     rw[<-AJ,zj<|by omega]
    have b2:=Bw (b:=Ao) (by decide)<|AQ db<|k+1;rw[zz,qc<|by omega]at b2;have hp:=AR (b:=Ao) (by decide)<|k+1;have b3:zd Ao b<(Ao:Int)^(k+1)*2^(64-s):=by
     have:=zh (show b.getD (k+1) 0+1<=2^(64-s)by omega)<|zp hp;rw[zx,y7]at this;omega
    have b4:=qq b3 f;have b5:(2:Int)^s*((Ao:Int)^(k+1)*2^(64-s))=(Ao:Int)^(k+2):=by
     rw[ye, <-hB];exact(zt ..).symm
    rw[b5]at b4;exact b4
   have hls:∀o:List Int,Ay Ao o->zd Ao o=2^s*zd Ao b->Ay Ao (Ax o)/\(Ax o).length=k+2/\zd Ao (Ax o)=2^s*zd Ao b/\1<=(Ax o).getD (k+1) 0:=by
    intro o T hv;have v:=H2 T;have z:zd Ao (Ax o)=2^s*zd Ao b:=by rw[JO,hv]
    have M:=lS (b:=Ao) (by decide) v (La o) (k:=k+1) (by rw[z];exact Z) (by rw[z];exact hv2);have:=(KY v (La o) M).1;exact⟨v,M,z,by omega⟩
   have L:zg .i64 (((k+2:Nat):Int)-1)=((k+1:Nat):Int):=by rw[wr _ (by omega)<|by omega];omega
   have e3:zg .i64 (((k+2:Nat):Int)+1)=((k+3:Nat):Int):=by rw[wr _ (by omega)<|by omega];omega
   have e4:zg .i64 ((a.length:Int)+1)=((a.length+1:Nat):Int):=by rw[wr _ (by omega)<|by omega];omega
   have e5:zg .i64 ((a.length:Int)-((k+2:Nat):Int))=((a.length-(k+2):Nat):Int):=by rw[wr _ (by omega)<|by omega];omega
   have e6:zg .i64 (((a.length-(k+2):Nat):Int)+1)=((a.length-(k+2)+1:Nat):Int):=by rw[wr _ (by omega)<|by omega];omega
   have e7:zg .i64 ((64:Int)-(s:Int))=((64-s:Nat):Int):=by rw[wr _ (by omega)<|by omega];omega
   have em:Min.min s 64=s:=by omega
   have G:Min.min (64-s) 64=64-s:=by omega
   rw[y,L,e3,zf,zf,hs];refine zc (by simp;omega) (zc (CZ (by omega) y1) (zc (by simp;omega) ?_));refine Tk (F:=fun i o=>L2 a b s (k+3) b ((k+2:Nat):Int) i o) b s hs63 db (fun i o A T h=>?_) (fun o hol K W=>?_) (k+2) 0 [] 0 (by omega) rfl (fun x j=>by cases j) ⟨qv _,f⟩ (by simp[zd])
   ·have ei:=wn (i:=i) (by omega);have B:(decide ((0:Int)<=(i:Int))&&decide ((i:Int)<((k+3:Nat):Int)))=true:=by simp;omega
    refine zo (AH ..) (zc (by simp;omega) ?_);rw[ei,e7,zf,zf,zf,zf,em,G];refine zc (by simp;omega) (zc B<|zc (w4<|by omega)<|zc (by simp)<|zc B<|zc (w4<|by omega)<|zr (fun c=>zc (by simp)<|zc (by simp;omega)<|zc (by simp;omega) ?_)<|fun c=>?_)
    ·have c:=w6 c;rw[wd<|by omega]at h;exact h
    ·have c:=w7 c;rw[wc<|by omega]at h;exact h
   obtain⟨vd,vl,P,v1⟩:=hls o K W;have eo:o.take (k+3)=o:=zj (by omega);rw[y];refine zo (AH ..) (zy (by simp) ?_);rw[eo,e4,zf,y,L,zf,hs];refine zc (Ab (by simp;omega)<|EN (by omega) K) (zc (by simp;omega) ?_);refine Tk (F:=fun i o'=>L3 a b s (k+3) b ((k+2:Nat):Int) ((k+2:Nat):Int) o s (a.length+1) a a.length i o' o) a s hs63 da (fun i o' A T h=>?_) (fun u V E U=>?_) a.length 0 [] 0 (by omega) rfl (fun x j=>by cases j) ⟨qv _,f⟩ (by simp[zd])
   ·have ei:=wn (i:=i) (by omega);have B:(decide ((0:Int)<=(i:Int))&&decide ((i:Int)<((a.length+1:Nat):Int)))=true:=by simp;omega
    refine zo (B5 ..) (zc (by simp;omega) ?_);rw[ei,e7,zf,zf,zf,zf,em,G];refine zc (by simp;omega) (zc B<|zc (w4<|by omega)<|zc (by simp)<|zc B<|zc (w4<|by omega) (zr (fun c=>zc (by simp)<|zc (by simp;omega)<|zc (by simp;omega) ?_)<|fun c=>?_))
    ·have c:=w6 c;rw[wd<|by omega]at h;exact h
    ·have c:=w7 c;rw[wc<|by omega]at h;exact h
   refine zo (B5 ..) (zy (by simp) ?_);rw[eo,vl,e5,e6,zf,y,L,zf,hs];refine zc (by simp;omega) ?_;have D:=AR (b:=Ao) (by decide)<|a.length-(k+2)+1;have start:zd Ao (u.drop<|a.length-(k+2)+1)<zd Ao (Ax o):=by
    have a1:=Cs Ao u (a.length-(k+2)+1) (by omega);have a2:=AD (b:=Ao) (by decide)<|AQ E<|a.length-(k+2)+1;have a3:=Bw (b:=Ao) (by decide) da;have a4:=qq a3 f;have a5:(Ao:Int)^a.length=(Ao:Int)^(a.length-(k+2)+1)*(Ao:Int)^(k+1):=by rw[<-ji];congr 1;omega
    have a6:=DF (b:=Ao) (by decide) db zb n;rw[y,show k+2-1=k+1 by omega]at a6;have a7:=zh a6<|zp f;have a8:=zh a7<|zp D;rw[a5,ye]at a4;rw[P];refine z8 (a:=(Ao:Int)^(a.length-(k+2)+1)) ?_<|zp D;omega
   have go:=Ca (Q:=Ad GG (a,b)) s (Ax o) k a.length vl la9 (by omega) vd v1 (2^s*zd Ao a) (fun X O J t H p S N=>by
    have hz:zd Ao (X.drop<|k+2)=0:=JU (b:=Ao) (by decide) t (by omega) (by rw[P]at p;omega);refine Fh s hs63 a.length (k+2) (a.length-(k+2)+1) (by omega) la9 X O J t hz S (by omega) H (fun w ob hw Y=>?_) (k+2) 0 [] (by omega) rfl (fun x j=>by cases j) (by simp[zd]);have e:zd Ao X=2^s*(zd Ao a-zd Ao O*zd Ao b):=by
     rw[P,yd,zw<|zd Ao b]at N;rw[qf];omega
    have ew:zd Ao w=zd Ao a-zd Ao O*zd Ao b:=by
     rw[Y,e];exact qy _ (by omega)
    refine fin O w ob H hw (by omega) ?_;rw[P,e]at p;have:=z8 p<|zp f;omega) (a.length-(k+2)+1) u [] (by simp) V E (fun x j=>by cases j) start (by rw[U];simp[zd])
   rw[ql,show((a.length-(k+2)+1:Nat):Int)-1=((a.length-(k+2):Nat):Int)by omega]at go;exact go
end T212
theorem Ry:Af A6 212 GG:=T212.ok
theorem uU:C9 XF0:=fun g sp h=>by cases h
theorem T106n.ok:Af A6 106 cQ:=by
 refine BO uU<|fun(n:Int) _=>?_;refine yq (T106n.Ai n)<|zn<|yv rfl rfl ?_;show(n,[])=(n,CW n);rw[EH]
theorem xY:C9 XF1:=
 Aa T106n.ok (Aa Ry<|Aa (T179.ok FT)<|Aa (T180.ok FT)<|Aa T160.ok<|Aa T139.ok<|Aa T161.ok AI)
theorem W9{m D:Int}(c:0<D):(m % D=0->(-m)/D= -(m/D)/\(-m) % D=0)/\(m % D≠0->(-m)/D= -(m/D)-1/\(-m) % D=D-m % D):=by
 have e:=yn m D;have d:=yo m (show D≠0 by omega);have f:=yj m c;refine⟨fun h=>?_,fun h=>?_⟩
 ·exact(yp (a:= -m) (b:=D) (r:=0) (q:= -(m/D)) c).2 ⟨by rw[jk];omega,by omega,by omega⟩
 ·exact(yp (a:= -m) (b:=D) (r:=D-m % D) (q:= -(m/D)-1) c).2 ⟨by rw[qf,jk,y7];omega,by omega,by omega⟩
theorem xT{m D:Int}(a:0<=m)(c:0<D):(0<=m/D/\m/D<=m)/\(0<=m % D/\m % D<=m/\m % D<D):=by
 have e:=yn m D;have q0:0<=m/D:=qk a (by omega);have q1:m/D<=m:=Int.ediv_le_self _ a;have b:=yo m (show D≠0 by omega);have d:=yj m c;have:=yb (show 0<=D by omega) q0;exact⟨⟨q0,q1⟩,b,by omega,d⟩
theorem ZQ(n:Bool){v:Int}(h:0<=v):Ag (jl n v)=v:=by
 rw[DP,Aj];split<;>omega
theorem D5{n:Int}(h:Ag n<(Ao:Int)^9000):Bc (Dc n)=true:=by
 have:=N9 h (by omega);unfold Bc;exact Ab this.1<|w4 this.2
theorem jQ{a b:AG}(h:0<zm a+zm b):ER a b=Dc (zm a+zm b):=by
 unfold ER;split
 ·next c=>
  have:=EK c.2.2;rw[Bo c.1,Bo c.2.1]at h ⊢;exact(Ce<|by omega).symm
 ·rfl
theorem Oo:((1:Int),CW (1:Int))=Dc 1:=by rw[EH];rfl
namespace T190
theorem Rl{a b:AG}(q:Int)(h: -9223372036854775808<q/\q<9223372036854775808)(c:Et a b=Dc q\/(-9223372036854775808<q/\Et a b=NR (Dc<|q+1) (1,[])/\q+1<9223372036854775808)):Et a b=(q,[]):=by
 rcases c with c|⟨d,c,e⟩
 ·rw[c,Ce h]
 ·rw[c,Ce<|by omega];unfold NR Cn;rw[wd ⟨rfl,by decide⟩];unfold ER;rw[wd ⟨rfl,rfl,D7 (by show _<=q+1+ -1;omega)<|by show q+1+ -1<_;omega⟩];show(q+1+ -1,[])=(q,[]);rw[show q+1+ -1=q by omega]
set_option maxHeartbeats 1000000 in
theorem ok:Af A6 190 Hy:=by
 refine BO xY<|fun(i:(Int×List Int)×(Int×List Int)) t=>?_;obtain⟨a,b⟩:=i;have t:(Bc a&&Bc b&&decide (0<zm b))=true:=t;rw[zi,zi,w5]at t;obtain⟨⟨ha,hb⟩,hD⟩:=t;obtain⟨oa,_,na,_,va,ba⟩:=words ha;obtain⟨ob,_,nb,_,vb,bb⟩:=words hb;have E:Ag (zm b)=zm b:=by rw[Aj];omega
 have B:=AK<|zm a;have d:Ag (zm a)=if zm a<0 then -zm a else zm a:=rfl
 obtain⟨⟨q0,q1⟩,s,F,z⟩:=xT (D:=zm b) B hD;obtain⟨z1,z2⟩:=W9 (m:=Ag<|zm a) hD;have e:Sz (BA<|Ag<|zm a) (BA<|Ag<|zm b)=true:=by
  unfold Sz;exact Ab (Ab (Ab (Ab na nb)<|w4<|K2 B ba)<|w4<|K2 (AK _) bb) (w4<|by rw[vb,E];exact hD)
 have fin:∀(q r:AG) v ob,Iq Hy.outs v ob=some (true,(q,r))->q=Et a b->r=Dc (zm a % zm b)->Ad Hy (a,b) v ob:=fun q r v ob h I R=>yv h rfl (by rw[I,R];rfl)
 have f:Ends XF1 (L1 (decide (zm a<0)) (BA<|As (BA<|Ag<|zm a)/As (BA<|Ag<|zm b)) (BA<|As (BA<|Ag<|zm a) % As (BA<|Ag<|zm b)) 0 0 b.1 b.2) (Ad Hy (a,b)):=by
  rw[va,vb,E];obtain⟨K,_,M⟩:=Dh (n:=Ag (zm a)/zm b) (k:=9000) q0 (by omega) (by omega);obtain⟨nr,_,vr⟩:=Dh (n:=Ag (zm a) % zm b) (k:=9000) s (by omega) (by omega);have C:Bc (Dc<|jl (decide (zm a<0))<|Ag (zm a) % zm b)=true:=D5 (by rw[ZQ _ s];omega);have S:Bc (Dc<|jl (decide (zm a<0))<|Ag (zm a)/zm b)=true:=D5 (by rw[ZQ _ q0];omega);have O:Bc ((1:Int),CW (1:Int))=true:=by rw[Oo];decide
  have es:Ir (C1<|jl (decide (zm a<0))<|Ag (zm a) % zm b,C0<|jl (decide (zm a<0))<|Ag (zm a) % zm b)=Sp.Mt (jl (decide (zm a<0))<|Ag (zm a) % zm b):=by
   show Sp.Mt (zm<|Dc _)=_;rw[CF]
  refine zo (Al ..)<|zc K<|zc nr ?_;rw[M,vr];refine zo (AH ..)<|zc (B3 C).1 ?_;rw[es];refine zr (fun c=>?_)<|fun c=>?_
  ·have c:=w6 c;have o:jl (decide (zm a<0)) (Ag (zm a) % zm b)<0:=by
    rw[Mm]at c;split at c
    ·assumption
    ·split at c<;>omega
   have j:zm a<0:=by
    rcases yg (zm a) 0 with g|g
    ·exact g
    ·rw[DP,wc<|by simp;omega]at o;omega
   have hr:Ag (zm a) % zm b≠0:=by
    rw[DP,wd<|w4 j]at o;omega
   obtain⟨z3,z4⟩:=z2 hr;refine zc rfl (zc (Ab S O)<|zc (Ab C hb)<|zn<|fin (NR (Dc<|jl (decide (zm a<0))<|Ag (zm a)/zm b) (1,CW 1)) (ER (Dc<|jl (decide (zm a<0))<|Ag (zm a) % zm b) b) _ _ rfl ?_ ?_)
   ·unfold Et;rw[wd ⟨j,hr⟩,EH,DP,wd<|w4 j]
   ·have ev:zm a= -Ag (zm a):=by rw[d,wd j];omega
    have G:zm (Dc<|jl (decide (zm a<0))<|Ag (zm a) % zm b)= -(Ag (zm a) % zm b):=by rw[CF,DP,wd<|w4 j]
    have N:zm a % zm b=zm b-Ag (zm a) % zm b:=by rw[<-z4, <-ev]
    rw[jQ (by rw[G];omega),G,N];congr 1;omega
  ·have c:=w7 c;have o:¬(zm a<0/\Ag (zm a) % zm b≠0):=by
    rintro⟨j,hr⟩;rw[DP,wd<|w4 j,Mm,wd<|by omega]at c;omega
   refine zn<|fin (Dc<|jl (decide (zm a<0))<|Ag (zm a)/zm b) (Dc<|jl (decide (zm a<0))<|Ag (zm a) % zm b) _ _ rfl ?_ ?_
   ·unfold Et;rw[wc o]
   ·congr 1;rcases yg (zm a) 0 with g|g
    ·have hr:Ag (zm a) % zm b=0:=by
      rcases yg 0 (Ag (zm a) % zm b)with g2|g2
      ·exact wh ⟨g,by omega⟩ o
      ·omega
     have ev:zm a= -Ag (zm a):=by rw[d,wd g];omega
     have:=(z1 hr).2;rw[<-ev]at this;rw[this,hr,DP];split<;>rfl
    ·rw[DP,wc (by simp;omega),d,wc<|by omega]
 refine yq (Ai a b)<|zr (fun H=>zr (fun o=>zr (fun w=>?_)<|fun w=>?_)<|fun o=>?_)<|fun H=>?_
 ·have a2:=QZ H;have P:=QZ o;have w:a.1≠ -9223372036854775808:=by simpa using w
  have V:=EK (n:=a.1) (by
   have:=oa;unfold Sp.C6 at this;rw[zi]at this;exact this.1)
  have U:=EK (n:=b.1) (by
   have:=ob;unfold Sp.C6 at this;rw[zi]at this;exact this.1)
  have l:=Bo a2;have p:=Bo P;rw[l]at d;rw[p]at hD z;rw[l,p]at q0 q1 s F z1 z2;rw[l]at z;have u:yt a.1 b.1=if a.1<0 then -(Ag a.1/b.1)else Ag a.1/b.1:=by
   rw[d];split
   ·have:=Int.neg_tdiv (-a.1) b.1;rw[Int.neg_neg]at this;rw[this,zu<|by omega]
   ·exact zu (by omega)
  have hr:qt a.1 b.1=if a.1<0 then -(Ag a.1 % b.1)else Ag a.1 % b.1:=by
   rw[d];split
   ·have:=Int.neg_tmod (-a.1) b.1;rw[Int.neg_neg]at this;rw[this,z6<|by omega]
   ·exact z6 (by omega)
  refine zc (w4<|by omega) (zc (w4<|by omega)<|zr (fun c=>?_)<|fun c=>?_)
  ·have c:=w6 c;rw[hr]at c;have j:a.1<0:=by split at c<;>omega
   rw[wd j]at c u hr;rw[wd j]at d;obtain⟨z3,z4⟩:=z2 (by omega);have ev:a.1= -Ag a.1:=by omega
   have L:Ag a.1/b.1<9223372036854775807:=by
    rcases yg (Ag a.1/b.1) 9223372036854775807 with g|g
    ·exact g
    ·have:=yn (Ag a.1) b.1;have:=zk (show 1<=b.1 by omega) q0;omega
   refine zn<|fin (zg .i64<|zg .i64 (yt a.1 b.1)-1,[]) (zg .i64<|qt a.1 b.1+b.1,[]) _ _ rfl ?_ ?_
   ·rw[u,wr (-(Ag a.1/b.1)) (by omega) (by omega),wr _ (by omega)<|by omega];refine(Rl _ (by omega)<|.inr ⟨by omega,?_,by omega⟩).symm;unfold Et;rw[l,p,wd ⟨j,by omega⟩,show -(Ag a.1/b.1)-1+1= -(Ag a.1/b.1)by omega]
   ·rw[hr,wr _ (by omega)<|by omega];have:a.1 % b.1=b.1-Ag a.1 % b.1:=by rw[<-z4, <-ev]
    rw[l,p,this,Ce<|by omega];congr 1;omega
  ·have c:=w7 c;rw[hr]at c;refine zn<|fin (zg .i64<|yt a.1 b.1,[]) (qt a.1 b.1,[]) _ _ rfl ?_ ?_
   ·have y:Et a b=Dc (yt a.1 b.1):=by
     unfold Et;rw[l,p,u,wc (by rintro⟨J,T⟩;rw[wd J]at c;omega),DP];by_cases h:a.1<0
     ·rw[wd<|w4 h,wd h]
     ·rw[wc (by simp;omega),wc h]
    have x: -9223372036854775808<yt a.1 b.1/\yt a.1 b.1<9223372036854775808:=by
     rw[u,d]at*;split<;>split at q1<;>split at q0<;>omega
    rw[wr _ (by omega)<|by omega];exact(Rl _ x<|.inl y).symm
   ·rw[hr];by_cases h:a.1<0
    ·rw[wd h]at c ⊢;have A:Ag a.1 % b.1=0:=by omega
     rw[wd h]at d;have ev:a.1= -Ag a.1:=by omega
     have:=(z1 A).2;rw[<-ev]at this;rw[l,p,this,A];rfl
    ·rw[wc h]at c ⊢;rw[wc h]at d;rw[l,p,d,Ce<|by rw[d]at s F;omega]
 ·exact zc oa<|zc ob<|zc e f
 ·exact zc oa<|zc ob<|zc e f
 ·exact zc oa<|zc ob<|zc e f
end T190
theorem xM:C9 XF2:=
 Aa T190.ok (Aa T202.ok<|Aa T161.ok AI)
theorem vY{a:AG}(h:Sp.C6 a=true):Vf a=Dc (Ag<|zm a):=by
 have k:=tW h;obtain⟨hr,e⟩:=Ed h;unfold Vf;by_cases h0:a.1<0
 ·rw[wd h0,Aj];unfold Cn;have b:=k.1 h0;split
  ·next c=>rw[Bo c.1]at b ⊢;rw[Ce<|by omega];congr 1;omega
  ·congr 1;omega
 ·rw[wc h0];obtain⟨s,w⟩:=a;have h0:¬s<0:=h0;rcases e with e|⟨l,i,f⟩
  ·have e:w=[]:=e;subst e;have hr: -9223372036854775808<=s/\s<9223372036854775808:=hr;rw[E8,Aj,Ce<|by omega];congr 1;omega
  ·obtain⟨_,d,z⟩:=Fo l;have i:s=1\/s= -1:=i;have f:9223372036854775808<=As w:=f;have g:w≠[]:=by rintro rfl;exact wh f (by decide)
   have j:s=1:=by omega
   subst j;rw[WO g,wc (by decide),Aj];have:=Ur (w:=w) false d z f;rw[wc (by decide),wc<|by decide]at this;rw[show((As w).natAbs:Int)=As w by omega,this]
theorem jD(n:Int):Ir (C1 n,C0 n)=Sp.Mt n:=by
 show Sp.Mt (zm<|Dc _)=_;rw[CF]
theorem LB(n:Int):zm (C1 n,C0 n)=n:=CF n
theorem YJ(m n:Int):nO (C1 m,C0 m) (C1 n,C0 n)=C1 (m % n)/\kN (C1 m,C0 m) (C1 n,C0 n)=C0 (m % n):=by
 constructor
 ·show C1 (zm (Dc _) % zm (Dc _))=_;rw[CF,CF]
 ·show C0 (zm (Dc _) % zm (Dc _))=_;rw[CF,CF]
theorem Gj{n:Int}(h:Bc (Dc n)=true):Bc (C1 n,C0 n)=true:=h
theorem N6{a:AG}(h:Sp.C6 a=true):O8 a=C1 (Ag<|zm a)/\PB a=C0 (Ag<|zm a):=by
 unfold O8 PB;rw[vY h];exact⟨rfl,rfl⟩
theorem VU(x y:Nat):((x:Int) % (y:Int))=((x % y:Nat):Int):=rfl
theorem wR(a b:AG)(n:Int)(h:n=Sp.gI (zm a) (zm b)):(C1 n,C0 n)=(Ny a b,NI a b):=by subst h;rfl
namespace T170
variable {Q:PV->Ob->Prop}
theorem xP(n:Nat)(h:(n:Int)<(Ao:Int)^9000):Bc (Dc (n:Int))=true:=D5 (by rw[Aj,Int.natAbs_natCast];exact h)
theorem Ar(g:Nat)(e L:Int)(c:∀n:Nat,(n:Int)<L->Bc (Dc (n:Int))=true)(i:∀ob,Q (.agg [.dat i64<|C1 (g:Int),.dat (.nlist u64)<|C0 (g:Int)]) ob):∀(f x y:Nat),y<f->jz x y=g->(x:Int)<L->(y:Int)<L->
  Ends XF2 (L1 e (C1 (y:Int)) (C0 (y:Int)) (C1 (x:Int))<|C0 (x:Int)) Q
 |0,x,y,h,_,_,_=>by omega
 |f+1,x,y,m,b,k,a=>by
  have j:Bc (Dc (x:Int))=true:=c x k;have d:Bc (Dc (y:Int))=true:=c y a
  refine zo (Al ..)<|zc (B3<|Gj d).1 ?_;rw[jD,(YJ _ _).1,(YJ _ _).2,LB,VU];by_cases h0:y=0
  ·subst h0;rw[Nat.gcd_zero_right]at b;subst b;exact zy rfl (zn<|i _)
  ·have l:x % y<y:=Nat.mod_lt _ (by omega);refine zc ?_ (zc (Ab (Ab (Gj j)<|Gj d)<|w4<|by omega) ?_)
   ·rw[Mm,wc (by omega),wd<|by omega];rfl
   ·exact Ar g e L c i f y (x % y) (by omega) (by rw[jg, <-Nat.gcd_rec,jg];exact b) a (by omega)
theorem ok:Af A6 170 YK:=by
 refine BO xM<|fun(i:(Int×List Int)×(Int×List Int)) c=>?_;obtain⟨a,b⟩:=i;have c:(Bc a&&Bc b)=true:=c;rw[zi]at c;obtain⟨ha,hb⟩:=c;have d:=(B3 ha).1;have ob:=(B3 hb).1;have e:=bounds ha;have f:=bounds hb;rw[Aj]at e f;refine yq (Ai a b)<|zc d<|zc ob ?_;show Ends XF2 (L1 0 (O8 b) (PB b) (O8 a)<|PB a) _;rw[(N6 d).1,(N6 d).2,(N6 ob).1,(N6 ob).2,Aj,Aj];refine Ar (jz (zm a).natAbs (zm b).natAbs) 0 _ xP (fun ob=>yv rfl rfl (wR a b _ ?_)) ((zm b).natAbs+1) _ _ (Nat.lt_succ_self _) rfl e f;rw[Ha];rfl
end T170
theorem AdM(n:Nat)(h:n<9223372036854775808):H4 .i64 (n:Int) 1=((n % 2:Nat):Int):=by
 have e:(yf 64 (n:Int)&&&yf 64 1).toNat=n % 2:=by
  rw[BitVec.toNat_and];have a:(yf 64 (n:Int)).toNat=n:=by rw[BitVec.ofInt_natCast,BitVec.toNat_ofNat];exact Nat.mod_eq_of_lt (by omega)
  have b:(yf 64 1).toNat=2^1-1:=by decide
  rw[a,b,Nat.and_two_pow_sub_one_eq_mod]
 show zg .i64 (((yf 64 (n:Int)&&&yf 64 1).toNat:Nat):Int)=_;rw[e];exact wr _ (by omega) (by omega)
namespace T176
variable {Q:PV->Ob->Prop}
theorem VE{c:Int}(h:c≠0):1<=Ag c:=by rw[Aj];omega
theorem Zg(c:Int):∀k:Nat,Ag (c^k)=Ag c^k
 |0=>by rw[yc,yc];rfl
 |k+1=>by rw[zt,zt,JS,Zg c k]
theorem one_le_pow{c:Int}(h:1<=c):∀k:Nat,1<=c^k
 |0=>by rw[yc];decide
 |k+1=>by
  rw[zt];have:=zk (one_le_pow h k) (show 0<=c by omega);omega
theorem AcL{p c L:Int}{k:Nat}(m:1<L)(h:Ag (p*c^k)<L)(l:c=0->Ag p<=1)(g:c≠0->p≠0):Ag p<L/\(1<=k->Ag c<L)/\(2<=k->Ag (c*c)<L)/\(1<=k->Ag (p*c)<L):=by
 by_cases b:c=0
 ·subst b;have:=l rfl;have e:Ag 0=0:=rfl;exact⟨by omega,fun _=>by rw[e];omega,fun _=>by rw[y8,e];omega,fun _=>by rw[y8,e];omega⟩
 ·have hp:=VE<|g b;have a:=VE b;rw[JS,Zg]at h;rw[JS,JS];generalize Ag p=P at*;generalize Ag c=C at*;have i:1<=C^k:=one_le_pow a k;have a1:P<=P*C^k:=by
   have:=zh i (show 0<=P by omega);omega
  have d:C^k<=P*C^k:=by
   have:=zk hp (show 0<=C^k by omega);omega
  refine⟨by omega,fun f=>?_,fun f=>?_,fun f=>?_⟩
  ·obtain⟨j,rfl⟩:∃j,k=j+1:=⟨k-1,by omega⟩;rw[zt]at d h;have:=zk (one_le_pow a j) (show 0<=C by omega);omega
  ·obtain⟨j,rfl⟩:∃j,k=j+2:=⟨k-2,by omega⟩;have e:C^(j+2)=C^j*(C*C):=by rw[zt,zt,yd]
   rw[e]at d h;have:=zk (one_le_pow a j) (yb (show 0<=C by omega) (show 0<=C by omega));omega
  ·obtain⟨j,rfl⟩:∃j,k=j+1:=⟨k-1,by omega⟩;have e:P*C^(j+1)=C^j*(P*C):=by rw[zt,ye]
   rw[e]at h;have:=zk (one_le_pow a j) (yb (show 0<=P by omega) (show 0<=C by omega));omega
theorem cK{p c:Int}{k j:Nat}(h:k=2*j):p*(c*c)^j=p*c^k:=by
 subst h;rw[Int.pow_mul,zt,zt,yc,yh]
theorem nI{p c:Int}{k j:Nat}(h:k=2*j+1):p*c*(c*c)^j=p*c^k:=by
 subst h;rw[zt,Int.pow_mul,show c^2=c*c by rw[zt,zt,yc,yh],yd,zw c]
theorem Ad0{x:Int}(h:x<(18446744073709551616:Int)^(4000:Nat)):x<(Ao:Int)^9000:=
 qe h (AL (b:=Ao) (by decide)<|by omega)
theorem Ar(o1 R:Int)(hR:Ag R<(18446744073709551616:Int)^(4000:Nat))(r:∀ob,Q (.agg [.dat i64<|C1 R,.dat (.nlist u64)<|C0 R]) ob):
  ∀(f k:Nat) (p:Int) (a:AG),k<f->k<=100000->(1<=k->Bc a=true)->p*zm a^k=R->(zm a=0->Ag p<=1)->(zm a≠0->p≠0)->
   Ends XF3 (L1 (k:Int) (C1 p) (C0 p) o1 a.1 a.2) Q
 |0,k,p,a,h,_,_,_,_,_=>by omega
 |f+1,k,p,a,D,w,A,i,t,m=>by
  have C:(1:Int)<(18446744073709551616:Int)^(4000:Nat):=qe (show(1:Int)<18446744073709551616^(1:Nat)by decide) (AL (b:=18446744073709551616) (by decide) (by omega));rw[<-i]at hR;obtain⟨s1,s2,s3,s4⟩:=AcL C hR t m;by_cases h0:k=0
  ·subst h0;rw[yc,y7]at i;subst i;exact zo (Al ..) (zy (by simp)<|zn<|r _)
  ·have v:Bc (C1 p,C0 p)=true:=D5<|Ad0 s1;have j:Bc a=true:=A (by omega);have x:Int.fdiv (k:Int) ((2:Int)^(1:Nat))=((k/2:Nat):Int):=by
    rw[yz _<|by decide];rfl
   have s:(Fm (C1 p,C0 p) a,FB (C1 p,C0 p) a)=Dc (p*zm a):=by
    show Dc (zm (Dc p)*zm a)=_;rw[CF]
   have l:Fm (C1 p,C0 p) (a.1,a.2)=C1 (p*zm a):=wi Prod.fst s;have o:FB (C1 p,C0 p) (a.1,a.2)=C0 (p*zm a):=wi Prod.snd s;have n:zm (FL a a)=zm a*zm a:=DN a a;have u:∀q:Int,1<k->q*(zm a*zm a)^(k/2)=p*zm a^k->(zm a=0->Ag q<=1)->(zm a≠0->q≠0)->Ends XF3 (L1 ((k/2:Nat):Int) (C1 q) (C0 q) o1 (Fm (a.1,a.2) (a.1,a.2))<|FB (a.1,a.2) (a.1,a.2)) Q:=by
    intro q e g B y;refine Ar o1 R (by rw[i]at hR;exact hR) r f (k/2) q (FL a a) (by omega) (by omega) (fun _=>D5<|Ad0<|s3<|by omega) (by rw[n,g,i]) (fun z=>B ?_)<|fun z=>y ?_
    ·rw[n]at z;rcases Int.mul_eq_zero.1 z with z|z<;>exact z
    ·rintro z2;rw[n,z2]at z;exact z rfl
   have st:∀q:Int,k=1->q=R->Ends XF3 (L1 ((k/2:Nat):Int) (C1 q) (C0 q) o1 a.1 a.2) Q:=by
    intro q e g;subst e g;exact zo (Al ..) (zy (by simp)<|zn<|r _)
   refine zo (Al ..) (zc (w4<|by omega) ?_);rw[AdM k (by omega),x,l,o];refine zr (fun c=>?_)<|fun c=>?_
   ·have c:((k % 2:Nat):Int)=1:=by simpa using c
    refine zc (Ab v j)<|zr (fun d=>zc (Ab j j)<|zc rfl ?_)<|fun d=>zc rfl ?_
    ·have d:=w6 d;refine u _ (by omega) (nI<|by omega) (fun z=>by rw[z,y8];decide)<|fun z=>?_;exact Int.mul_ne_zero (m z) z
    ·have d:=w7 d;have e:k=1:=by omega
     refine st _ e ?_;rw[<-i,e,zt,yc,yh]
   ·have c:((k % 2:Nat):Int)≠1:=by simpa using c
    refine zr (fun d=>zc (Ab j j)<|zc rfl ?_)<|fun d=>?_
    ·have d:=w6 d;exact u _ (by omega) (cK<|by omega) t m
    ·have d:=w7 d;omega
theorem yE:C9 XF3:=Aa T106n.ok<|Aa T127.ok AI
theorem ok:Af A6 176 iD:=by
 refine BO yE<|fun(i:(Int×List Int)×Int) b=>?_;obtain⟨a,k⟩:=i;have b:(Bc a&&(decide (0<=k)&&decide (k<=100000)&&decide (Ag (Sp.pI (zm a) k)<(18446744073709551616:Int)^(4000:Nat))))=true:=b;rw[zi,zi,zi,w5,w5,w5,S1]at b;obtain⟨ha,⟨k0,k1⟩,hR⟩:=b;obtain⟨n,rfl⟩:=qg k0;have c:CW 1=C0 1:=by rw[EH];rfl
 refine yq (Ai a n)<|zc rfl ?_;rw[c];refine Ar (Q:=Ad iD (a,(n:Int))) 0 (zm a^n) hR (fun ob=>yv rfl rfl ?_) (n+1) n 1 a (by omega) (by omega) (fun _=>ha) (yh _) (fun _=>by decide) (fun _=>by decide);show Dc _=Dc (Sp.pI (zm a) (n:Int));rw[S1];rfl
end T176
end Go.Pe
namespace Go.Sp
theorem PF{l:List Int}(h:Kp l=true):l.length<=20000/\Ay B9 l:=by
 unfold Kp at h;rw[zi,w5,jc]at h;exact⟨h.1,fun d a=>by
  have:=h.2 d a;rw[zi,w5,w5]at this;exact this⟩
theorem Lv{l:List Int}(b:l.length<=20000)(a:Ay B9 l):Kp l=true:=by
 unfold Kp;rw[zi,w5,jc];exact⟨b,fun d c=>by
  have:=a d c;rw[zi,w5,w5];exact this⟩
theorem yH{l:List Int}(h:hR l=true):l.length<=9000/\Ay B9 l:=by
 unfold hR at h;rw[zi,w5]at h;exact⟨h.2,(PF h.1).2⟩
theorem Sb{l:List Int}(b:l.length<=9000)(a:Ay B9 l):hR l=true:=by
 unfold hR;rw[Lv (by omega) a,qj];exact w4 b
theorem Bp{l:List Int}(h:Ba l=true):l.length<=20000/\Ay B9 l/\nz l:=by
 unfold Ba at h;rw[zi]at h;have:=PF h.1;exact⟨this.1,this.2,by
  have:=h.2;unfold nzW at this;have:l.getLast?≠some 0:=w6 this;exact this⟩
theorem fX{l:List Int}(b:l.length<=20000)(a:Ay B9 l)(c:nz l):Ba l=true:=by
 unfold Ba nzW;rw[Lv b a,qj];exact w4 c
theorem G9{l:List Int}(h:Ay B9 l)(i:Nat):0<=l.getD i 0/\l.getD i 0<1000000000:=KR (by decide) h i
theorem FN{l:List Int}{x:Int}(h:Ay B9 l)(b:0<=x/\x<1000000000):Ay B9 (l++[x]):=Fs h (fun d a=>by rw[qd]at a;subst a;exact b)
theorem Cr(l:List Int)(x:Int):val B9 (l++[x])=val B9 l+(B9:Int)^l.length*x:=by
 rw[C8];simp[val]
theorem Kb(i:Nat)(c:Int):(B9:Int)^(i+1)*c=(B9:Int)^i*(1000000000*c):=by
 rw[zt,yd];rfl
theorem Ft{l:List Int}(h:Ay B9 l):Ax l=BL (An l):=ZY (by decide) h
theorem Ot{n:Int}{k:Nat}(h0:0<=n)(h:n<(B9:Int)^k):(BL n).length<=k:=by
 refine N0 B9 (by decide) k n.toNat n.toNat ?_;have e:((B9^k:Nat):Int)=(B9:Int)^k:=Int.natCast_pow ..;rw[<-e]at h;generalize B9^k=P at*;omega
theorem F8{n:Int}{k:Nat}(h0:0<=n)(h:n<(B9:Int)^k)(d:k<=9000):Ba (BL n)=true/\hR (BL n)=true/\An (BL n)=n/\(BL n).length<=k:=by
 have c:=Ot h0 h;have a:=FR (b:=B9) (by decide) n;exact⟨fX (by omega) a (YX (by decide) n),Sb (by omega) a,Dd (by decide) h0,c⟩
end Go.Sp
namespace Go.Pe
open Sp
open Go.Det
theorem SE:C9 qQ:=fun g sp h=>by cases h
namespace T193
theorem Ar{Q:PV->Ob->Prop}:∀(n:Nat) (w:List Int),w.length=n->n<=20000->(∀ob,Q (.dat li<|Ax w) ob)->Ends qQ (L1 w) Q
 |0,w,d,_,a=>by
  have:w=[]:=z7.1 d;subst this;exact zo (Al ..) (zy (by simp)<|zn<|a _)
 |n+1,w,d,g,a=>by
  obtain⟨p,x,rfl⟩:∃p x,w=p++[x]:=by
   have b:w≠[]:=by rintro rfl;simp at d
   exact⟨w.dropLast,w.getLast b,(qm b).symm⟩
  have hp:p.length=n:=by simpa using d
  have e:zg .i64 (((p++[x]).length:Int)-1)=(n:Int):=by rw[wr _ (by omega)<|by omega];omega
  have f:(p++[x]).getD n 0=x:=DZ _ _ _ _ hp;have t1:(p++[x]).take n=p:=by rw[<-hp];exact jj
  refine zo (Al ..) (zc (w4<|by omega) ?_);rw[e,zf,f,t1];refine zc (by simp;omega) (zr (fun c=>zc (by simp;omega) ?_)<|fun c=>?_)
  ·have c:x=0:=by simpa using c
   subst c;rw[I7]at a;exact Ar n p hp (by omega) a
  ·have c:x≠0:=by simpa using c
   rw[IK<|aM c]at a;exact zn<|a _
theorem ok:Af A6 193 SU:=by
 refine BO SE<|fun(w:List Int) a=>?_;have a:w.length<=20000:=w6 a;exact yq (Ai w)<|Ar w.length w rfl a (fun ob=>yv rfl rfl rfl)
end T193
theorem Ua:C9 fJ:=Aa T193.ok AI
theorem T155.ok:Af A6 155 IM:=by
 refine BO Ua<|fun(i:Bool×List Int) hi=>?_;obtain⟨n,w⟩:=i;refine yq (T155.Ai n w)<|zc hi<|zr (fun c=>zn<|yv rfl rfl ?_)<|fun c=>zn<|yv rfl rfl ?_
 ·show(decide (((Ax w).length:Int)>0),Ax w)=(CH n w,Ax w);unfold CH;rw[c,qj];congr 1;rw[decide_eq_decide];constructor
  ·intro h a;rw[a]at h;simp at h
  ·intro h;have:(Ax w).length≠0:=fun a=>h<|z7.1 a
   omega
 ·show(false,Ax w)=(CH n w,Ax w);unfold CH;rw[c];rfl
namespace T157
theorem Ar{Q:PV->Ob->Prop}(a b:List Int)(k:Ay ze a)(h:Ay ze b)(l:a.length=b.length)(n:b.length<=20000)(f:∀ob,Q (.dat i64<|Cg (An a)<|An b) ob):∀(i:Nat),i<=a.length->a.drop i=b.drop i->Ends qQ (L1 a b<|(i:Int)-1) Q
 |0,o,g=>by
  have g:a=b:=g;have:Cg (An a) (An b)=0:=by rw[g];unfold Cg;simp
  rw[this]at f;exact zo (Al ..) (zy (by simp)<|zn<|f _)
 |i+1,o,g=>by
  have m:(((i+1:Nat):Int)-1)=(i:Int):=by omega
  have j:a.drop i=a.getD i 0::a.drop (i+1):=Cq (by omega);have db:b.drop i=b.getD i 0::a.drop (i+1):=by rw[g];exact Cq (by omega)
  rw[m];refine zo (Al ..) (zc (by simp) ?_);rw[zf];refine zc (by simp;omega) (zc (by simp;omega)<|zr (fun d=>?_) (fun d=>zc (by simp;omega)<|zc (by simp;omega)<|zr (fun c=>?_)<|fun c=>?_))
  ·have d:=w6 d;have:=JF (b:=ze) (by decide) k h j db d;have e:Cg (An a) (An b)= -1:=by unfold Cg;exact wd this
   rw[e]at f;exact zn<|f _
  ·have c:=w6 c;have:=JF (b:=ze) (by decide) h k db j c;have e:Cg (An a) (An b)=1:=by unfold Cg An;rw[wc (by omega),wd<|by omega]
   rw[e]at f;exact zn<|f _
  ·have c:=w7 c;have d:=w7 d;rw[wr ((i:Int)-1) (by omega)<|by omega];exact Ar a b k h l n f i (by omega) (by rw[j,db,show a.getD i 0=b.getD i 0 by omega])
theorem ok:Af A6 157 ZO:=by
 refine BO SE<|fun(i:List Int×List Int) g=>?_;obtain⟨a,b⟩:=i;have g:(Ba a&&Ba b)=true:=g;rw[zi]at g;obtain⟨a1,a2,a3⟩:=Bp g.1;obtain⟨b1,b2,b3⟩:=Bp g.2;have f:∀ob,Ad ZO (a,b) (.dat i64<|Cg (An a)<|An b) ob:=fun ob=>yv rfl rfl rfl
 refine yq (Ai a b)<|zr (fun c=>zr (fun d=>?_)<|fun d=>?_)<|fun c=>?_
 ·have d:=w6 d;have e:Cg (An a) (An b)= -1:=by unfold Cg;exact wd (Fa (by decide) a2 b2 b3 (by omega))
  rw[e]at f;exact zn<|f _
 ·have d:=w7 d;have c:(a.length:Int)≠b.length:=by simpa using c
  have:=Fa (b:=ze) (by decide) b2 a2 a3 (by omega);have e:Cg (An a) (An b)=1:=by
   unfold Cg An;rw[wc (by omega),wd<|by omega]
  rw[e]at f;exact zn<|f _
 ·have c:(a.length:Int)=b.length:=by simpa using c
  rw[wr _ (by omega)<|by omega];exact Ar a b a2 b2 (by omega) b1 f a.length (by omega) (by rw[q9,jh<|by omega])
end T157
theorem dF{x y o c:Int}(d:0<=x/\x<1000000000)(h:0<=y/\y<1000000000)(j:0<=o/\o<1000000000)(i:0<=c/\c<1000000000):
  zg .i64 (zg .i64 (o+zg .i64 (x*y))+c)=o+x*y+c/\qt (o+x*y+c) 1000000000=(o+x*y+c) % 1000000000/\zg .i64 (yt (o+x*y+c) 1000000000)=(o+x*y+c)/1000000000/\
  (0<=(o+x*y+c)/1000000000/\(o+x*y+c)/1000000000<1000000000)/\(0<=(o+x*y+c) % 1000000000/\(o+x*y+c) % 1000000000<1000000000):=by
 have h0:0<=x*y:=yb d.1 h.1;have k:x*y<=999999999*999999999:=by
  have a:=zh (show y<=999999999 by omega) d.1;have b:=zk (show x<=999999999 by omega) (show(0:Int)<=999999999 by omega);omega
 generalize x*y=P at*;have e:zg .i64 P=P:=wr _ (by omega) (by omega);have f:zg .i64 (o+P)=o+P:=wr _ (by omega) (by omega);have g:yt (o+P+c) 1000000000=(o+P+c)/1000000000:=zu (by omega);refine⟨?_,z6 (by omega),?_,by omega,by omega⟩
 ·rw[e,f];exact wr _ (by omega) (by omega)
 ·rw[g];exact wr _ (by omega) (by omega)
namespace T159
variable {Q:PV->Ob->Prop}
theorem A2(x y:List Int)(n i:Nat)(F:i<x.length)(L:n=x.length+y.length)(l:x.length<=9000)(f:y.length<=9000)(s:Ay ze x)(t:Ay ze y)(p:List Int)(hp:p.length=i+y.length)(b:Ay ze p)
  (u:∀q c,q.length=i+y.length->Ay ze q->(0<=c/\c<1000000000)->zd ze q+(ze:Int)^(i+y.length)*c=zd ze p+(ze:Int)^i*(x.getD i 0*zd ze y)->Ends fJ (L1 x y n ((i+1:Nat):Int)<|(q++[c])++zl (n-(i+y.length+1)) 0) Q):∀(k j:Nat) (q:List Int) (c:Int),j+k=y.length->q.length=i+j->Ay ze q->(0<=c/\c<1000000000)->zd ze q+(ze:Int)^(i+j)*c=zd ze (p.take<|i+j)+(ze:Int)^i*(x.getD i 0*zd ze (y.take j))->
  Ends fJ (L2 x y n i c j<|q++(p.drop (i+j)++zl (n-(i+y.length)) 0)) Q
 |0,j,q,c,e,a,m,g,o=>by
  have e:j=y.length:=by omega
  subst e;have d:zg .i64 ((i:Int)+(y.length:Int))=((i+y.length:Nat):Int):=by rw[wr _ (by omega)<|by omega];omega
  have h:=wn (i:=i) (by omega);have C:p.drop (i+y.length)=[]:=jh (by omega);have A:(q++zl (n-(i+y.length)) (0:Int)).getD (i+y.length) 0=0:=by
   have:n-(i+y.length)=(n-(i+y.length+1))+1:=by omega
   rw[this,List.replicate_succ];exact DZ _ _ _ _ a
  refine zo (AH ..) (zy (by simp) ?_);rw[d,h,zf,C,qn,A,Int.zero_add,wr c (by omega) (by omega),Jt q n _ c a<|by omega];refine zc (by simp;omega) (zc (by simp;omega) (zc (by simp;omega)<|zc (by simp;omega)<|u q c a m g ?_));rw[o,zj (by omega),yi]
 |k+1,j,q,c,e,a,m,g,o=>by
  have D:=G9 s i;have G:=G9 t j;have w:=G9 b<|i+j;have r:p.drop (i+j)=p.getD (i+j) 0::p.drop (i+j+1):=Cq (by omega);have d:zg .i64 ((i:Int)+(j:Int))=((i+j:Nat):Int):=by rw[wr _ (by omega)<|by omega];omega
  have h:=wn (i:=j) (by omega);have lo:(q++(p.drop (i+j)++zl (n-(i+y.length)) (0:Int))).length=n:=by simp;omega
  have N:(q++(p.drop (i+j)++zl (n-(i+y.length)) (0:Int))).getD (i+j) 0=p.getD (i+j) 0:=by
   rw[r,List.cons_append];exact DZ _ _ _ _ a
  have s1:∀z,(q++(p.drop (i+j)++zl (n-(i+y.length)) (0:Int))).set (i+j) z=(q++[z])++(p.drop (i+(j+1))++zl (n-(i+y.length)) 0):=by
   intro z;rw[r,List.cons_append,DL _ _ _ _ a,ya];rfl
  obtain⟨H,J,v,K,E⟩:=dF D G w g;refine zo (AH ..) (zc (by simp;omega) ?_);rw[d,h,zf,zf,zf,N,H,J,v,s1];have t1:(decide ((0:Int)<=((i+j:Nat):Int))&&decide (((i+j:Nat):Int)<(n:Int)))=true:=by simp;omega
  refine zc t1 (zc (w4<|by rw[lo];omega)<|zc (by simp;omega) (zc (by simp;omega)<|zc rfl (zc t1<|zc (w4<|by rw[lo];omega)<|zc rfl ?_)));refine A2 x y n i F L l f s t p hp b u k (j+1) _ _ (by omega) (by simp;omega) (FN m E) K ?_;have I:i+(j+1)=(i+j)+1:=by omega
  have M:(ze:Int)^i*(x.getD i 0*((ze:Int)^j*y.getD j 0))=(ze:Int)^(i+j)*(x.getD i 0*y.getD j 0):=by
   rw[ji,yd,ye<|x.getD i 0]
  have B:(p.getD (i+j) 0+x.getD i 0*y.getD j 0+c) % 1000000000+1000000000*((p.getD (i+j) 0+x.getD i 0*y.getD j 0+c)/1000000000)=x.getD i 0*y.getD j 0+p.getD (i+j) 0+c:=by
   generalize x.getD i 0*y.getD j 0=P;omega
  rw[I,Cr,a,Kb,y9, <-zx,B,AJ _ p<|i+j,AJ _ y j,zx,zx,zx<|x.getD i 0,zx,M];omega
theorem Ar(x y:List Int)(n:Nat)(h:n=x.length+y.length)(b:x.length<=9000)(a:y.length<=9000)(l:Ay ze x)(m:Ay ze y)(o:∀ob,Q (.dat li<|BL<|An x*An y) ob):∀(k i:Nat) (p:List Int),i+k=x.length->p.length=i+y.length->Ay ze p->zd ze p=zd ze (x.take i)*zd ze y->
  Ends fJ (L1 x y n i<|p++zl (n-(i+y.length)) 0) Q
 |0,i,p,j,hp,e,d=>by
  have j:i=x.length:=by omega
  subst j;have t:p++zl (n-(x.length+y.length)) (0:Int)=p:=by rw[h,Nat.sub_self];simp
  have f:An p=An x*An y:=by
   rw[yi]at d;exact d
  rw[t];refine zo (Al ..) (zy (by simp) ?_);rw[zj<|by omega];refine zc ?_<|zn ?_
  ·simp;omega
  ·rw[Ft e,f];exact o _
 |k+1,i,p,j,hp,e,d=>by
  refine zo (Al ..) (zc (by simp;omega) ?_);have:=A2 (Q:=Q) x y n i (by omega) h b a l m p hp e (fun q c s g r f=>by
   have:=Ar x y n h b a l m o k (i+1) (q++[c]) (by omega) (by simp;omega) (FN g r) (by
    rw[Cr,s,f,d,AJ,Int.add_mul,yd])
   rw[show i+1+y.length=i+y.length+1 by omega]at this;exact this) y.length 0 (p.take i) 0 (by omega) (by simp;omega) (AQ e i) (by decide) (by simp[zd])
  rw[Nat.add_zero, <-ya,yw]at this;exact this
theorem ok:Af A6 159 Y7:=by
 refine BO Ua<|fun(i:List Int×List Int) a=>?_;obtain⟨x,y⟩:=i;have a:(Sp.hR x&&Sp.hR y)=true:=a;rw[zi]at a;obtain⟨x1,x2⟩:=yH a.1;obtain⟨y1,y2⟩:=yH a.2;have b:zg .i64 ((x.length:Int)+(y.length:Int))=((x.length+y.length:Nat):Int):=by rw[wr _ (by omega)<|by omega];omega
 refine yq (Ai x y) ?_;conv=>zeta
 rw[b,zf];refine zc (by simp;omega) ?_;have:=Ar (Q:=Ad Y7 (x,y)) x y (x.length+y.length) rfl x1 y1 x2 y2 (fun ob=>yv rfl rfl rfl) x.length 0 (zl y.length 0) (by omega) (by simp) (fun d c=>by rw[(List.mem_replicate.1 c).2];decide) (by rw[MT];simp[zd]);rw[Nat.zero_add,List.replicate_append_replicate,show y.length+(x.length+y.length-y.length)=x.length+y.length by omega]at this;exact this
end T159
theorem eN{r x d:Int}(a:0<d/\d<1000000000)(hr:0<=r/\r<d)(b:0<=x/\x<1000000000):
  zg .i64 (zg .i64 (r*1000000000)+x)=r*1000000000+x/\zg .i64 (yt (r*1000000000+x) d)=(r*1000000000+x)/d/\qt (r*1000000000+x) d=(r*1000000000+x) % d/\
  (0<=(r*1000000000+x)/d/\(r*1000000000+x)/d<1000000000)/\(0<=(r*1000000000+x) % d/\(r*1000000000+x) % d<d)/\(r*1000000000+x)/d*d+(r*1000000000+x) % d=r*1000000000+x:=by
 have h:=yn (r*1000000000+x) d;rw[zw]at h;have q0:0<=(r*1000000000+x)/d:=qk (by omega) (by omega);have q1:(r*1000000000+x)/d<1000000000:=qi a.1 (by omega);refine⟨?_,?_,z6 (by omega),⟨q0,q1⟩,⟨yo _ (by omega),yj _ a.1⟩,h⟩
 ·rw[wr (r*1000000000) (by omega)<|by omega];exact wr _ (by omega) (by omega)
 ·rw[zu<|by omega];exact wr _ (by omega) (by omega)
namespace T192
variable {Q:PV->Ob->Prop}
theorem Ar(a:List Int)(d:Int)(h:Ay ze a)(g:0<d/\d<1000000000)(v:a.length<=20000)(f:∀q r ob,Ay ze q->(0<=r/\r<d)->An a=An q*d+r->Q (.tup [.dat li<|Ax q,.dat i64 r]) ob):∀(i:Nat) (q:List Int) (r:Int),i+q.length=a.length->Ay ze q->(0<=r/\r<d)->zd ze (a.drop i)=zd ze q*d+r->
  Ends fJ (L1 a d a.length r ((i:Int)-1)<|zl i 0++q) Q
 |0,q,r,k,b,hr,c=>by
  have l:((zl 0 0++q).take a.length)=q:=by
   rw[List.replicate_zero,qn];exact zj (by omega)
  refine zo (Al ..) (zy (by simp) ?_);rw[l];refine zc (Ab (by simp;omega)<|w4<|by omega)<|zn<|f q r _ b hr c
 |i+1,q,r,k,b,hr,c=>by
  have m:(((i+1:Nat):Int)-1)=(i:Int):=by omega
  have u:=G9 h i;obtain⟨o,p,j,n,s,w⟩:=eN g hr u;have t:a.drop i=a.getD i 0::a.drop (i+1):=Cq (by omega);have es:∀x,(zl (i+1) (0:Int)++q).set i x=zl i 0++(x::q):=by
   intro x;rw[List.replicate_succ',ya];exact DL _ _ _ _ (by simp)
  rw[m];refine zo (Al ..) (zc (by simp) ?_);rw[zf,es,wr ((i:Int)-1) (by omega) (by omega),o,p,j];refine zc (by simp;omega) (zc (w4<|by omega) (zc (by simp;omega)<|zc (by simp;omega)<|zc (w4<|by omega) ?_));refine Ar a d h g v f i _ _ (by simp;omega) (fun x e=>?_) s ?_
  ·rcases qz.1 e with rfl|e
   ·exact n
   ·exact b x e
  ·rw[t];show a.getD i 0+(1000000000:Int)*zd ze (a.drop<|i+1)=((r*1000000000+a.getD i 0)/d+(1000000000:Int)*zd ze q)*d+(r*1000000000+a.getD i 0) % d;rw[c,Int.add_mul,zx,yd];omega
theorem ok:Af A6 192 XJ:=by
 refine BO Ua<|fun(i:List Int×Int) c=>?_;obtain⟨a,d⟩:=i;have c:(Kp a&&decide (0<d)&&decide (d<1000000000))=true:=c;rw[zi,zi,w5,w5]at c;obtain⟨⟨ha,d0⟩,d1⟩:=c;obtain⟨hl,hda⟩:=PF ha;refine yq (Ai a d) ?_;conv=>zeta
 rw[zf,wr ((a.length:Int)-1) (by omega)<|by omega];refine zc (by simp;omega) ?_;have:=Ar (Q:=Ad XJ (a,d)) a d hda ⟨d0,d1⟩ hl (fun q r ob f hr g=>?_) a.length [] 0 (by simp) (fun x e=>by cases e) ⟨qv _,d0⟩ (by rw[q9];simp[zd])
 ·rw[ql]at this;exact this
 ·refine yv rfl rfl ?_;show(Ax q,r)=(BL<|An a/d,An a % d);obtain⟨u1,u2⟩:=(yp (a:=An a) (b:=d) (r:=r) (q:=An q) d0).2 ⟨by rw[zw d];omega,hr.1,hr.2⟩;rw[Ft f,u1,u2]
end T192
theorem sD:C9 MM:=
 Aa T157.ok (Aa T193.ok<|Aa T192.ok<|Aa T159.ok AI)
theorem Uh{t x y w:Int}(c:0<=t/\t<1000000000)(f:0<=x/\x<1000000000)(h:0<=y/\y<1000000000)(i:0<=w/\w<=1000000000):
  zg .i64 (zg .i64 (t*x)+w)=t*x+w/\qt (t*x+w) 1000000000=(t*x+w) % 1000000000/\zg .i64 (yt (t*x+w) 1000000000)=(t*x+w)/1000000000/\
  zg .i64 ((t*x+w)/1000000000+1)=(t*x+w)/1000000000+1/\zg .i64 (y-(t*x+w) % 1000000000)=y-(t*x+w) % 1000000000/\(0<=(t*x+w)/1000000000/\(t*x+w)/1000000000<1000000000)/\(0<=(t*x+w) % 1000000000/\(t*x+w) % 1000000000<1000000000):=by
 have h0:0<=t*x:=yb c.1 f.1;have g:t*x<=999999999*999999999:=by
  have a:=zh (show x<=999999999 by omega) c.1;have b:=zk (show t<=999999999 by omega) (show(0:Int)<=999999999 by omega);omega
 generalize t*x=P at*;have d:zg .i64 P=P:=wr _ (by omega) (by omega);have e:yt (P+w) 1000000000=(P+w)/1000000000:=zu (by omega);refine⟨?_,z6 (by omega),?_,wr _ (by omega) (by omega),wr _ (by omega) (by omega),by omega,by omega⟩
 ·rw[d];exact wr _ (by omega) (by omega)
 ·rw[e];exact wr _ (by omega) (by omega)
theorem eB(w r:List Int)(i:Nat)(h:i<w.length):(w++r).getD i 0=w.getD i 0:=by
 rw[yk,yk,List.getElem?_append_left h]
namespace T154
variable {Q:PV->Ob->Prop}
theorem gW{lo w z:List Int}{h:Int}{j i:Nat}(a:lo.length=j)(b:i<w.length):(lo++(w++h::z)).getD (i+j) 0=w.getD i 0:=by
 rw[HB _ _ _ _ a,eB _ _ _ b]
theorem sW{lo w z:List Int}{h:Int}{j i:Nat}(x:Int)(a:lo.length=j)(b:i<w.length):(lo++(w++h::z)).set (i+j) x=lo++(w.set i x++h::z):=by
 rw[Uj _ _ _ _ _ a,List.set_append_left _ _ b]
theorem gH{lo w z:List Int}{h:Int}{j n:Nat}(a:lo.length=j)(b:w.length=n):(lo++(w++h::z)).getD (n+j) 0=h:=by
 rw[HB _ _ _ _ a];exact DZ _ _ _ _ b
theorem sH{lo w z:List Int}{h:Int}{j n:Nat}(x:Int)(a:lo.length=j)(b:w.length=n):(lo++(w++h::z)).set (n+j) x=lo++(w++x::z):=by
 rw[Uj _ _ _ _ _ a];congr 1;exact DL _ _ _ _ b
theorem OA(w z:List Int)(h:Int)(a:zd ze z=0):zd ze (w++h::z)=zd ze w+(ze:Int)^w.length*h:=by
 rw[C8];show _+_*(h+(ze:Int)*zd ze z)=_;rw[a,y8,qo]
theorem CN(o a e:Nat)(A D v lo z:List Int)(n j:Nat)(t h' X:Int)(R:v.length=n)(I:n<=9000)(l:lo.length=j)(P:j<=9000)(C:n+j<a)(F:j<e)(x:j<A.length)(L:Ay ze v)(J:zd ze z=0)(u:Ay ze z)(T: -2000000000<=h'/\h'<=2000000000)
  (O:0<=X/\X<(ze:Int)^n) (y:a=j+n+1+z.length)
  (m:∀r:List Int,r.length=n+1+z.length->Ay ze r->zd ze r=X->Ends MM (L2 o v n a e (zg .i64<|(j:Int)-1) (A.set j t) (lo++r) D) Q):
  ∀(k i:Nat) (w:List Int) (c:Int),i+k=n->w.length=n->Ay ze w->(0<=c/\c<=1)->zd ze w+(ze:Int)^n*h'=X-zd ze v+zd ze (v.take i)-(ze:Int)^i*c->
   Ends MM (L5 o v n a e j t c i A (lo++(w++h'::z)) D) Q
 |0,i,w,c,E,s,q,M,K=>by
  have E:i=n:=by omega
  subst E;have B:zg .i64 ((j:Int)+(i:Int))=((i+j:Nat):Int):=by rw[wr _ (by omega)<|by omega];omega
  have H:v.take i=v:=zj (by omega);rw[H]at K;have a1:=AD (b:=ze) (by decide) q;have a2:=Bw (b:=ze) (by decide) q;rw[s]at a2;have hp:=AR (b:=ze) (by decide) i;have G:zd ze w+(ze:Int)^i*(h'+c)=X:=by rw[zx];omega
  have h:h'+c=0:=by
   rcases Int.lt_trichotomy (h'+c) 0 with g|g|g
   ·have:=zh (show h'+c<= -1 by omega)<|zp hp;rw[jk,y7]at this;omega
   ·exact g
   ·have:=zh (show 1<=h'+c by omega)<|zp hp;rw[y7]at this;omega
  have f:i+j<(lo++(w++h'::z)).length:=by simp;omega
  refine zo (EG ..) (zy (by simp) ?_);rw[B,zf,zf,gH l s,sH _ l s,wr (h'+c) (by omega) (by omega),h];have t1:(decide ((0:Int)<=((i+j:Nat):Int))&&decide (((i+j:Nat):Int)<(a:Int)))=true:=by simp;omega
  refine zc t1 (zc (w4 f)<|zc t1<|zc (w4 f)<|zc (by simp;omega)<|zc (w4 x)<|m _ (by simp;omega) (Fs q<|fun d p=>?_) ?_)
  ·rcases qz.1 p with rfl|p
   ·decide
   ·exact u d p
  ·rw[OA _ _ _ J,s, <-G,h]
 |k+1,i,w,c,E,s,q,M,K=>by
  have W:=G9 L i;have Y:=G9 q i;have B:zg .i64 ((i:Int)+(j:Int))=((i+j:Nat):Int):=by rw[wr _ (by omega)<|by omega];omega
  have U:=wn (i:=i) (by omega);have S:zg .i64 (zg .i64 (w.getD i 0+v.getD i 0)+c)=w.getD i 0+v.getD i 0+c:=by
   rw[wr (w.getD i 0+v.getD i 0) (by omega)<|by omega];exact wr _ (by omega) (by omega)
  have N:qt (w.getD i 0+v.getD i 0+c) 1000000000=(w.getD i 0+v.getD i 0+c) % 1000000000:=z6 (by omega);have G:zg .i64 (yt (w.getD i 0+v.getD i 0+c) 1000000000)=(w.getD i 0+v.getD i 0+c)/1000000000:=by
   rw[zu<|by omega];exact wr _ (by omega) (by omega)
  have f:i+j<(lo++(w++h'::z)).length:=by simp;omega
  refine zo (EG ..) (zc (by simp;omega) ?_);rw[B,U,zf,zf,gW l (by omega),sW _ l (by omega),S,N,G];have t1:(decide ((0:Int)<=((i+j:Nat):Int))&&decide (((i+j:Nat):Int)<(a:Int)))=true:=by simp;omega
  refine zc t1 (zc (w4 f)<|zc (by simp;omega)<|zc rfl (zc t1<|zc (w4 f)<|zc rfl ?_));refine CN o a e A D v lo z n j t h' X R I l P C F x L J u T O y m k (i+1) _ _ (by omega) (by simp[s]) (Hk q i<|by show 0<=_/\_<(1000000000:Int);omega) (by omega) ?_;rw[HX _ _ _ _ (by omega),Kb,AJ];have V:(ze:Int)^i*((w.getD i 0+v.getD i 0+c) % 1000000000-w.getD i 0)=(ze:Int)^i*v.getD i 0+(ze:Int)^i*c-(ze:Int)^i*(1000000000*((w.getD i 0+v.getD i 0+c)/1000000000)):=by
   rw[<-zx, <-qf];congr 1;omega
  omega
theorem Ca(g a b:Nat)(m p v lo z:List Int)(n j:Nat)(t h W:Int)(U:v.length=n)(F:n<=9000)(e:lo.length=j)(R:j<=9000)(A:n+j<a)(D:j<b)(q:j<m.length)(K:Ay ze v)(Z:0<=h/\h<1000000000)(r:a=j+n+1+z.length)(L:0<=t/\t<1000000000)
  (h0:∀(w:List Int) (h':Int),w.length=n->Ay ze w->0<=h'->zd ze w+(ze:Int)^n*h'=W-t*zd ze v->Ends MM (L2 g v n a b (zg .i64<|(j:Int)-1) (m.set j t) (lo++(w++h'::z)) p) Q)
  (J:∀(w:List Int) (h':Int),w.length=n->Ay ze w->h'<0-> -2000000000<=h'->zd ze w+(ze:Int)^n*h'=W-t*zd ze v->Ends MM (L5 g v n a b j (zg .i64<|t-1) 0 0 m (lo++(w++h'::z)) p) Q):
  ∀(k i:Nat) (w:List Int) (c:Int),i+k=n->w.length=n->Ay ze w->(0<=c/\c<=1000000000)->zd ze w+(ze:Int)^n*h=W-t*zd ze (v.take i)+(ze:Int)^i*c->
   Ends MM (L4 g v n a b j t c i m (lo++(w++h::z)) p) Q
 |0,i,w,c,B,l,u,H,I=>by
  have B:i=n:=by omega
  subst B;have y:zg .i64 ((j:Int)+(i:Int))=((i+j:Nat):Int):=by rw[wr _ (by omega)<|by omega];omega
  have E:v.take i=v:=zj (by omega);rw[E]at I;have f:i+j<(lo++(w++h::z)).length:=by simp;omega
  have s:i+j<(lo++(w++(h-c)::z)).length:=by simp;omega
  have M:zd ze w+(ze:Int)^i*(h-c)=W-t*zd ze v:=by rw[qf];omega
  refine zo (CD ..) (zy (by simp) ?_);rw[y,zf,zf,gH e l,wr (h-c) (by omega) (by omega),sH _ e l,gH e l];have t1:(decide ((0:Int)<=((i+j:Nat):Int))&&decide (((i+j:Nat):Int)<(a:Int)))=true:=by simp;omega
  refine zc t1<|zc (w4 f)<|zc t1<|zc (w4 f)<|zc t1<|zc (w4 s)<|zr (fun d=>?_)<|fun d=>?_
  ·have d:=w6 d;exact J w (h-c) l u d (by omega) M
  ·have d:=w7 d;exact zc (by simp;omega) (zc (w4 q)<|h0 w (h-c) l u (by omega) M)
 |k+1,i,w,c,B,l,u,H,I=>by
  have V:=G9 K i;have Y:=G9 u i;obtain⟨O,S,N,T,X,m6,m7⟩:=Uh L V Y H;have y:zg .i64 ((i:Int)+(j:Int))=((i+j:Nat):Int):=by rw[wr _ (by omega)<|by omega];omega
  have e2:=wn (i:=i) (by omega);have f:i+j<(lo++(w++h::z)).length:=by simp;omega
  have t1:(decide ((0:Int)<=((i+j:Nat):Int))&&decide (((i+j:Nat):Int)<(a:Int)))=true:=by simp;omega
  have go:∀(x o:Int),(0<=x/\x<1000000000)->(0<=o/\o<=1000000000)->c+(x-w.getD i 0)=1000000000*o-t*v.getD i 0->Ends MM (L4 g v n a b j t o ((i+1:Nat):Int) m (lo++(w.set i x++h::z)) p) Q:=by
   intro x o hx C G;refine Ca g a b m p v lo z n j t h W U F e R A D q K Z r L h0 J k (i+1) _ _ (by omega) (by simp[l]) (Hk u i hx) C ?_;rw[HX _ _ _ _ (by omega),Kb,AJ,zx t,ye t];have e6:(ze:Int)^i*c+(ze:Int)^i*(x-w.getD i 0)=(ze:Int)^i*(1000000000*o)-(ze:Int)^i*(t*v.getD i 0):=by
    rw[<-zx, <-qf,G]
   omega
  refine zo (CD ..) (zc (by simp;omega) ?_);rw[y,e2,zf,zf,gW e (by omega),O,S,N,T,X,sW _ e (by omega),sW _ e<|by omega];refine zc (by simp;omega)<|zc t1<|zc (w4 f)<|zc rfl (zc rfl (zr (fun d=>?_)<|fun d=>?_))
  ·have d:=w6 d;rw[wr (w.getD i 0-(t*v.getD i 0+c) % 1000000000+1000000000) (by omega)<|by omega];refine zc t1 (zc (w4 f) (go _ _ (by omega) (by omega) ?_));generalize t*v.getD i 0=P at*;omega
  ·have d:=w7 d;refine zc t1 (zc (w4 f) (go _ _ (by omega) (by omega) ?_));generalize t*v.getD i 0=P at*;omega
theorem sA(i h f:Nat)(t C v lo e:List Int)(n j:Nat)(F:v.length=n)(z:n<=9000)(A:lo.length=j)(J:j<=9000)(hr:n+1<=e.length)(L:h=j+e.length)(y:j<f)(s:j<t.length)(D:Ay ze v)(E:Ay ze e)(B:zd ze (e.drop<|n+1)=0)
  (k:∀(q:Int) (r:List Int),r.length=e.length->Ay ze r->(0<=q/\q<1000000000)->zd ze r<zd ze v->zd ze r=zd ze e-q*zd ze v->Ends MM (L2 i v n h f (zg .i64<|(j:Int)-1) (t.set j q) (lo++r) C) Q)
  (q:Int) (M:0<=q/\q<1000000000) (N:zd ze e<(q+1)*zd ze v) (V:q*zd ze v<zd ze e+zd ze v):
  Ends MM (L4 i v n h f j q 0 0 t (lo++e) C) Q:=by
 have l:e=e.take n++e.getD n 0::e.drop (n+1):=by
  rw[<-Cq (by omega)];exact(yw n e).symm
 have gh:=G9 E n;have I:=AQ E n;have o:=E5 E<|n+1;have m:(e.take n).length=n:=by rw[zz];omega
 have O:(e.drop<|n+1).length=e.length-(n+1):=zq ..;have hW:zd ze e=zd ze (e.take n)+(ze:Int)^n*e.getD n 0:=by
  conv=>lhs;rw[l]
  rw[OA _ _ _ B,m]
 have p:=Bw (b:=ze) (by decide) D;rw[F]at p;have P:=AD (b:=ze) (by decide) D;have S:=AD (b:=ze) (by decide) E;have hp:=AR (b:=ze) (by decide) n;rw[Int.add_mul,yh]at N;rw[l];refine Ca i h f t C v lo (e.drop<|n+1) n j q (e.getD n 0) (zd ze e) F z A J (by omega) y s D gh (by omega) M (fun w h' a b c d=>?_) (fun w h' a b c W d=>?_) n 0 (e.take n) 0 (by omega) m I (by decide) (by rw[<-hW];simp[zd])
 ·have K:=AD (b:=ze) (by decide) b;have H:h'=0:=by
   rcases yg 0 h' with g|g
   ·have:=zh (show 1<=h' by omega)<|zp hp;omega
   ·omega
  refine k q _ (by simp;omega) (Fs b<|fun x G=>?_) M ?_ ?_
  ·rcases qz.1 G with rfl|G
   ·rw[H];decide
   ·exact o x G
  ·rw[OA _ _ _ B,a,d];omega
  ·rw[OA _ _ _ B,a,d]
 ·have K:=Bw (b:=ze) (by decide) b;rw[a]at K;have u:zd ze e-q*zd ze v<0:=by
   have:=zh (show h'<= -1 by omega)<|zp hp;rw[jk,y7]at this;omega
  have T:1<=q:=by
   rcases yg 0 q with g|g
   ·exact g
   ·have:q=0:=by omega
    subst this;rw[jo]at u;omega
  rw[wr (q-1) (by omega)<|by omega];refine CN i h f t C v lo (e.drop<|n+1) n j (q-1) h' (zd ze e-q*zd ze v+zd ze v) F z A J (by omega) y s D B o (by omega) (by omega) (by omega) (fun r U b' R=>?_) n 0 w 0 (by omega) a b (by decide) (by rw[d];simp[zd]<;>omega);refine k (q-1) r (by omega) b' (by omega) (by omega) ?_;rw[R,Int.sub_mul,yh];omega
theorem Dm(l e i:Nat)(p u v lo h:List Int)(a2 a1 a0:List Int)(k j:Nat)(O:v.length=k+2)(E:k+2<=9000)(w:lo.length=j)(X:j<=9000)(hr:k+3<=h.length)(n:e=j+h.length)(D:j<i)(G:j<p.length)(x:Ay ze v)(z:Ay ze h)(K:zd ze (h.drop<|k+3)=0)(I:1<=v.getD (k+1) 0)
  (F:h.getD (k+2) 0<=v.getD (k+1) 0) (U:zd ze h<1000000000*zd ze v)
  (m:∀(q:Int) (r:List Int),r.length=h.length->Ay ze r->(0<=q/\q<1000000000)->zd ze r<zd ze v->zd ze r=zd ze h-q*zd ze v->Ends MM (L2 l v ((k+2:Nat):Int) e i (zg .i64<|(j:Int)-1) (p.set j q) (lo++r) u) Q):
  ∀(f:Nat) (q r:Int),0<=q->q<f->q<=2000000000000000000->(0<=r/\r<1000000000)->q*v.getD (k+1) 0+r=h.getD (k+2) 0*1000000000+h.getD (k+1) 0->zd ze h<(q+1)*zd ze v->
   Ends MM (L3 l v ((k+2:Nat):Int) e i j a2 a1 a0 e v j ((k+2:Nat):Int) q r p (lo++h) u) Q
 |0,q,r,h0,hf,_,_,_,_=>by omega
 |f+1,q,r,h0,hf,V,hr1,Z,M=>by
  have y:=G9 x k;have gv1:=G9 x<|k+1;have gu2:=G9 z k;have gu1:=G9 z<|k+1;have W:=AR (b:=ze) (by decide) k;have hW:=uC ze h k (by omega) K;have hV:=rG ze v k O;have S:=AD (b:=ze) (by decide)<|AQ z k;have s:=Bw (b:=ze) (by decide)<|AQ z k;have H:=AD (b:=ze) (by decide)<|AQ x k;have t:=Bw (b:=ze) (by decide)<|AQ x k;have T:=AD (b:=ze) (by decide) x;rw[zz,qc<|by omega]at s t;have exit:∀q R:Int,0<=q->q<1000000000->q*v.getD (k+1) 0+R=h.getD (k+2) 0*1000000000+h.getD (k+1) 0->zd ze h<(q+1)*zd ze v->q*v.getD k 0<=R*1000000000+h.getD k 0->Ends MM (L4 l v ((k+2:Nat):Int) e i j q 0 0 p (lo++h) u) Q:=by
   intro q R q0 q1 N P J;refine sA l e i p u v lo h (k+2) j O E w X hr n D G x z K m q ⟨q0,q1⟩ P ?_;rw[hW,hV];exact U0 W ⟨H,t⟩ S ⟨q0,q1⟩ I y.1 N J
  have e1:zg .i64 (((k+2:Nat):Int)-2)=(k:Int):=by rw[wr _ (by omega)<|by omega];omega
  have e2:zg .i64 (((k+2:Nat):Int)-1)=((k+1:Nat):Int):=by rw[wr _ (by omega)<|by omega];omega
  have e3:zg .i64 (zg .i64 ((j:Int)+((k+2:Nat):Int))-2)=((k+j:Nat):Int):=by
   rw[wr ((j:Int)+((k+2:Nat):Int)) (by omega) (by omega),wr _ (by omega)<|by omega];omega
  have g3:(lo++h).getD (k+j) 0=h.getD k 0:=HB _ _ _ _ w;have Y:(decide ((0:Int)<=((k+1:Nat):Int))&&decide (((k+1:Nat):Int)<(v.length:Int)))=true:=by simp;omega
  have C:zd ze h<q*zd ze v->Ends MM (.ite (decide (zg .i64 (r+v.getD (k+1) 0)>=(1000000000:Int))) (L4 l v ((k+2:Nat):Int) e i j (zg .i64<|q-1) 0 0 p (lo++h) u)<|L3 l v ((k+2:Nat):Int) e i j a2 a1 a0 e v j ((k+2:Nat):Int) (zg .i64<|q-1) (zg .i64<|r+v.getD (k+1) 0) p (lo++h) u) Q:=by
   intro J;have hW0:=AD (b:=ze) (by decide) z;have hq1:1<=q:=by
    rcases yg 0 q with g|g
    ·exact g
    ·have:q=0:=by omega
     subst this;rw[jo]at J;omega
   have A:(q-1)*v.getD (k+1) 0+(r+v.getD (k+1) 0)=h.getD (k+2) 0*1000000000+h.getD (k+1) 0:=by rw[Int.sub_mul,yh];omega
   have o:zd ze h<(q-1+1)*zd ze v:=by rw[show q-1+1=q by omega];exact J
   rw[wr (q-1) (by omega) (by omega),wr (r+v.getD (k+1) 0) (by omega)<|by omega];refine zr (fun c=>?_)<|fun c=>?_
   ·have c:=w6 c;have L:q-1<1000000000:=by
     rcases yg (q-1) 1000000000 with g|g
     ·exact g
     ·have a:=zk g (show 0<=v.getD (k+1) 0 by omega);have b:=zk F (show(0:Int)<=1000000000 by omega);omega
    refine exit (q-1) _ (by omega) L A o ?_;have a:=zh (show v.getD k 0<=999999999 by omega) (show 0<=q-1 by omega);omega
   ·have c:=w7 c;exact Dm l e i p u v lo h a2 a1 a0 k j O E w X hr n D G x z K I F U m f (q-1) _ (by omega) (by omega) (by omega) (by omega) A o
  refine zo (B5 ..) ?_;conv=>zeta
  rw[e1,e2,e3,zf,zf,zf,g3];refine zr (fun c=>zc Y<|C ?_) (fun c=>zc (by simp;omega) (zc (by simp;omega)<|zc (by simp;omega)<|zr (fun d=>zc Y<|C ?_)<|fun d=>?_))
  ·have c:=w6 c;have:=zk c T;omega
  ·have c:=w7 c;have d:=w6 d;have a:=zh (show v.getD k 0<=999999999 by omega) h0;have b:=yb h0 y.1;rw[wr (q*v.getD k 0) (by omega) (by omega),wr (r*1000000000) (by omega) (by omega),wr _ (by omega)<|by omega]at d;have:=WD (B:=ze) (u0:=h.getD (k+2) 0) (u1:=h.getD (k+1) 0) (u2:=h.getD k 0) W H s h0 (v1:=v.getD (k+1) 0) (v2:=v.getD k 0) (r:=r) Z d;rw[<-hW, <-hV]at this;exact this
  ·have c:=w7 c;have d:=w7 d;have a:=zh (show v.getD k 0<=999999999 by omega) h0;have b:=yb h0 y.1;rw[wr (q*v.getD k 0) (by omega) (by omega),wr (r*1000000000) (by omega) (by omega),wr _ (by omega)<|by omega]at d;exact exit q r h0 (by omega) Z M (by omega)
end T154
theorem GZ{w:List Int}(c:Ay ze w)(a:Sp.nz w){k:Nat}(b:w.length=k+1):0<w.getD k 0/\w.getD k 0<1000000000:=by
 have g:=G9 c k;refine⟨?_,g.2⟩;have e:w.getLast?=some (w.getD k 0):=by
  rw[qu,b,yu,yk,qx<|by omega];rfl
 unfold Sp.nz at a;rw[e]at a;have:w.getD k 0≠0:=fun h=>a (by rw[h])
 omega
theorem EJ(d:Int):zd ze [d]=d:=by simp[zd]
namespace T154
variable {Q:PV->Ob->Prop}
theorem A2(v:List Int)(k h:Nat)(f:Int)(U:0<f/\f<1000000000)(C:v.length=k+2)(S:h<=9000)(W:k+2<=h)(s:Ay ze v)(J:1<=v.getD (k+1) 0)(Z:Int)
  (hq:∀(u c:List Int) ob,Ay ze u->Ay ze c->zd ze u<zd ze v->Z=zd ze u+zd ze v*zd ze c->Q (.tup [.dat li<|Ax c,.dat li<|BL<|zd ze u/f]) ob):
  ∀(t:Nat) (u c:List Int),t+c.length=h-(k+2)+1->u.length=h+1->Ay ze u->Ay ze c->zd ze (u.drop t)<zd ze v->Z=zd ze u+zd ze v*((ze:Int)^t*zd ze c)->
   Ends MM (L2 1 v ((k+2:Nat):Int) (h+1) (h-(k+2)+1) ((t:Int)-1) (zl t 0++c) u [f]) Q
 |0,u,c,hl,V,w,y,n,he=>by
  have n:zd ze u<zd ze v:=n;have m:=Bw (b:=ze) (by decide) s;rw[C]at m;have E:zd ze (u.drop<|k+2)=0:=JU (b:=ze) (by decide) w (by omega) (by omega);have I:zd ze (u.take<|k+2)=zd ze u:=by
   rw[Cs ze u (k+2) (by omega),E,y8,qo]
  have ht:(zl 0 0++c).take (h-(k+2)+1)=c:=by
   rw[List.replicate_zero,qn];exact zj (by omega)
  have R:=H2<|AQ w<|k+2;have hlr:(Ax<|u.take<|k+2).length<=9000:=by
   rw[Ft<|AQ w<|k+2];refine Nat.le_trans (Ot (k:=k+2) (AD (by decide)<|AQ w<|k+2) ?_) (by omega);show zd ze (u.take<|k+2)<_;rw[I];omega
  have M:An (Ax<|u.take<|k+2)=zd ze u:=by
   show zd ze (Ax _)=_;rw[JO,I]
  refine zo (AH ..) (zy (by simp) ?_);rw[zf,ht,M];refine zc (by simp;omega) (zc rfl (zc rfl (zc (by simp;omega)<|zc (Ab (Ab (Lv (by omega) R)<|w4 U.1)<|w4 U.2)<|zc (by simp;omega)<|zn<|hq u c _ w y n<|by rw[he,yc,yh])))
 |j+1,u,c,hl,V,w,y,n,he=>by
  obtain⟨lo,r,rfl,o⟩:∃lo r:List Int,u=lo++r/\lo.length=j:=⟨u.take j,u.drop j,(yw j u).symm,by rw[zz];omega⟩;have H:Ay ze lo:=fun d g=>w d<|List.mem_append.2<|.inl g
  have e:Ay ze r:=fun d g=>w d<|List.mem_append.2<|.inr g
  have hrl:r.length=h+1-j:=by rw[ym]at V;omega
  have p:∀z:List Int,(lo++z).drop j=z:=fun z=>by rw[<-o];exact List.drop_left
  have T:r=r.getD 0 0::r.drop 1:=by
   have:=Cq (l:=r) (i:=0) (by omega);rw[List.drop_zero]at this;exact this
  have P:(lo++r).drop (j+1)=r.drop 1:=by rw[Nat.add_comm j 1,Nat.add_comm 1 j, <-List.drop_drop,p]
  rw[P]at n;have g0:=G9 e 0;have X:zd ze r=r.getD 0 0+1000000000*zd ze (r.drop 1):=by
   conv=>lhs;rw[T]
   rfl
  have m:=Bw (b:=ze) (by decide) s;rw[C]at m;have hrV:zd ze r<1000000000*zd ze v:=by rw[X];omega
  have E:zd ze (r.drop<|k+3)=0:=by
   refine JU (b:=ze) (by decide) e (by omega) ?_;have ep:(ze:Int)^(k+3)=(ze:Int)^(k+2)*1000000000:=zt ..;rw[ep];omega
  have gu0:=G9 e<|k+2;have gu1:=G9 e<|k+1;have N:=G9 e k;have gv1:=G9 s<|k+1;have gv2:=G9 s k;have hP:=AR (b:=ze) (by decide) k;have hW:=uC ze r k (by omega) E;have hV:=rG ze v k C;have x:=Bw (b:=ze) (by decide)<|AQ e k;have hv':=AD (b:=ze) (by decide)<|AQ s k;rw[zz,qc<|by omega]at x;have Y:r.getD (k+2) 0<=v.getD (k+1) 0:=by
   have a1:=Cs ze (r.drop 1) (k+1) (by rw[zq];omega);have a2:(r.drop 1).drop (k+1)=r.getD (k+2) 0::r.drop (k+3):=by
    rw[List.drop_drop,show 1+(k+1)=k+2 by omega];exact Cq (by omega)
   have a3:zd ze (r.getD (k+2) 0::r.drop (k+3))=r.getD (k+2) 0:=by
    show r.getD (k+2) 0+(ze:Int)*zd ze (r.drop<|k+3)=_;rw[E];omega
   rw[a2,a3]at a1;have b1:zd ze v=zd ze (v.take<|k+1)+(ze:Int)^(k+1)*v.getD (k+1) 0:=by
    rw[<-AJ,zj<|by omega]
   have K:=Bw (b:=ze) (by decide)<|AQ s<|k+1;rw[zz,qc<|by omega]at K;have c1:=AD (b:=ze) (by decide)<|AQ (E5 e 1)<|k+1;have c2:(ze:Int)^(k+1)*r.getD (k+2) 0<(ze:Int)^(k+1)*(v.getD (k+1) 0+1):=by
    rw[zx,y7];omega
   have:=z8 c2 (zp<|AR (by decide)<|k+1);omega
  have D:∀(q:Int) (A:List Int),A.length=r.length->Ay ze A->(0<=q/\q<1000000000)->zd ze A<zd ze v->zd ze A=zd ze r-q*zd ze v->Ends MM (L2 1 v ((k+2:Nat):Int) (h+1) (h-(k+2)+1) (zg .i64<|(j:Int)-1) ((zl (j+1) 0++c).set j q) (lo++A) [f]) Q:=by
   intro q A h1 h2 h3 h4 h5;have es:(zl (j+1) (0:Int)++c).set j q=zl j 0++(q::c):=by
    rw[List.replicate_succ',ya];exact DL _ _ _ _ (by simp)
   rw[es,wr ((j:Int)-1) (by omega)<|by omega];refine A2 v k h f U C S W s J Z hq j (lo++A) (q::c) (by simp;omega) (by simp;omega) (Fs H h2) (fun d g=>?_) (by rw[p];exact h4) ?_
   ·rcases qz.1 g with rfl|g
    ·exact h3
    ·exact y d g
   ·rw[he,C8,C8,o,h5,Kb];show zd ze lo+(ze:Int)^j*zd ze r+zd ze v*((ze:Int)^j*(1000000000*zd ze c))=zd ze lo+(ze:Int)^j*(zd ze r-q*zd ze v)+zd ze v*((ze:Int)^j*(q+1000000000*zd ze c));have x1:zd ze v*((ze:Int)^j*q)=(ze:Int)^j*(q*zd ze v):=by
     rw[ye,zw (zd ze v) q]
    rw[qf,zx ((ze:Int)^j) q,zx<|zd ze v,x1];omega
  have e0:(((j+1:Nat):Int)-1)=(j:Int):=by omega
  have M:zg .i64 ((j:Int)+((k+2:Nat):Int))=((k+2+j:Nat):Int):=by rw[wr _ (by omega)<|by omega];omega
  have e2:zg .i64 (((k+2+j:Nat):Int)-1)=((k+1+j:Nat):Int):=by rw[wr _ (by omega)<|by omega];omega
  have e3:zg .i64 (((k+2:Nat):Int)-1)=((k+1:Nat):Int):=by rw[wr _ (by omega)<|by omega];omega
  have g1:(lo++r).getD (k+2+j) 0=r.getD (k+2) 0:=HB _ _ _ _ o;have g2:(lo++r).getD (k+1+j) 0=r.getD (k+1) 0:=HB _ _ _ _ o;have L:(lo++r).length=h+1:=V;have F:zg .i64 (zg .i64 (r.getD (k+2) 0*1000000000)+r.getD (k+1) 0)=r.getD (k+2) 0*1000000000+r.getD (k+1) 0:=by
   rw[wr (r.getD (k+2) 0*1000000000) (by omega)<|by omega];exact wr _ (by omega) (by omega)
  have a:0<=r.getD (k+2) 0*1000000000+r.getD (k+1) 0:=by omega
  have G:0<=(r.getD (k+2) 0*1000000000+r.getD (k+1) 0)/v.getD (k+1) 0:=qk a (by omega);have hqs:(r.getD (k+2) 0*1000000000+r.getD (k+1) 0)/v.getD (k+1) 0<=r.getD (k+2) 0*1000000000+r.getD (k+1) 0:=Int.ediv_le_self _ a;have B:=yn (r.getD (k+2) 0*1000000000+r.getD (k+1) 0)<|v.getD (k+1) 0;have O:=yo (r.getD (k+2) 0*1000000000+r.getD (k+1) 0) (show v.getD (k+1) 0≠0 by omega);have hm1:=yj (r.getD (k+2) 0*1000000000+r.getD (k+1) 0) (show 0<v.getD (k+1) 0 by omega);rw[zw]at B;have et:zg .i64 (yt (r.getD (k+2) 0*1000000000+r.getD (k+1) 0)<|v.getD (k+1) 0)=(r.getD (k+2) 0*1000000000+r.getD (k+1) 0)/v.getD (k+1) 0:=by
   rw[zu a];exact wr _ (by omega) (by omega)
  have em:qt (r.getD (k+2) 0*1000000000+r.getD (k+1) 0) (v.getD (k+1) 0)=(r.getD (k+2) 0*1000000000+r.getD (k+1) 0) % v.getD (k+1) 0:=z6 a;have K:(decide ((0:Int)<=((k+1:Nat):Int))&&decide (((k+1:Nat):Int)<((k+2:Nat):Int)))=true:=by simp;omega
  have bn:decide (v.getD (k+1) 0≠0)=true:=w4 (by omega);rw[e0];refine zo (AH ..) (zc (by simp) ?_);rw[C,M,e2,e3,zf,zf,zf,g1,g2,F,et,em,L];refine zc (by simp;omega) (zc (w4<|by omega) (zc (by simp;omega)<|zc (w4<|by omega)<|zc K<|zc bn<|zc K<|zc bn ?_));refine Dm 1 (h+1) (h-(k+2)+1) _ [f] v lo r _ _ _ k j C (by omega) o (by omega) (by omega) (by omega) (by omega) (by simp;omega) s e E J Y hrV D (((r.getD (k+2) 0*1000000000+r.getD (k+1) 0)/v.getD (k+1) 0).toNat+1) _ _ G (by omega) (by omega) ⟨O,by omega⟩ B ?_;rw[hW,hV];exact Nj hP (by decide) G hv' gv2.1 x N.2 B hm1
theorem Ar(a v:List Int)(n b:Nat)(f:Int)(h:a.length=b)(c:b<=9000)(g:n<=b)(k:∀u:List Int,u.length=b+1->Ay ze u->zd ze u=zd ze a*f->Ends MM (L2 1 v n (b+1) (b-n+1) (((b-n+1:Nat):Int)-1) (zl (b-n+1) 0) u [f]) Q):
  ∀(m:Nat) (u:List Int),u.length+m=b+1->Ay ze u->zd ze u=zd ze a*f->Ends MM (L1 a 1 v n u.length u [f]) Q
 |0,u,l,j,i=>by
  have e:zg .i64 ((a.length:Int)+1)=((b+1:Nat):Int):=by rw[wr _ (by omega)<|by omega];omega
  have o:zg .i64 ((u.length:Int)-(n:Int))=((b-n+1:Nat):Int):=by rw[wr _ (by omega)<|by omega];omega
  have p:zg .i64 (((b-n+1:Nat):Int)-1)=((b-n+1:Nat):Int)-1:=wr _ (by omega) (by omega);refine zo (Al ..) ?_;conv=>zeta
  rw[e,o,p,zf];refine zy (by simp;omega) (zc (by simp;omega) ?_);have d:u.length=b+1:=by omega
  rw[d];exact k u d j i
 |m+1,u,l,j,i=>by
  have e:zg .i64 ((a.length:Int)+1)=((b+1:Nat):Int):=by rw[wr _ (by omega)<|by omega];omega
  refine zo (Al ..) ?_;conv=>zeta
  rw[e];refine zc (by simp;omega) (zc (by simp;omega) ?_);have:=Ar a v n b f h c g k m (u++[0]) (by simp;omega) (FN j<|by decide) (by rw[Cr,y8,qo];exact i);rw[ym]at this;exact this
set_option maxHeartbeats 1000000 in
theorem ok:Af A6 154 R4:=by
 refine BO sD<|fun(i:List Int×List Int) C=>?_;obtain⟨a,b⟩:=i;have C:(Ba a&&Ba b&&decide (a.length<=9000)&&decide (b.length<=9000)&&decide (0<An b))=true:=C;rw[zi,zi,zi,zi,w5,w5,w5]at C;obtain⟨⟨⟨⟨na,nb⟩,la9⟩,lb9⟩,j⟩:=C;obtain⟨_,da,za⟩:=Bp na;obtain⟨_,db,zb⟩:=Bp nb;have j:0<zd ze b:=j;have o:=AD (b:=ze) (by decide) da;have W:∀q r ob,q=BL (An a/An b)->r=BL (An a % An b)->Ad R4 (a,b) (PV.tup [PV.dat li q,PV.dat li r]) ob:=fun q r ob F O=>yv rfl rfl (Prod.ext F O)
 have m:b≠[]:=by rintro rfl;simp[zd]at j
 have T:b.length≠0:=fun h=>m<|z7.1 h
 refine yq (Ai a b) (zc (by rw[na,nb];rfl)<|zr (fun c=>?_)<|fun c=>?_)
 ·have c:=w6 c;have y:zd ze a<zd ze b:=by
   unfold Cg at c;have c:(if zd ze a<zd ze b then(-1:Int)else if zd ze a>zd ze b then 1 else 0)<0:=c;split at c
   ·assumption
   ·split at c<;>omega
  refine zn<|yv rfl rfl ?_;show([],a)=(BL<|zd ze a/zd ze b,BL<|zd ze a % zd ze b);rw[qh o y,Int.emod_eq_of_lt o y];exact Prod.ext rfl (IF (by decide) da za)
 ·have c:=w7 c;have hge:zd ze b<=zd ze a:=by
   rcases yg (zd ze a) (zd ze b)with g|g
   ·have:Cg (An a) (An b)= -1:=wd g;omega
   ·exact g
  have hll:b.length<=a.length:=by
   rcases Nat.lt_or_ge a.length b.length with g|g
   ·have:=Fa (b:=ze) (by decide) da db zb g;omega
   ·exact g
  refine zr (fun s=>?_)<|fun s=>?_
  ·have s:b.length=1:=by
    have:(b.length:Int)=1:=by simpa using s
    omega
   obtain⟨d,rfl⟩:=jf.1 s;have S:0<d/\d<1000000000:=GZ (k:=0) db zb rfl;have m0:=yo (zd ze a) (show d≠0 by omega);have m1:=yj (zd ze a) S.1;refine zc rfl (zc (Ab (Ab (Lv (by omega) da)<|w4 S.1)<|w4 S.2)<|zc rfl (zn<|W _ _ _ ?_ ?_))
   ·show BL (zd ze a/d)=BL (zd ze a/zd ze [d]);rw[EJ]
   ·show Ax [zd ze a % d]=BL (zd ze a % zd ze [d]);rw[EJ,Ft<|fun x p=>by rw[qd]at p;subst p;show 0<=_/\_<(1000000000:Int);omega];show BL (zd ze [_])=_;rw[EJ]
  ·have s:b.length≠1:=by
    have:(b.length:Int)≠1:=by simpa using s
    omega
   obtain⟨k,D⟩:∃k,b.length=k+2:=⟨b.length-2,by omega⟩;obtain⟨y0,y1⟩:=GZ (k:=k+1) db zb D;have F:zg .i64 (((k+2:Nat):Int)-1)=((k+1:Nat):Int):=by rw[wr _ (by omega)<|by omega];omega
   have O:zg .i64 (b.getD (k+1) 0+1)=b.getD (k+1) 0+1:=wr _ (by omega) (by omega);have f0:0<1000000000/(b.getD (k+1) 0+1):=by
    have:=Int.le_ediv_of_mul_le (a:=1) (b:=1000000000) (c:=b.getD (k+1) 0+1) (by omega) (by omega);omega
   have f1:1000000000/(b.getD (k+1) 0+1)<1000000000:=qi (by omega) (by omega);have f2:1000000000/(b.getD (k+1) 0+1)*(b.getD (k+1) 0+1)<=1000000000:=Int.ediv_mul_le _ (by omega);have e3:zg .i64 (yt 1000000000<|b.getD (k+1) 0+1)=1000000000/(b.getD (k+1) 0+1):=by
    rw[zu<|by decide];exact wr _ (by omega) (by omega)
   rw[D,F,zf,O,e3];generalize 1000000000/(b.getD (k+1) 0+1)=f at*;have N:Ay ze [f]:=fun x p=>by rw[qd]at p;subst p;show 0<=_/\_<(1000000000:Int);omega
   have L:An [f]=f:=EJ f;rw[L];have R:(ze:Int)^(k+1)<=zd ze b*f:=by
    have a1:=DF (b:=ze) (by decide) db zb m;rw[D,show k+2-1=k+1 by omega]at a1;have a2:=zh (show 1<=f by omega)<|zp j;omega
   have H:zd ze b*f<(ze:Int)^(k+2):=by
    have b1:zd ze b=zd ze (b.take<|k+1)+(ze:Int)^(k+1)*b.getD (k+1) 0:=by
     rw[<-AJ,zj<|by omega]
    have b2:=Bw (b:=ze) (by decide)<|AQ db<|k+1;rw[zz,qc<|by omega]at b2;have hp:=AR (b:=ze) (by decide)<|k+1;have b3:zd ze b<(ze:Int)^(k+1)*(b.getD (k+1) 0+1):=by
     rw[zx,y7];omega
    have b4:=yx b3 f0;have b5:=zh f2<|zp hp;have b6:(ze:Int)^(k+2)=(ze:Int)^(k+1)*1000000000:=zt ..;rw[yd,zw (b.getD (k+1) 0+1) f]at b4;omega
   have P:0<=zd ze b*f:=yb (zp j) (by omega);have A:0<=zd ze a*f:=yb o (by omega);have M:zd ze a*f<(ze:Int)^(a.length+1):=by
    have a1:=Bw (b:=ze) (by decide) da;have a2:=yx a1 f0;have a3:=zh (show f<=1000000000 by omega) (zp<|AR (b:=ze) (by decide) a.length);have a4:(ze:Int)^(a.length+1)=(ze:Int)^a.length*1000000000:=zt ..;omega
   have vd:=FR (b:=ze) (by decide)<|zd ze b*f;have U:=YX (b:=ze) (by decide)<|zd ze b*f;have E:zd ze (Sp.dg ze<|zd ze b*f)=zd ze b*f:=Dd (by decide) P;have V:=lS (b:=ze) (by decide) vd U (k:=k+1) (by rw[E];exact R) (by rw[E];exact H);have v1:=(GZ vd U V).1;have ud:=FR (b:=ze) (by decide)<|zd ze a*f;have uv:zd ze (Sp.dg ze<|zd ze a*f)=zd ze a*f:=Dd (by decide) A;have ul:=Ot (k:=a.length+1) A M;have w:Sp.hR [f]=true:=Sb (by simp) N;have bd:decide ((3*(0+(BL<|An a*f).length)+2000)*8<=562949953421312)=true:=w4 (by have:(BL<|An a*f).length<=a.length+1:=ul;omega);refine zc (by simp;omega) (zc (w4<|by omega)<|zc (by rw[Sb lb9 db,w];rfl)<|zc (by rw[Sb la9 da,w];rfl)<|zc bd ?_);have ez:j0 0 (BL<|An a*f).length=(BL<|An a*f).length:=Nat.zero_add _;have z:(BL<|An b*f).length=k+2:=V;rw[ez,qn,z];refine Ar a (BL<|An b*f) (k+2) a.length f rfl la9 (by omega) (fun u K v I=>?_) (a.length+1-(BL<|An a*f).length) (BL<|An a*f) (by have:(BL<|An a*f).length<=a.length+1:=ul;omega) ud uv;have t:=AR (b:=ze) (by decide)<|a.length-(k+2)+1;have start:zd ze (u.drop<|a.length-(k+2)+1)<zd ze (BL<|An b*f):=by
    have a1:=Cs ze u (a.length-(k+2)+1) (by omega);have a2:=AD (b:=ze) (by decide)<|AQ v<|a.length-(k+2)+1;have a3:=Bw (b:=ze) (by decide) da;have a4:=yx a3 f0;have a5:(ze:Int)^a.length=(ze:Int)^(a.length-(k+2)+1)*(ze:Int)^(k+1):=by rw[<-ji,show a.length-(k+2)+1+(k+1)=a.length by omega]
    have Z:=DF (b:=ze) (by decide) db zb m;rw[D,show k+2-1=k+1 by omega]at Z;have a7:=zk Z (show 0<=f by omega);have a8:=zh a7<|zp t;rw[a5,yd]at a4;show _<zd ze (Sp.dg ze<|zd ze b*f);rw[E];refine z8 (a:=(ze:Int)^(a.length-(k+2)+1)) ?_<|zp t;omega
   have go:=A2 (Q:=Ad R4 (a,b)) (BL<|An b*f) k a.length f ⟨f0,f1⟩ z la9 (by omega) vd (by have:0<(BL<|An b*f).getD (k+1) 0:=v1;omega) (zd ze a*f) (fun Y n ob B G l X=>by
    have J:zd ze (BL<|An b*f)=zd ze b*f:=E;rw[J]at X l;have e:zd ze Y=f*(zd ze a-zd ze n*zd ze b):=by
     have x1:zd ze b*f*zd ze n=f*(zd ze n*zd ze b):=by
      rw[zw (zd ze b) f,yd,zw<|zd ze b]
     rw[x1,zw<|zd ze a]at X;rw[qf];omega
    have h0:=AD (b:=ze) (by decide) B;have r0:0<=zd ze a-zd ze n*zd ze b:=by
     rw[e]at h0;exact Int.nonneg_of_mul_nonneg_right h0 f0
    have r1:zd ze a-zd ze n*zd ze b<zd ze b:=by
     rw[e,zw (zd ze b) f]at l;exact z8 l (by omega)
    obtain⟨u1,u2⟩:=(yp (a:=zd ze a) (b:=zd ze b) (r:=zd ze a-zd ze n*zd ze b) (q:=zd ze n) j).2 ⟨by rw[zw<|zd ze b];omega,r0,r1⟩;refine W _ _ ob ?_ ?_
    ·rw[Ft G];show BL (zd ze n)=BL (zd ze a/zd ze b);rw[u1]
    ·show BL (zd ze Y/f)=BL (zd ze a % zd ze b);rw[u2,e,qy _<|by omega]) (a.length-(k+2)+1) u [] (by simp) K v (fun x p=>by cases p) start (by rw[I];simp[zd])
   rw[ql]at go;exact go
end T154
theorem vA:C9 XG3:=Aa T154.ok AI
namespace T130
variable {Q:PV->Ob->Prop}
theorem Ar(g:Nat)(L:Int)(c:∀n:Nat,(n:Int)<L->Ba (BL (n:Int))=true/\An (BL (n:Int))=n/\(BL (n:Int)).length<=9000)(d:∀ob,Q (.dat li<|BL (g:Int)) ob):∀(f x y:Nat),y<f->jz x y=g->(x:Int)<L->(y:Int)<L->
  Ends XG3 (L1 (BL (x:Int))<|BL (y:Int)) Q
 |0,x,y,h,_,_,_=>by omega
 |f+1,x,y,m,b,j,a=>by
  obtain⟨nx,i,e⟩:=c x j;obtain⟨ny,vy,ly⟩:=c y a
  refine zo (Al ..) ?_;conv=>zeta
  by_cases h0:y=0
  ·subst h0;rw[Nat.gcd_zero_right]at b;subst b;exact zy rfl (zn<|d _)
  ·have k:x % y<y:=Nat.mod_lt _ (by omega);have l:(BL (y:Int)).length≠0:=by
    intro h;have:=z7.1 h;rw[this]at vy;simp[An,zd]at vy;omega
   rw[i,vy,VU];refine zc (by simp;omega) (zc (Ab (Ab (Ab (Ab nx ny)<|w4 e)<|w4 ly)<|w4<|by omega) ?_);exact Ar g L c d f y (x % y) (by omega) (by rw[jg, <-Nat.gcd_rec,jg];exact b) a (by omega)
theorem Wi{a:List Int}(h:Ba a=true):a=BL (An a)/\0<=An a:=by
 obtain⟨_,d,z⟩:=Bp h;exact⟨IF (by decide) d z,AD (by decide) d⟩
theorem X1(n:Nat)(h:(n:Int)<(ze:Int)^9000):Ba (BL (n:Int))=true/\An (BL (n:Int))=n/\(BL (n:Int)).length<=9000:=by
 obtain⟨a,_,b,c⟩:=F8 (n:=(n:Int)) (k:=9000) (Int.natCast_nonneg n) h (by decide);exact⟨a,b,c⟩
theorem ok:Af A6 130 Mk:=by
 refine BO vA<|fun(i:List Int×List Int) f=>?_;obtain⟨a,b⟩:=i;have f:(Ba a&&Ba b&&decide (a.length<=9000)&&decide (b.length<=9000))=true:=f;rw[zi,zi,zi,w5,w5]at f;obtain⟨⟨⟨na,nb⟩,la9⟩,lb9⟩:=f;obtain⟨ea,a0⟩:=Wi na;obtain⟨eb,b0⟩:=Wi nb;have g:An a<(ze:Int)^9000:=qe (Bw (b:=ze) (by decide) (Bp na).2.1) (AL (by decide) la9);have h:An b<(ze:Int)^9000:=qe (Bw (b:=ze) (by decide) (Bp nb).2.1) (AL (by decide) lb9);have key:∀(x y:Nat),An a=x->An b=y->Ends XG3 (L1 a b) (Ad Mk (a,b)):=by
  intro x y c d;rw[ea,eb,c,d];rw[c]at g;rw[d]at h;refine Ar (jz x y) _ X1 (fun ob=>yv rfl rfl ?_) (y+1) x y (Nat.lt_succ_self _) rfl g h;have e:Sp.gI (An<|BL (x:Int)) (An<|BL (y:Int))=((jz x y:Nat):Int):=by
   rw[(X1 x g).2.1,(X1 y h).2.1,Ha];rfl
  exact wi BL e.symm
 obtain⟨x,c⟩:=qg a0;obtain⟨y,d⟩:=qg b0;exact yq (Ai a b)<|key x y c d
end T130
theorem wC:C9 bN:=
 Aa (Hq (by kernel_rfl)<|Bb<|by kernel_rfl) (Aa (Hq (by kernel_rfl)<|Bb<|by kernel_rfl)<|Aa (Hq (by kernel_rfl)<|Bb<|by kernel_rfl)<|Aa (Hq (by kernel_rfl)<|Bb<|by kernel_rfl) AI)
theorem Fi:C9 Oi:=fun g sp h=>by cases h
namespace T201
variable {Q:PV->Ob->Prop}
theorem Ac2:∀i:Fin 10,(DG.getD i.1 0).toNat<128:=by decide
theorem Ff(s:Z)(i:Nat)(o:List Bool)(c:i<10)(d:o.length=256)(h:Ends bN (L2 s DG DG ((i+1:Nat):Int)<|o.set (DG.getD i 0).toNat true) Q):Ends bN (L2 s DG DG (i:Int) o) Q:=by
 have b:DG.length=10:=rfl;have a:=Ac2 ⟨i,c⟩;have a:(DG.getD i 0).toNat<128:=a;have e:=wn (i:=i) (by omega);refine zo (AH ..) ?_;conv=>zeta
 rw[b,e,zf,zf];exact zc (w4<|by omega) (zc (ad (by omega)<|by omega) (zy (w8<|by omega) (zc (Ab (w4<|show(0:Int)<=((DG.getD i 0).toNat:Int)by omega)<|w4<|by omega)<|zc (w4<|by omega) h)))
def Tb(o:List Bool):Prop:=o.length=256/\∀c:UInt8,o.getD c.toNat false=B4 c
theorem Cz(s t v0:Z)(v4:Int)(i:List Bool)(f:Z)(o1 b:List Bool)(g p0:List Bool)(h:Tb g):∀(w:Z),(∀ob,Q (.dat .str<|w.dropWhile B4) ob)->Ends bN (L7 s t v0 v4 i f o1 b w g p0) Q
 |[],a=>zo (D1 ..) (zy (by simp)<|zn<|a _)
 |c::r,a=>by
  have j:c.toNat<256:=c.toNat_lt;have k:(c::r).getD 0 0=c:=rfl;have e:(jt 1 (c::r)).take (qp (c::r).length 1)=r:=by show r.take ((r.length+1)-1)=r;rw[yu];exact yi
  refine zo (D1 ..) ?_;conv=>zeta
  rw[k,zf,h.2,h.1,e];refine zc (by simp) (zc (by simp)<|zc (Ab (w4<|show(0:Int)<=(c.toNat:Int)by omega)<|w4<|by omega) (zc (w4 j)<|zr (fun d=>?_)<|fun d=>zc (by simp) ?_))
  ·have d:B4 c=false:=by simpa using d
   rw[yr,wc<|by rw[d];decide]at a;exact zn<|a _
  ·have d:B4 c=true:=by simpa using d
   rw[yr,wd d]at a;exact Cz s t v0 v4 i f o1 b g p0 h r a
theorem Ca(s t v0:Z)(v4:Int)(h:List Bool)(o1 a:List Bool)(g:Tb o1):∀(n:Nat) (w:Z),w.length=n->n<=1000000->(∀ob,Q (.dat .str<|((w.reverse.dropWhile B4).reverse).dropWhile B4) ob)->Ends bN (L4 s t v0 v4 h w o1 a) Q
 |0,w,e,_,b=>by
  have:w=[]:=z7.1 e;subst this;exact zo (CD ..) (zy (by simp)<|zo (Hs ..)<|zy (by simp)<|zn<|b _)
 |n+1,w,e,l,b=>by
  obtain⟨p,c,rfl⟩:∃p c,w=p++[c]:=by
   have f:w≠[]:=by rintro rfl;simp at e
   exact⟨w.dropLast,w.getLast f,(qm f).symm⟩
  have hp:p.length=n:=by simpa using e
  have i:c.toNat<256:=c.toNat_lt;have j:zg .i64 (((p++[c]).length:Int)-1)=(n:Int):=by rw[e,wr _ (by omega)<|by omega];omega
  have k:(p++[c]).getD n 0=c:=DZ _ _ _ _ hp;have t1:(p++[c]).take n=p:=by rw[<-hp];exact jj
  have hr:(p++[c]).reverse=c::p.reverse:=by simp
  rw[hr,yr]at b;refine zo (CD ..) (zc (w4<|by omega) ?_);rw[j,zf,k,t1,zf,g.2,g.1,e];refine zc (by simp;omega) (zc (Ab (w4<|show(0:Int)<=(c.toNat:Int)by omega)<|w4<|by omega) (zc (w4 i)<|zr (fun d=>?_)<|fun d=>zc (by simp) ?_))
  ·have d:B4 c=false:=by simpa using d
   rw[wc (by rw[d];decide),List.reverse_cons,List.reverse_reverse]at b;exact Cz s t v0 v4 h _ o1 a o1 a g (p++[c]) b
  ·have d:B4 c=true:=by simpa using d
   rw[wd d]at b;exact Ca s t v0 v4 h o1 a g n p hp (by omega) b
theorem AdR{o:List Bool}(b:o.length=256)(a:∀c:Fin 256,o.getD c.1 false=(Nat.ble 48 c.1&&Nat.ble c.1 57)):Tb o:=by
 refine⟨b,fun c=>?_⟩;have:=a ⟨c.toNat,c.toNat_lt⟩;rw[show o.getD c.toNat false=_ from this];unfold B4;rw[Bool.eq_iff_iff];simp[Nat.ble_eq]
theorem ok:Af A6 201 X0:=by
 refine BO wC<|fun(i:Z×Z) a=>?_;obtain⟨s,t⟩:=i;have a:(decide (t=DG)&&decide (s.length<=1000000))=true:=a;rw[zi,w5,w5]at a;obtain⟨rfl,hl⟩:=a;have b:∀ob,Ad X0 (s,DG) (.dat .str<|((s.reverse.dropWhile B4).reverse).dropWhile B4) ob:=fun ob=>yv rfl rfl rfl
 refine yq (Ai s DG) (zr (fun c=>?_)<|fun c=>zy (by decide)<|zy (by decide) ?_)
 ·have c:s=[]:=by simpa using c
  subst c;exact zn<|b _
 ·refine Ff s 0 _ (by decide) rfl (Ff s 1 _ (by decide) rfl (Ff s 2 _ (by decide) rfl (Ff s 3 _ (by decide) rfl (Ff s 4 _ (by decide) rfl (Ff s 5 _ (by decide) rfl (Ff s 6 _ (by decide) rfl (Ff s 7 _ (by decide) rfl (Ff s 8 _ (by decide) rfl (Ff s 9 _ (by decide) rfl ?_)))))))));refine zo (AH ..) (zy (by decide)<|zc (by decide+kernel) (zc (by decide+kernel)<|zc (by decide+kernel)<|zc rfl (Ca s _ _ _ _ _ _ (AdR rfl ?_) s.length s rfl hl b)));decide+kernel
end T201
theorem wI:C9 XH1:=Aa T201.ok AI
theorem dropWhile_nil{p:UInt8->Bool}:∀ {l:Z},l.dropWhile p=[]↔l.all p=true
 |[]=>by simp
 |a::l=>by
  rw[yr,List.all_cons];cases h:p a with
  |true=>simp only[wk,qj];exact dropWhile_nil
  |false=>simp
theorem Jj{p:UInt8->Bool}:∀ {l:Z} {a:UInt8} {r:Z},l.dropWhile p=a::r->p a=false
 |[],a,r,h=>by simp at h
 |b::l,a,r,h=>by
  rw[yr]at h;cases c:p b with
  |true=>rw[c,wd rfl]at h;exact Jj h
  |false=>
   rw[c]at h;simp at h;rw[<-h.1];exact c
theorem MQ(s:Z):Qa s=[]↔Ap s=true:=by
 unfold Qa Ap;rw[dropWhile_nil,je];constructor
 ·intro h;cases b:s.reverse.dropWhile B4 with
  |nil=>have:=dropWhile_nil.1 b;rwa [je]at this
  |cons a r=>
   rw[b,List.all_cons,Jj b]at h;cases h
 ·intro h;have:s.reverse.dropWhile B4=[]:=dropWhile_nil.2 (by rwa [je]);rw[this];rfl
theorem T167.ok:Af A6 167 Xi:=by
 refine BO wI<|fun(s:Z) f=>?_;have f:s.length<=1000000:=w6 f;have a:∀v b ob,v=.bl b\/v=.dat .bool b->b=A1 s->Ad Xi s v ob:=by
  rintro v b ob (rfl|rfl) g
  ·exact yv rfl rfl g
  ·exact yv rfl rfl g
 refine yq (T167.Ai s)<|zr (fun c=>zc ?_<|zr (fun d=>zc ?_<|zr (fun e=>zn<|a _ _ _ (.inl rfl) ?_)<|fun e=>zn<|a _ _ _ (.inr rfl) ?_)<|fun d=>zn<|a _ _ _ (.inl rfl) ?_)<|fun c=>zn<|a _ _ _ (.inl rfl) ?_
 ·exact Ab (w4 rfl)<|w4 f
 ·have c:s≠[]:=by simpa using c
  have:s.length≠0:=fun h=>c<|z7.1 h
  exact w4 (by omega)
 ·have c:s≠[]:=by simpa using c
  have d:Qa s=[]:=by simpa using d
  have d:=(MQ s).1 d;have e:s.getD 0 0≠48:=by
   intro h;rw[h]at e;exact wh e (by decide)
  unfold A1;rw[d,w4 c,w4 e];rfl
 ·have c:s≠[]:=by simpa using c
  have d:Qa s=[]:=by simpa using d
  have d:=(MQ s).1 d;have e:s.getD 0 0=48:=by
   have:((s.getD 0 0).toNat:Int)=48:=by simpa using e
   exact UInt8.toNat_inj.1 (by show _=48;omega)
  unfold A1;rw[d,w4 c,w8<|by rw[e];exact fun h=>h rfl];show(s==[48])=decide (s=[48]);rw[Bool.eq_iff_iff];simp
 ·have d:¬Qa s=[]:=by simpa using d
  have d:Ap s=false:=by
   cases h:Ap s with
   |true=>exact wh ((MQ s).2 h) d
   |false=>rfl
  unfold A1;rw[d];simp
 ·have c:s=[]:=by simpa using c
  subst c;rfl
theorem T166.ok:Af A6 166 Aab:=by
 refine BO Fi<|fun(i:Z×Z) b=>?_;obtain⟨s,t⟩:=i;have b:(decide (t=[45])&&decide (s.length<=1000000))=true:=b;rw[zi,w5,w5]at b;obtain⟨rfl,hl⟩:=b;have a:s.getD 0 0≠45->(s,false)=(A8 s,Sp.preB s):=fun h=>by
  unfold A8 Sp.preB;rw[wc h,w8 h]
 refine yq (T166.Ai s [45]) ?_;conv=>zeta
 cases s with
 |nil=>exact zy (by decide) (zn<|yv rfl rfl (a<|by decide))
 |cons c r=>
  have f:(c::r).take 1=[c]:=rfl;refine zc (by simp;omega) (zc (by simp) ?_);show Ends Oi (.ite (!List.take 1 (c::r)==[45]) _ _) _;rw[f];refine zr (fun d=>zn<|yv rfl rfl (a ?_)) (fun d=>zc (by simp)<|zn<|yv rfl rfl ?_)
  ·show c≠45;rintro rfl;exact wh d (by decide)
  ·have d:c=45:=by simpa using d
   subst d;show(((jt 1 ((45:UInt8)::r)).take<|qp ((45:UInt8)::r).length 1),true)=(A8 (45::r),Sp.preB (45::r));have e:(jt 1 ((45:UInt8)::r)).take (qp ((45:UInt8)::r).length 1)=r:=by show r.take ((r.length+1)-1)=r;rw[yu];exact yi
   rw[e];rfl
theorem AaL{F:Fz}{s:Z}{c:Int}{args:List V}(h:MG F (Ae [Sh.str,Sh.int .u8] (s,c)) args):args=[.str s,.int .u8 c]:=by
 have:=h (fun _=>none) 0;simp only[Ae,Cm,Bf]at this;obtain⟨a,f,rfl,d,b,g,rfl,e,rfl⟩:=this;simp only[PR,DC,List.cons.injEq,ve]at d e;rw[d,e]
theorem T265.ok:Af A6 265 zK:=by
 refine .inr ⟨PK.indexByte.run,by kernel_rfl,fun F h args i a hp=>?_⟩;obtain⟨s,c⟩:=i;have:=AaL a;subst this;refine⟨UX<|s.findIdx? fun x=>x==c.toNat.toUInt8,rfl,fun ρ N=>?_⟩;show PR F ρ N (.dat i64<|Qs s c) _;unfold Qs;cases s.findIdx? fun x=>x==c.toNat.toUInt8 with
 |none=>simp[PR,DC,UX]
 |some i=>simp[PR,DC,UX,Det.i64]
theorem uQ:C9 XH2:=Aa T265.ok AI
theorem XQ{p:UInt8->Bool}{s:Z}{i:Nat}(h:s.findIdx? p=some i):i<s.length:=(List.findIdx?_eq_some_iff_getElem.1 h).1
theorem T124.ok:Af A6 124 pJ:=by
 refine BO uQ<|fun(i:Z×Z) e=>?_;obtain⟨s,t⟩:=i;have e:(decide (t=[47])&&decide (s.length<=1000000))=true:=e;rw[zi,w5,w5]at e;obtain⟨rfl,hl⟩:=e;have a:s.any (fun x=>x==47)=(s.findIdx? fun x=>x==47).isSome:=by
  rw[List.findIdx?_isSome]
 refine yq (T124.Ai s [47]) (zy (by decide) (zr (fun c=>?_)<|fun c=>zc (by decide) (zc (by decide)<|zc (by decide) ?_)))
 ·have c:s=[47]:=by
   have:[47]=s:=by simpa using c
   exact this.symm
  subst c;exact zc rfl (zc rfl (zc rfl (zn<|yv rfl rfl rfl)))
 ·have b:Qs s (((([47]:Z).getD 0 0).toNat:Nat):Int)=match s.findIdx? (fun x=>x==47)with
   |some i=>(i:Int)
   |none=> -1:=rfl
  cases d:s.findIdx? (fun x=>x==47)with
  |none=>
   rw[d]at b;have b:Qs s (((([47]:Z).getD 0 0).toNat:Nat):Int)= -1:=b;rw[b];refine zy (by decide)<|zn<|yv rfl rfl ?_;show(s,[],false)=(AA s,Sp.AS s,Bs s);unfold AA Sp.AS Bs;rw[a,d];rfl
  |some k=>
   rw[d]at b;have b:Qs s (((([47]:Z).getD 0 0).toNat:Nat):Int)=(k:Int):=b;have h:=XQ d;have f:zg .i64 ((k:Int)+(([47]:Z).length:Int))=((k+1:Nat):Int):=by
    show zg .i64 ((k:Int)+1)=_;rw[wr _ (by omega)<|by omega];omega
   rw[b,f,zf,zf];refine zc (by simp) (zc (by simp;omega)<|zc (by simp;omega)<|zn<|yv rfl rfl ?_);show(s.take k,(s.drop<|k+1).take<|qp s.length<|k+1,true)=(AA s,Sp.AS s,Bs s);unfold AA Sp.AS Bs;have g:(s.drop<|k+1).take (qp s.length<|k+1)=s.drop (k+1):=zj (by rw[zq];exact qw _);rw[a,d,g];rfl
namespace T152
theorem Ar{Q:PV->Ob->Prop}(s:Z)(b:Ap s=true)(k:s.length<=18)(g:∀ob,Q (.dat i64<|AE 0 s) ob):∀(r:Z) (i:Nat),s.drop i=r->i<=s.length->Ends qQ (L1 s (AE 0<|s.take i) i) Q
 |[],i,h,e=>by
  have n:i=s.length:=drop_nil h e;subst n;rw[yi];exact zo (Al ..) (zy (by simp)<|zn<|g _)
 |c::r,i,h,e=>by
  obtain⟨p,m,q⟩:=drop_cons (d:=0) h;have v:=Bg<|Bh b i;have a:(s.take i).length=i:=by rw[zz];omega
  rw[a]at v;have hp:(10:Int)^i<=10^17:=AL (by decide) (by omega);have j:B4 c=true:=by
   unfold Ap at b;rw[jc]at b;exact b c<|Pp h
  have w:=Dg j;have u:48<=c.toNat/\c.toNat<=57:=by unfold Ih at w;omega
  have l:zg .i64 (c.toNat:Int)=(c.toNat:Int):=wr _ (by omega) (by omega);have f:(10:Int)^17=100000000000000000:=by decide
  have t:zg .i64 (zg .i64 (zg .i64 (10*AE 0 (s.take i))+(c.toNat:Int))-48)=AE 0 (s.take<|i+1):=by
   rw[Nd h,C2];show _=10*AE 0 (s.take i)+((c.toNat:Int)-48);generalize AE 0 (s.take i)=D at*;rw[wr (10*D) (by omega) (by omega),wr (10*D+(c.toNat:Int)) (by omega) (by omega),wr _ (by omega)<|by omega];omega
  have o:=wn (i:=i) (by omega);refine zo (Al ..) (zc (by simp;omega) ?_);rw[zf,m,l,t,o];exact zc (by simp;omega)<|Ar s b k g r (i+1) q p
theorem ok:Af A6 152 SY:=by
 refine BO SE<|fun(s:Z) a=>?_;have a:(decide (s.length<=18)&&Ap s)=true:=a;rw[zi,w5]at a;exact yq (Ai s)<|Ar s a.2 a.1 (fun ob=>yv rfl rfl rfl) s 0 rfl (Nat.zero_le _)
end T152
theorem xI:C9 fK:=Aa T152.ok<|Aa T155.ok AI
theorem M0{neg:Bool}{w:List Int}{D:Int}(d:Ay ze w)(c:zd ze w=D):(CH neg w,Ax w)=(Sp.rN<|if neg=true then -D else D,Sp.rW<|if neg=true then -D else D):=by
 have h0:=AD (b:=ze) (by decide) d;rw[c]at h0;have f:Ax w=BL D:=by rw[Ft d];show BL (zd ze w)=_;rw[c]
 have a:BL D=[]↔D=0:=jX (by decide) h0;have e:Ag (if neg=true then -D else D)=D:=by rw[Aj];split<;>omega
 unfold CH Sp.rW Sp.rN;rw[e,f];congr 1;cases neg with
 |false=>simp;omega
 |true=>
  simp only[wk,qj,wm,a,decide_eq_decide];omega
namespace T149
variable {Q:PV->Ob->Prop}
theorem Adp:(10:Int)^9=1000000000:=by decide
theorem JJ{s:Z}{m:Nat}(a:m+9=s.length):AE 0 s=AE 0 (s.take m)*1000000000+AE 0 (s.drop m):=by
 conv=>lhs;rw[<-yw m s]
 rw[C2,EW<|s.drop m,zq,show s.length-m=9 by omega,Adp]
theorem CJ{s:Z}(b:Ap s=true)(h:s.length<=9):0<=AE 0 s/\AE 0 s<1000000000:=by
 have:=Bg b;have a:(10:Int)^s.length<=10^9:=AL (by decide) h;rw[Adp]at a;omega
theorem Cd{s:Z}(a:Ap s=true)(h:s.length<=18):Ea s=true:=by
 unfold Ea;rw[a,Bool.and_true];exact w4 h
theorem Dm(neg:Bool)(D:Int)(h:∀(w:List Int) ob,Ay ze w->zd ze w=D->Q (.agg [.dat .bool<|CH neg w,.dat li<|Ax w]) ob):∀(f:Nat) (s:Z) (o1:List Int),s.length<=f->Ap s=true->o1.length+s.length<=6000->Ay ze o1->zd ze o1+(ze:Int)^o1.length*AE 0 s=D->Ends fK (L3 s neg o1.length o1) Q:=by
 intro f;induction f with
 |zero=>
  intro s o1 n a i d c;have e:s.length<=9:=by omega
  have b:=CJ a e;have g:(o1++[BZ s]).take (j0 o1.length 1)=o1++[BZ s]:=zj (by simp);refine zo (B5 ..) (zy (by simp;omega) (zc (Cd a<|by omega)<|zc (by simp;omega) ?_));rw[g];refine zc (by simp;omega)<|zn<|h _ _ (FN d b) ?_;rw[Cr];exact c
 |succ f k=>
  intro s o1 n a i d c;by_cases e:s.length<=9
  ·have b:=CJ a e;have g:(o1++[BZ s]).take (j0 o1.length 1)=o1++[BZ s]:=zj (by simp);refine zo (B5 ..) (zy (by simp;omega) (zc (Cd a<|by omega)<|zc (by simp;omega) ?_));rw[g];refine zc (by simp;omega)<|zn<|h _ _ (FN d b) ?_;rw[Cr];exact c
  ·obtain⟨m,o⟩:∃m,m+9=s.length:=⟨s.length-9,by omega⟩;have j:zg .i64 ((s.length:Int)-9)=(m:Int):=by rw[wr _ (by omega)<|by omega];omega
   have l:(s.drop m).take (qp s.length m)=s.drop m:=zj (by rw[zq];exact qw _);have b:=CJ (B8 a m) (by rw[zq];omega);refine zo (B5 ..) (zc (by simp;omega) ?_);rw[j,zf,l];refine zc (by simp;omega) (zc (Cd (B8 a m)<|by rw[zq];omega) (zc (by simp;omega)<|zc (by simp;omega) ?_));have:=k (s.take m) (o1++[BZ<|s.drop m]) (by rw[zz];omega) (Bh a m) (by simp;omega) (FN d b) (by
    rw[Cr,ym];show zd ze o1+(ze:Int)^o1.length*AE 0 (s.drop m)+(ze:Int)^(o1.length+1)*AE 0 (s.take m)=D;rw[Kb,y9, <-zx, <-c,JJ o];congr 2;omega)
   rw[ym]at this;exact this
theorem Ca(D:Int)(h:∀(w:List Int) ob,Ay ze w->zd ze w=D->Q (.agg [.dat .bool<|CH false w,.dat li<|Ax w]) ob):∀(f:Nat) (s:Z) (o1:List Int),s.length<=f->Ap s=true->o1.length+s.length<=6000->Ay ze o1->zd ze o1+(ze:Int)^o1.length*AE 0 s=D->Ends fK (L4 s o1.length o1) Q:=by
 intro f;induction f with
 |zero=>
  intro s o1 n a i d c;have e:s.length<=9:=by omega
  have b:=CJ a e;have g:(o1++[BZ s]).take (j0 o1.length 1)=o1++[BZ s]:=zj (by simp);refine zo (CD ..) (zy (by simp;omega)<|zc (Cd a<|by omega) (zc (by simp;omega) ?_));rw[g];refine zc (by simp;omega)<|zn<|h _ _ (FN d b) ?_;rw[Cr];exact c
 |succ f k=>
  intro s o1 n a i d c;by_cases e:s.length<=9
  ·have b:=CJ a e;have g:(o1++[BZ s]).take (j0 o1.length 1)=o1++[BZ s]:=zj (by simp);refine zo (CD ..) (zy (by simp;omega)<|zc (Cd a<|by omega) (zc (by simp;omega) ?_));rw[g];refine zc (by simp;omega)<|zn<|h _ _ (FN d b) ?_;rw[Cr];exact c
  ·obtain⟨m,o⟩:∃m,m+9=s.length:=⟨s.length-9,by omega⟩;have j:zg .i64 ((s.length:Int)-9)=(m:Int):=by rw[wr _ (by omega)<|by omega];omega
   have l:(s.drop m).take (qp s.length m)=s.drop m:=zj (by rw[zq];exact qw _);have b:=CJ (B8 a m) (by rw[zq];omega);refine zo (CD ..) (zc (by simp;omega) ?_);rw[j,zf,l];refine zc (by simp;omega) (zc (Cd (B8 a m)<|by rw[zq];omega) (zc (by simp;omega)<|zc (by simp;omega) ?_));have:=k (s.take m) (o1++[BZ<|s.drop m]) (by rw[zz];omega) (Bh a m) (by simp;omega) (FN d b) (by
    rw[Cr,ym];show zd ze o1+(ze:Int)^o1.length*AE 0 (s.drop m)+(ze:Int)^(o1.length+1)*AE 0 (s.take m)=D;rw[Kb,y9, <-zx, <-c,JJ o];congr 2;omega)
   rw[ym]at this;exact this
theorem Ar(neg:Bool)(s:Z)(a:Ap s=true)(i:s.length<=5999)(d:∀(w:List Int) ob,Ay ze w->zd ze w=AE 0 s->Q (.agg [.dat .bool<|CH neg w,.dat li<|Ax w]) ob):Ends fK (L1 s neg) Q:=by
 by_cases g:s.length<=9
 ·have b:=CJ a g;refine zo (Al ..) (zy (by simp;omega)<|zc (Cd a<|by omega) (zc rfl (zc rfl (zn<|d _ _ (FN (l:=[]) (fun x c=>by cases c) b) ?_))));show zd ze [AE 0 s]=_;exact EJ _
 ·obtain⟨m,h⟩:∃m,m+9=s.length:=⟨s.length-9,by omega⟩;have e:zg .i64 ((s.length:Int)-9)=(m:Int):=by rw[wr _ (by omega)<|by omega];omega
  have f:(s.drop m).take (qp s.length m)=s.drop m:=zj (by rw[zq];exact qw _);have b:=CJ (B8 a m) (by rw[zq];omega);refine zo (Al ..) (zc (by simp;omega) ?_);rw[e,zf,f];refine zc (by simp;omega) (zc (Cd (B8 a m)<|by rw[zq];omega)<|zc rfl (zc (by simp;omega) ?_));refine Dm neg (AE 0 s) d m (s.take m) [BZ<|s.drop m] (by rw[zz];omega) (Bh a m) (by simp;omega) (FN (l:=[]) (fun x c=>by cases c) b) ?_;rw[EJ,JJ h];show AE 0 (s.drop m)+(ze:Int)^1*_=_;rw[zt,yc,yh,zw];exact jm _ _
theorem A2(s:Z)(a:Ap s=true)(i:s.length<=5999)(d:∀(w:List Int) ob,Ay ze w->zd ze w=AE 0 s->Q (.agg [.dat .bool<|CH false w,.dat li<|Ax w]) ob):Ends fK (L2 s) Q:=by
 by_cases g:s.length<=9
 ·have b:=CJ a g;refine zo (AH ..) (zy (by simp;omega)<|zc (Cd a<|by omega) (zc rfl (zc rfl (zn<|d _ _ (FN (l:=[]) (fun x c=>by cases c) b) ?_))));show zd ze [AE 0 s]=_;exact EJ _
 ·obtain⟨m,h⟩:∃m,m+9=s.length:=⟨s.length-9,by omega⟩;have e:zg .i64 ((s.length:Int)-9)=(m:Int):=by rw[wr _ (by omega)<|by omega];omega
  have f:(s.drop m).take (qp s.length m)=s.drop m:=zj (by rw[zq];exact qw _);have b:=CJ (B8 a m) (by rw[zq];omega);refine zo (AH ..) (zc (by simp;omega) ?_);rw[e,zf,f];refine zc (by simp;omega) (zc (Cd (B8 a m)<|by rw[zq];omega) (zc rfl (zc (by simp;omega) ?_)));refine Ca (AE 0 s) d m (s.take m) [BZ<|s.drop m] (by rw[zz];omega) (Bh a m) (by simp;omega) (FN (l:=[]) (fun x c=>by cases c) b) ?_;rw[EJ,JJ h];show AE 0 (s.drop m)+(ze:Int)^1*_=_;rw[zt,yc,yh,zw];exact jm _ _
theorem ok:Af A6 149 Ox:=by
 refine BO xI<|fun(s:Z) a=>?_;have a:(decide (s.length<=5999)&&(if s.getD 0 0=45 then Ap (s.drop 1)else Ap s))=true:=a;rw[zi,w5]at a;obtain⟨g,a⟩:=a;have fin:∀(neg:Bool) (D:Int),BC s=(if neg=true then -D else D)->∀(w:List Int) ob,Ay ze w->zd ze w=D->Ad Ox s (.agg [.dat .bool<|CH neg w,.dat li<|Ax w]) ob:=by
  intro neg D hr w ob i h;refine yv rfl rfl ?_;show(CH neg w,Ax w)=(Sp.rN<|BC s,Sp.rW<|BC s);rw[hr];exact M0 i h
 refine yq (Ai s) ?_;conv=>zeta
 cases s with
 |nil=>exact zy (by decide) (A2 [] rfl (by decide) (fin false 0 rfl))
 |cons c r=>
  have f:(c::r).getD 0 0=c:=rfl;rw[f]at a;rw[f];refine zc (by simp) (zc (by simp)<|zr (fun d=>?_)<|fun d=>?_)
  ·have b:c=45:=by
    have:(c.toNat:Int)=45:=by simpa using d
    exact UInt8.toNat_inj.1 (by show _=45;omega)
   rw[wd b]at a;have e:(jt 1 (c::r)).take (qp (c::r).length 1)=r:=by show r.take ((r.length+1)-1)=r;rw[yu];exact yi
   rw[d,e];refine zc (by simp) (Ar true r a (by simp at g;omega)<|fin true _ ?_);unfold BC;rw[f,wd b,wd rfl];rfl
  ·have b:c≠45:=by
    rintro rfl;exact wh d (by decide)
   rw[wc b]at a;rw[d];refine Ar false (c::r) a g<|fin false _ ?_;unfold BC;rw[f,wc b,wc<|by decide]
end T149
end Go.Pe
