import Derived.Test.YtlapcggejnojjaaGreatDoorX11
import Derived.Test.YtlapcggejnojjaaGreatDoorX10
/- A part of a proof (no law is stated here). Made by program out of texts by AI agents. -/
open Go.Pe.Ends renaming tt → zc, leaf → zn, An → zo, ite → zr, ff → zy, eq → zS
open Go.Sp renaming val → zd, B9 → ze, vI → zm, sg → yJ
open Go.IntKind renaming wrap → zf
open Int renaming toNat_natCast → zg, mul_le_mul_of_nonneg_left → zh, mul_le_mul_of_nonneg_right → zk, le_of_lt → zp, pow_succ → zt, tdiv_eq_ediv_of_nonneg → zu, mul_comm → zw, mul_add → zx, tmod_eq_emod_of_nonneg → zA, lt_of_mul_lt_mul_left → zC, mul_nonneg → zE, pow_zero → zF, mul_assoc → zG, mul_left_comm → zH, lt_or_le → zJ, one_mul → zK, emod_lt_of_pos → zM, mul_ediv_add_emod → zP, emod_nonneg → zQ, ediv_emod_unique → zR, tdiv → zU, mul_lt_mul_of_pos_right → zY, pow_pos → zZ, fdiv_eq_ediv_of_nonneg → z6, mul_one → z7, mul_zero → z8, add_assoc → ya, lt_of_lt_of_le → yd, mul_sub → ye, eq_ofNat_of_zero_le → yf, ediv_eq_zero_of_lt → yg, ediv_lt_of_lt_mul → yh, ediv_nonneg → yj, add_zero → yo, mul_lt_mul_of_pos_left → yq, tmod → yr, le_refl → yu, mul_ediv_cancel_left → yy, pow_add → yG, mul_neg → yI, add_comm → yK, zero_mul → yL
open Bool renaming and_eq_true → zi, true_and → yi
open List renaming take_of_length_le → zj, replicate → zl, length_drop → zq, length_take → zz, length_eq_zero_iff → zB, append_assoc → zD, take_length → zL, getD_eq_getElem?_getD → zN, length_append → zO, dropWhile_cons → zT, take_append_drop → zX, mem_singleton → yc, append_nil → yk, dropLast_concat_getLast → ym, nil_append → yn, getLast?_eq_getElem? → yt, getElem?_eq_getElem → yw, mem_cons → yz, drop_length → yA, all_eq_true → yB, all_reverse → yC, length_eq_one_iff → yD, drop_eq_nil_of_le → yF, take_left → yH, drop → yM
open BitVec renaming ofInt → zI
open Nat renaming add_sub_cancel → zV, min_eq_left → yb, sub → yp, le_refl → yv, gcd_comm → yE, gcd → yN, add → yO
open Go.Pe.Af renaming of → zW
section
namespace Go.Pe
open Sp
open Go.Det
theorem PL{a b:Int}{s:Nat}(ha:0≤a)(hb:0≤b)(h:b<2^s)(hm:a*2^s+b<18446744073709551616):TV .u64 b (a*2^s)=a*2^s+b:=by
 have:=SN ha hb h hm;rw[←this];show zf .u64 (((zI 64 b|||zI 64 (a*2^s)).toNat:Nat):Int)=zf .u64 (((zI 64 (a*2^s)|||zI 64 b).toNat:Nat):Int);rw[BitVec.or_comm]
theorem SE{s:Nat}(hs:s≤63):(18446744073709551616:Int)=2^s*2^(64-s):=by rw[←yG,show s+(64-s)=64 by omega];rfl
namespace T147
variable {Q:PV→Ob→Prop}
theorem Ky(s:Nat)(hs:s≤63)(la n m:Nat)(hn:n≤la)(hla:la≤9000)(u qs:List Int)(hu:u.length=la+1)(hd:As Aj u)(hz:zd Aj (u.drop n)=0)(hm:qs.length=m)(hm9:m≤9000)(hdq:As Aj qs)
  (hq:∀(w:List Int) ob,As Aj w→zd Aj w=zd Aj u/2^s→Q (.tup [.dat Cp (Ax qs),.dat Cp (Ax w)]) ob):
  ∀(k i:Nat) (p:List Int),i+k=n→p.length=i→As Aj p→zd Aj p+(Aj:Int)^i*(zd Aj (u.drop i)/2^s)=zd Aj u/2^s→
   Ends Hd (L6 s (la+1) n m n i qs (p++u.drop i)) Q
 |0,i,p,hi,hp,hdp,he=>by
  have hi:i=n:=by omega
  subst hi;have ht:(p++u.drop i).take i=p:=by rw[←hp];exact yH
  have ht2:qs.take m=qs:=zj (by omega);rw[hz,Int.zero_ediv,z8,yo]at he;refine zo (HC ..) (zy (by simp) ?_);rw[zg,ht,ht2];refine zc (by simp;omega) (zc (Am (by simp;omega) (Da (by omega) hdq)) (zc (Am (by simp;omega) (Da (by omega) hdp)) (zn (hq p _ hdp he))))
 |k+1,i,p,hi,hp,hdp,he=>by
  have d1:=BX (l:=u) (i:=i) (by omega);have d2:=BX (l:=u) (i:=i+1) (by omega);have gx:=Sp.AM (AI hd i);have gy:=Sp.AM (AI hd (i+1));have g1:(p++u.drop i).getD i 0=u.getD i 0:=by rw[d1];exact BZ _ _ _ _ hp
  have s1:∀z,(p++u.drop i).set i z=p++z::u.drop (i+1):=fun z=>by rw[d1];exact BT _ _ _ _ hp
  have s2:∀z x,(p++z::u.drop (i+1)).set i x=(p++[x])++u.drop (i+1):=fun z x=>by rw[BT _ _ _ _ hp,zD];rfl
  have g2:∀z,(p++z::u.drop (i+1)).getD i 0=z:=fun z=>BZ _ _ _ _ hp
  have g3:∀z,(p++z::u.drop (i+1)).getD (i+1) 0=u.getD (i+1) 0:=fun z=>by
   rw[d2,show p++z::u.getD (i+1) 0::u.drop (i+1+1)=(p++[z])++u.getD (i+1) 0::u.drop (i+1+1)by rw[zD];rfl];exact BZ _ _ _ _ (by simp[hp])
  have hlen:∀z,(p++z::u.drop (i+1)).length=la+1:=fun z=>by simp;omega
  have hlen0:(p++u.drop i).length=la+1:=by simp;omega
  have e2:zf .i64 ((i:Int)+1)=((i+1:Nat):Int):=by rw[wr _ (by omega) (by omega)];omega
  have e3:zf .i64 ((64:Int)-(s:Int))=((64-s:Nat):Int):=by rw[wr _ (by omega) (by omega)];omega
  have em:Min.min s 64=s:=by omega
  have em2:Min.min (64-s) 64=64-s:=by omega
  have hB:=SE hs;have hc:(0:Int)<2^s:=zZ (by decide);have hd':(0:Int)<2^(64-s):=zZ (by decide);have efd:Int.fdiv (u.getD i 0) ((2:Int)^s)=u.getD i 0/2^s:=z6 _ (zp hc);have a0:0≤u.getD i 0/2^s:=yj gx.1 (zp hc);have a1:u.getD i 0/2^s<2^(64-s):=yh hc (by rw[zw, ←hB];exact gx.2);have m0:=zQ (u.getD (i+1) 0) (show(2:Int)^s≠0 by omega);have m1:=zM (u.getD (i+1) 0) hc;have p0:0≤(u.getD (i+1) 0 % 2^s)*2^(64-s):=zE m0 (zp hd');have p1:(u.getD (i+1) 0 % 2^s)*2^(64-s)≤18446744073709551616-2^(64-s):=by
   have:=zk (show u.getD (i+1) 0 % 2^s≤2^s-1 by omega) (zp hd');rw[Int.sub_mul,zK, ←hB]at this;exact this
  have hnew:0≤u.getD i 0/2^s+(u.getD (i+1) 0 % 2^s)*2^(64-s)∧u.getD i 0/2^s+(u.getD (i+1) 0 % 2^s)*2^(64-s)<18446744073709551616:=by omega
  have ewy:zf .u64 (u.getD (i+1) 0*2^(64-s))=(u.getD (i+1) 0 % 2^s)*2^(64-s):=by
   rw[Ic];exact(Qw (b:=18446744073709551616) (c:=2^(64-s)) (d:=2^s) (k:=0) hd' hc (by rw[hB,zw]) ⟨yu _,hd'⟩ gy).1
  have eio:TV .u64 (u.getD i 0/2^s) ((u.getD (i+1) 0 % 2^s)*2^(64-s))=u.getD i 0/2^s+(u.getD (i+1) 0 % 2^s)*2^(64-s):=by
   rw[PL m0 a0 a1 (by omega),yK]
  have next:∀z,z=u.getD i 0/2^s+(u.getD (i+1) 0 % 2^s)*2^(64-s)→Ends Hd (L6 s (la+1) n m n ((i+1:Nat):Int) qs ((p++[z])++u.drop (i+1))) Q:=by
   intro z hz';refine Ky s hs la n m hn hla u qs hu hd hz hm hm9 hdq hq k (i+1) (p++[z]) (by omega) (by simp[hp]) (CV hdp (by rw[hz'];exact BV hnew.1 hnew.2)) ?_;rw[←he,DB,hp,IF,ya, ←zx];congr 2;have:=VJ (b:=18446744073709551616) (c:=2^s) (d:=2^(64-s)) (x:=u.getD i 0) (y:=u.getD (i+1) 0) (X:=zd Aj (u.drop (i+1+1))) hc hB;rw[hz',d1,d2];exact this.symm
  have b1:(decide ((0:Int)≤(i:Int))&&decide ((i:Int)<((la+1:Nat):Int)))=true:=by simp;omega
  have b2:(decide ((0:Int)≤((i+1:Nat):Int))&&decide (((i+1:Nat):Int)<((la+1:Nat):Int)))=true:=by simp;omega
  refine zo (HC ..) (zc (by simp;omega) ?_);rw[e2,e3,zg,zg,zg,zg,em,em2,g1,efd,s1,g2,g3,s2,ewy,eio,hlen,hlen0];refine zc b1 (zc (decide_eq_true (by omega)) (zc (by simp) (zc b1 (zc (decide_eq_true (by omega)) (zr (fun c=>zc (by simp;omega) (zc b1 (zc (decide_eq_true (by omega)) (zc b2 (zc (decide_eq_true (by omega)) (zc (by simp) (zc b1 (zc (decide_eq_true (by omega)) (next _ rfl))))))))) (fun c=>?_))))));have c:=of_decide_eq_false c;have hs0:s=0:=by omega
  subst hs0;rw[show ∀z:Int,p++z::u.drop (i+1)=(p++[z])++u.drop (i+1)from fun z=>by rw[zD];rfl];refine next _ ?_;rw[zF,Int.emod_one,yL,yo]
theorem OS{X:A2}{F:Int→List Int→Tr}(w:List Int)(s:Nat)(hs:s≤63)(hd:As Aj w)
  (CC:∀(i:Nat) (o:List Int),i<w.length→o.length=w.length+1→Ends X (F ((i+1:Nat):Int) (if 0<s then(o.set i (TV .u64 (o.getD i 0) (zf .u64 (w.getD i 0*2^s)))).set (i+1) (Int.fdiv (w.getD i 0) (2^(64-s)))else o.set i (TV .u64 (o.getD i 0) (zf .u64 (w.getD i 0*2^s))))) Q→Ends X (F i o) Q)
  (hend:∀o:List Int,o.length=w.length+1→As Aj o→zd Aj o=2^s*zd Aj w→Ends X (F w.length o) Q):
  ∀(k i:Nat) (p:List Int) (c:Int),i+k=w.length→p.length=i→As Aj p→(0≤c∧c<2^s)→zd Aj p+(Aj:Int)^i*c=2^s*zd Aj (w.take i)→Ends X (F i (p++c::zl k 0)) Q
 |0,i,p,c,hi,hp,hdp,hc,he=>by
  have hi:i=w.length:=by omega
  subst hi;have hP:(2:Int)^s≤18446744073709551616:=by
   have:=SE hs;have h1:(1:Int)≤2^(64-s):=zZ (by decide);have h2:=zh h1 (show(0:Int)≤2^s from zp (zZ (by decide)));omega
  rw[zL]at he;refine hend _ (by simp[hp]) (CV hdp (BV hc.1 (by omega))) ?_;rw[←he];show zd Aj (p++[c])=_;rw[DB,hp]
 |k+1,i,p,c,hi,hp,hdp,hc,he=>by
  have gx:=Sp.AM (AI hd i);have hB:=SE hs;have h2s:(0:Int)<2^s:=zZ (by decide);have h2d:(0:Int)<2^(64-s):=zZ (by decide);obtain⟨s1,s2,s3,s4,s5,s6⟩:=Qw (b:=18446744073709551616) (c:=2^s) (d:=2^(64-s)) (x:=w.getD i 0) (k:=c) h2s h2d hB hc gx;have efd:Int.fdiv (w.getD i 0) ((2:Int)^(64-s))=w.getD i 0/2^(64-s):=z6 _ (zp h2d);have g1:(p++c::zl (k+1) 0).getD i 0=c:=BZ _ _ _ _ hp;have st:∀z:Int,(p++c::zl (k+1) 0).set i z=p++z::zl (k+1) 0:=fun z=>BT _ _ _ _ hp
  have st2:∀z y:Int,(p++z::zl (k+1) 0).set (i+1) y=(p++[z])++y::zl k 0:=fun z y=>by
   rw[show p++z::zl (k+1) (0:Int)=(p++[z])++0::zl k 0 by rw[zD];rfl];exact BT _ _ _ _ (by simp[hp])
  have eio:TV .u64 c ((w.getD i 0 % 2^(64-s))*2^s)=(w.getD i 0 % 2^(64-s))*2^s+c:=PL (zQ _ (by omega)) hc.1 hc.2 s2;have go:=OS w s hs hd CC hend k (i+1) (p++[(w.getD i 0 % 2^(64-s))*2^s+c]) (w.getD i 0/2^(64-s)) (by omega) (by simp[hp]) (CV hdp (BV (by omega) s2)) ⟨s4,s5⟩ (by
   rw[DB,hp,IF,Av,zx (2^s), ←he,ya,ya, ←zx,zH (2^s), ←zx];congr 2;rw[zw (2^s)];omega)
  refine CC i _ (by omega) (by simp;omega) ?_;rw[Ic,s1,efd,g1,eio,st,st2];by_cases h0:0<s
  ·rw[if_pos h0];exact go
  ·have hs0:s=0:=by omega
   subst hs0;have hz:w.getD i 0/2^(64-0)=0:=yg gx.1 gx.2;rw[hz]at go;rw[if_neg h0,show ∀z:Int,p++z::zl (k+1) (0:Int)=(p++[z])++0::zl k 0 from fun z=>by rw[zD];rfl];exact go
end T147
end Go.Pe
end
section
namespace Go.Pe
open Sp
open Go.Det
theorem Ym:∀g sp,Hd.sp g=some sp→Ac A4 g sp:=
 Ab T156.ok (Ab T197.ok (Ab T152.ok (Ab T206.ok (Ab T207.ok (Ab WE (Ab T198.ok (fun g sp h=>by cases h)))))))
theorem H5{w:List Int}(hd:As Aj w)(hn:Sp.nz w){k:Nat}(hl:w.length=k+1):0<w.getD k 0∧w.getD k 0<18446744073709551616:=by
 have g:=Sp.AM (AI hd k);refine⟨?_,g.2⟩;have e:w.getLast?=some (w.getD k 0):=by
  rw[yt,hl,zV,zN,yw (by omega)];rfl
 unfold Sp.nz at hn;rw[e]at hn;have:w.getD k 0≠0:=fun h=>hn (by rw[h])
 omega
namespace T147
set_option maxHeartbeats 1000000 in
theorem ok:Ac A4 147 Fq:=by
 refine AJ (X:=Hd) rfl Ym (d:=9) (by kernel_rfl) (by kernel_rfl) (by kernel_rfl) (fun(i:List Int×List Int) hi=>?_) (Ad (by kernel_rfl));obtain⟨a,b⟩:=i;have hi:(By a&&By b&&decide (a.length≤9000)&&decide (b.length≤9000)&&decide (0<Ai b))=true:=hi;rw[zi,zi,zi,zi,decide_eq_true_eq,decide_eq_true_eq,decide_eq_true_eq]at hi;obtain⟨⟨⟨⟨na,nb⟩,la9⟩,lb9⟩,hb0⟩:=hi;obtain⟨_,da,za⟩:=DI na;obtain⟨_,db,zb⟩:=DI nb;have hb0:0<zd Aj b:=hb0;have ha0:=Au (b:=Aj) (by decide) da;have hg:∀q r ob,q=Br (Ai a/Ai b)→r=Br (Ai a % Ai b)→Af Fq (a,b) (PV.tup [PV.dat Cp q,PV.dat Cp r]) ob:=fun q r ob e1 e2=>zW rfl rfl (Prod.ext e1 e2)
 have fin:∀(q r:List Int) ob,As Aj q→As Aj r→zd Aj a=zd Aj q*zd Aj b+zd Aj r→zd Aj r<zd Aj b→Af Fq (a,b) (PV.tup [PV.dat Cp (Ax q),PV.dat Cp (Ax r)]) ob:=by
  intro q r ob dq dr he hr;have hr0:=Au (b:=Aj) (by decide) dr;obtain⟨u1,u2⟩:=(zR (a:=zd Aj a) (b:=zd Aj b) (r:=zd Aj r) (q:=zd Aj q) hb0).2 ⟨by rw[zw (zd Aj b)];omega,hr0,hr⟩;refine hg _ _ ob ?_ ?_
  ·rw[ID dq];show Br (zd Aj q)=Br (zd Aj a/zd Aj b);rw[u1]
  ·rw[ID dr];show Br (zd Aj r)=Br (zd Aj a % zd Aj b);rw[u2]
 have hbne:b≠[]:=by rintro rfl;simp[zd]at hb0
 have hblen:b.length≠0:=fun h=>hbne (zB.1 h)
 refine zS (Ay a b) (zc (by rw[na,nb];rfl) (zr (fun c=>?_) (fun c=>?_)))
 ·have c:=of_decide_eq_true c;have hlt:zd Aj a<zd Aj b:=by
   unfold BO at c;have c:(if zd Aj a<zd Aj b then(-1:Int)else if zd Aj a>zd Aj b then 1 else 0)<0:=c;split at c
   ·assumption
   ·split at c<;>omega
  refine zn (zW rfl rfl ?_);show([],a)=(Br (zd Aj a/zd Aj b),Br (zd Aj a % zd Aj b));rw[yg ha0 hlt,Int.emod_eq_of_lt ha0 hlt];exact Prod.ext rfl (JZ (by decide) da za)
 ·have c:=of_decide_eq_false c;have hge:zd Aj b≤zd Aj a:=by
   rcases zJ (zd Aj a) (zd Aj b)with g|g
   ·have:BO (Ai a) (Ai b)= -1:=if_pos g;omega
   ·exact g
  have hll:b.length≤a.length:=by
   rcases Nat.lt_or_ge a.length b.length with g|g
   ·have:=Dm (b:=Aj) (by decide) da db zb g;omega
   ·exact g
  refine zr (fun c1=>?_) (fun c1=>?_)
  ·have c1:b.length=1:=by
    have:(b.length:Int)=1:=by simpa using c1
    omega
   obtain⟨d,rfl⟩:=yD.1 c1;have hd:0<d∧d<18446744073709551616:=H5 (k:=0) db zb rfl;have e1:zf .i64 ((a.length:Int)-1)=(a.length:Int)-1:=wr _ (by omega) (by omega);rw[e1,zg];refine zc (by simp;omega) ?_;have:=Aq (Q:=Af Fq (a,[d])) a d da hd (by omega) (fun q r ob dq dr he=>by
    refine fin q [r] ob dq (fun x hx=>by rw[yc]at hx;subst hx;exact⟨dr.1,by show x<18446744073709551616;omega⟩) ?_ ?_
    ·rw[val_one,val_one];exact he
    ·rw[val_one,val_one];exact dr.2) a.length [] 0 (by simp) (fun x hx=>by cases hx) ⟨yu _,hd.1⟩ (by rw[yA];simp[zd])
   rw[yk]at this;exact this
  ·have c1:b.length≠1:=by
    have:(b.length:Int)≠1:=by simpa using c1
    omega
   obtain⟨k,hk⟩:∃k,b.length=k+2:=⟨b.length-2,by omega⟩;obtain⟨y0,y1⟩:=H5 (k:=k+1) db zb hk;obtain⟨s,hs,hs63,hlt,_⟩:=P0 y0 y1;have hB:=SE hs63;have h2s:(0:Int)<2^s:=zZ (by decide);have h2d:(0:Int)<2^(64-s):=zZ (by decide);have hyd:b.getD (k+1) 0<2^(64-s):=by
    rw[hB,zw (b.getD (k+1) 0)]at hlt;exact zC hlt (zp h2s)
   have hv1:(Aj:Int)^(k+1)≤2^s*zd Aj b:=by
    have a1:=Cn (b:=Aj) (by decide) db zb hbne;rw[hk,show k+2-1=k+1 by omega]at a1;have a2:=zk (show(1:Int)≤2^s by omega) (zp hb0);omega
   have hv2:2^s*zd Aj b<(Aj:Int)^(k+2):=by
    have b1:zd Aj b=zd Aj (b.take (k+1))+(Aj:Int)^(k+1)*b.getD (k+1) 0:=by
     rw[←Av,zj (by omega)]
    have b2:=Bi (b:=Aj) (by decide) (AE db (k+1));rw[zz,yb (by omega)]at b2;have hp:=AK (b:=Aj) (by decide) (k+1);have b3:zd Aj b<(Aj:Int)^(k+1)*2^(64-s):=by
     have:=zh (show b.getD (k+1) 0+1≤2^(64-s)by omega) (zp hp);rw[zx,z7]at this;omega
    have b4:=yq b3 h2s;have b5:(2:Int)^s*((Aj:Int)^(k+1)*2^(64-s))=(Aj:Int)^(k+2):=by
     rw[zH, ←hB];exact(zt ..).symm
    rw[b5]at b4;exact b4
   have hls:∀o:List Int,As Aj o→zd Aj o=2^s*zd Aj b→As Aj (Ax o)∧(Ax o).length=k+2∧zd Aj (Ax o)=2^s*zd Aj b∧1≤(Ax o).getD (k+1) 0:=by
    intro o ho hv;have hd':=FD ho;have hv':zd Aj (Ax o)=2^s*zd Aj b:=by rw[GU,hv]
    have hl':=WC (b:=Aj) (by decide) hd' (Is o) (k:=k+1) (by rw[hv'];exact hv1) (by rw[hv'];exact hv2);have:=(H5 hd' (Is o) hl').1;exact⟨hd',hl',hv',by omega⟩
   have e2:zf .i64 (((k+2:Nat):Int)-1)=((k+1:Nat):Int):=by rw[wr _ (by omega) (by omega)];omega
   have e3:zf .i64 (((k+2:Nat):Int)+1)=((k+3:Nat):Int):=by rw[wr _ (by omega) (by omega)];omega
   have e4:zf .i64 ((a.length:Int)+1)=((a.length+1:Nat):Int):=by rw[wr _ (by omega) (by omega)];omega
   have e5:zf .i64 ((a.length:Int)-((k+2:Nat):Int))=((a.length-(k+2):Nat):Int):=by rw[wr _ (by omega) (by omega)];omega
   have e6:zf .i64 (((a.length-(k+2):Nat):Int)+1)=((a.length-(k+2)+1:Nat):Int):=by rw[wr _ (by omega) (by omega)];omega
   have e7:zf .i64 ((64:Int)-(s:Int))=((64-s:Nat):Int):=by rw[wr _ (by omega) (by omega)];omega
   have em:Min.min s 64=s:=by omega
   have em2:Min.min (64-s) 64=64-s:=by omega
   rw[hk,e2,e3,zg,zg,hs];refine zc (by simp;omega) (zc (BV (by omega) y1) (zc (by simp;omega) ?_));refine OS (F:=fun i o=>L2 a b s (k+3) b ((k+2:Nat):Int) i o) b s hs63 db (fun i o hi ho h=>?_) (fun o hol hod hov=>?_) (k+2) 0 [] 0 (by omega) rfl (fun x hx=>by cases hx) ⟨yu _,h2s⟩ (by simp[zd])
   ·have ei:zf .i64 ((i:Int)+1)=((i+1:Nat):Int):=by rw[wr _ (by omega) (by omega)];omega
    have b1:(decide ((0:Int)≤(i:Int))&&decide ((i:Int)<((k+3:Nat):Int)))=true:=by simp;omega
    refine zo (AS ..) (zc (by simp;omega) ?_);rw[ei,e7,zg,zg,zg,zg,em,em2];refine zc (by simp;omega) (zc b1 (zc (decide_eq_true (by omega)) (zc (by simp) (zc b1 (zc (decide_eq_true (by omega)) (zr (fun c=>zc (by simp) (zc (by simp;omega) (zc (by simp;omega) ?_))) (fun c=>?_)))))))
    ·have c:=of_decide_eq_true c;rw[if_pos (by omega)]at h;exact h
    ·have c:=of_decide_eq_false c;rw[if_neg (by omega)]at h;exact h
   obtain⟨vd,vl,vv,v1⟩:=hls o hod hov;have eo:o.take (k+3)=o:=zj (by omega);rw[hk];refine zo (AS ..) (zy (by simp) ?_);rw[eo,e4,zg,hk,e2,zg,hs];refine zc (Am (by simp;omega) (Da (by omega) hod)) (zc (by simp;omega) ?_);refine OS (F:=fun i o'=>L3 a b s (k+3) b ((k+2:Nat):Int) ((k+2:Nat):Int) o s (a.length+1) a a.length i o' o) a s hs63 da (fun i o' hi ho h=>?_) (fun u hul hud huv=>?_) a.length 0 [] 0 (by omega) rfl (fun x hx=>by cases hx) ⟨yu _,h2s⟩ (by simp[zd])
   ·have ei:zf .i64 ((i:Int)+1)=((i+1:Nat):Int):=by rw[wr _ (by omega) (by omega)];omega
    have b1:(decide ((0:Int)≤(i:Int))&&decide ((i:Int)<((a.length+1:Nat):Int)))=true:=by simp;omega
    refine zo (BD ..) (zc (by simp;omega) ?_);rw[ei,e7,zg,zg,zg,zg,em,em2];refine zc (by simp;omega) (zc b1 (zc (decide_eq_true (by omega)) (zc (by simp) (zc b1 (zc (decide_eq_true (by omega)) (zr (fun c=>zc (by simp) (zc (by simp;omega) (zc (by simp;omega) ?_))) (fun c=>?_)))))))
    ·have c:=of_decide_eq_true c;rw[if_pos (by omega)]at h;exact h
    ·have c:=of_decide_eq_false c;rw[if_neg (by omega)]at h;exact h
   refine zo (BD ..) (zy (by simp) ?_);rw[eo,vl,e5,e6,zg,hk,e2,zg,hs];refine zc (by simp;omega) ?_;have hpn:=AK (b:=Aj) (by decide) (a.length-(k+2)+1);have start:zd Aj (u.drop (a.length-(k+2)+1))<zd Aj (Ax o):=by
    have a1:=BI Aj u (a.length-(k+2)+1) (by omega);have a2:=Au (b:=Aj) (by decide) (AE hud (a.length-(k+2)+1));have a3:=Bi (b:=Aj) (by decide) da;have a4:=yq a3 h2s;have a5:(Aj:Int)^a.length=(Aj:Int)^(a.length-(k+2)+1)*(Aj:Int)^(k+1):=by rw[←yG];congr 1;omega
    have a6:=Cn (b:=Aj) (by decide) db zb hbne;rw[hk,show k+2-1=k+1 by omega]at a6;have a7:=zh a6 (zp h2s);have a8:=zh a7 (zp hpn);rw[a5,zH]at a4;rw[vv];refine zC (a:=(Aj:Int)^(a.length-(k+2)+1)) ?_ (zp hpn);omega
   have go:=BU (Q:=Af Fq (a,b)) s (Ax o) k a.length vl la9 (by omega) vd v1 (2^s*zd Aj a) (fun u' qs hul' hud' hdq hlt' hql he=>by
    have hz:zd Aj (u'.drop (k+2))=0:=G0 (b:=Aj) (by decide) hud' (by omega) (by rw[vv]at hlt';omega);refine Ky s hs63 a.length (k+2) (a.length-(k+2)+1) (by omega) la9 u' qs hul' hud' hz hql (by omega) hdq (fun w ob hw hwv=>?_) (k+2) 0 [] (by omega) rfl (fun x hx=>by cases hx) (by simp[zd]);have e:zd Aj u'=2^s*(zd Aj a-zd Aj qs*zd Aj b):=by
     rw[vv,zG,zw (zd Aj b)]at he;rw[ye];omega
    have ew:zd Aj w=zd Aj a-zd Aj qs*zd Aj b:=by
     rw[hwv,e];exact yy _ (by omega)
    refine fin qs w ob hdq hw (by omega) ?_;rw[vv,e]at hlt';have:=zC hlt' (zp h2s);omega) (a.length-(k+2)+1) u [] (by simp) hul hud (fun x hx=>by cases hx) start (by rw[huv];simp[zd])
   rw[yk,show((a.length-(k+2)+1:Nat):Int)-1=((a.length-(k+2):Nat):Int)by omega]at go;exact go
end T147
theorem Tx:Ac A4 147 Fq:=T147.ok
end Go.Pe
end
section
namespace Go.Pe
open Sp
open Go.Det
theorem W8:∀g sp,fD.sp g=some sp→Ac A4 g sp:=fun g sp h=>by cases h
theorem T43n.ok:Ac A4 43 U0:=by
 refine AJ (X:=fD) rfl W8 (d:=9) (by kernel_rfl) (by kernel_rfl) (by kernel_rfl) (fun(n:Int) _=>?_) (Ad (by kernel_rfl));refine zS (T43n.Ay n) (zn (zW rfl rfl ?_));show(n,[])=(n,EG n);rw[C9]
theorem XZ:∀g sp,bL.sp g=some sp→Ac A4 g sp:=
 Ab T43n.ok (Ab Tx (Ab (T146.ok Ft) (Ab (T148.ok Ft) (Ab T98.ok (Ab T96.ok (Ab T89.ok (fun g sp h=>by cases h)))))))
theorem RJ{m D:Int}(hD:0<D):(m % D=0→(-m)/D= -(m/D)∧(-m) % D=0)∧(m % D≠0→(-m)/D= -(m/D)-1∧(-m) % D=D-m % D):=by
 have e:=zP m D;have r0:=zQ m (show D≠0 by omega);have r1:=zM m hD;refine⟨fun h=>?_,fun h=>?_⟩
 ·exact(zR (a:= -m) (b:=D) (r:=0) (q:= -(m/D)) hD).2 ⟨by rw[yI];omega,by omega,by omega⟩
 ·exact(zR (a:= -m) (b:=D) (r:=D-m % D) (q:= -(m/D)-1) hD).2 ⟨by rw[ye,yI,z7];omega,by omega,by omega⟩
theorem Yp{m D:Int}(hm:0≤m)(hD:0<D):(0≤m/D∧m/D≤m)∧(0≤m % D∧m % D≤m∧m % D<D):=by
 have e:=zP m D;have q0:0≤m/D:=yj hm (by omega);have q1:m/D≤m:=Int.ediv_le_self _ hm;have r0:=zQ m (show D≠0 by omega);have r1:=zM m hD;have:=zE (show 0≤D by omega) q0;exact⟨⟨q0,q1⟩,r0,by omega,r1⟩
theorem Si(n:Bool){v:Int}(h:0≤v):Ag (yJ n v)=v:=by
 rw[Cz,Ar];split<;>omega
theorem Hu{n:Int}(h:Ag n<(Aj:Int)^9000):BF (B7 n)=true:=by
 have:=O1 h (by omega);unfold BF;exact Am this.1 (decide_eq_true this.2)
theorem Wi{a b:Ba}(h:0<zm a+zm b):Fx a b=B7 (zm a+zm b):=by
 unfold Fx;split
 ·next c=>
  have:=Ep c.2.2;rw[Bq c.1,Bq c.2.1]at h ⊢;exact(Bt (by omega)).symm
 ·rfl
theorem Yi:((1:Int),EG (1:Int))=B7 1:=by rw[C9];rfl
namespace T90
theorem NJ{a b:Ba}(q:Int)(h: -9223372036854775808<q∧q<9223372036854775808)(hq:MC a b=B7 q∨(-9223372036854775808<q∧MC a b=Ke (B7 (q+1)) (1,[])∧q+1<9223372036854775808)):MC a b=(q,[]):=by
 rcases hq with hq|⟨h1,hq,h2⟩
 ·rw[hq,Bt h]
 ·rw[hq,Bt (by omega)];unfold Ke En;rw[if_pos ⟨rfl,by decide⟩];unfold Fx;rw[if_pos ⟨rfl,rfl,FL (by show _≤q+1+ -1;omega) (by show q+1+ -1<_;omega)⟩];show(q+1+ -1,[])=(q,[]);rw[show q+1+ -1=q by omega]
set_option maxHeartbeats 1000000 in
theorem ok:Ac A4 90 Ge:=by
 refine AJ (X:=bL) rfl XZ (d:=9) (by kernel_rfl) (by kernel_rfl) (by kernel_rfl) (fun(i:(Int×List Int)×(Int×List Int)) hi=>?_) (Ad (by kernel_rfl));obtain⟨a,b⟩:=i;have hi:(BF a&&BF b&&decide (0<zm b))=true:=hi;rw[zi,zi,decide_eq_true_eq]at hi;obtain⟨⟨ha,hb⟩,hD⟩:=hi;obtain⟨oa,_,na,_,va,ba⟩:=words ha;obtain⟨ob,_,nb,_,vb,bb⟩:=words hb;have eD:Ag (zm b)=zm b:=by rw[Ar];omega
 have hM:=AG (zm a);have eM:Ag (zm a)=if zm a<0 then -zm a else zm a:=rfl
 obtain⟨⟨q0,q1⟩,r0,r1,r2⟩:=Yp (D:=zm b) hM hD;obtain⟨z1,z2⟩:=RJ (m:=Ag (zm a)) hD;have hdiv:W3 (Br (Ag (zm a))) (Br (Ag (zm b)))=true:=by
  unfold W3;exact Am (Am (Am (Am na nb) (decide_eq_true (MH hM ba))) (decide_eq_true (MH (AG _) bb))) (decide_eq_true (by rw[vb,eD];exact hD))
 have fin:∀(q r:Ba) v ob,V2 Ge.outs v ob=some (true,(q,r))→q=MC a b→r=B7 (zm a % zm b)→Af Ge (a,b) v ob:=fun q r v ob h e1 e2=>zW h rfl (by rw[e1,e2];rfl)
 have slow:Ends bL (L1 (decide (zm a<0)) (Br (Ai (Br (Ag (zm a)))/Ai (Br (Ag (zm b))))) (Br (Ai (Br (Ag (zm a))) % Ai (Br (Ag (zm b))))) 0 0 b.1 b.2) (Af Ge (a,b)):=by
  rw[va,vb,eD];obtain⟨nq,_,vq⟩:=Cw (n:=Ag (zm a)/zm b) (k:=9000) q0 (by omega) (by omega);obtain⟨nr,_,vr⟩:=Cw (n:=Ag (zm a) % zm b) (k:=9000) r0 (by omega) (by omega);have jr:BF (B7 (yJ (decide (zm a<0)) (Ag (zm a) % zm b)))=true:=Hu (by rw[Si _ r0];omega);have jq:BF (B7 (yJ (decide (zm a<0)) (Ag (zm a)/zm b)))=true:=Hu (by rw[Si _ q0];omega);have j1:BF ((1:Int),EG (1:Int))=true:=by rw[Yi];decide
  have es:Mn (BY (yJ (decide (zm a<0)) (Ag (zm a) % zm b)),BR (yJ (decide (zm a<0)) (Ag (zm a) % zm b)))=W1 (yJ (decide (zm a<0)) (Ag (zm a) % zm b)):=by
   show W1 (zm (B7 _))=_;rw[B6]
  refine zo (Ap ..) (zc nq (zc nr ?_));rw[vq,vr];refine zo (AS ..) (zc (Gd jr).1 ?_);rw[es];refine zr (fun c=>?_) (fun c=>?_)
  ·have c:=of_decide_eq_true c;have c2:yJ (decide (zm a<0)) (Ag (zm a) % zm b)<0:=by
    rw[I1]at c;split at c
    ·assumption
    ·split at c<;>omega
   have hn:zm a<0:=by
    rcases zJ (zm a) 0 with g|g
    ·exact g
    ·rw[Cz,if_neg (by simp;omega)]at c2;omega
   have hr:Ag (zm a) % zm b≠0:=by
    rw[Cz,if_pos (decide_eq_true hn)]at c2;omega
   obtain⟨z3,z4⟩:=z2 hr;refine zc rfl (zc (Am jq j1) (zc (Am jr hb) (zn (fin (Ke (B7 (yJ (decide (zm a<0)) (Ag (zm a)/zm b))) (1,EG 1)) (Fx (B7 (yJ (decide (zm a<0)) (Ag (zm a) % zm b))) b) _ _ rfl ?_ ?_))))
   ·unfold MC;rw[if_pos ⟨hn,hr⟩,C9,Cz,if_pos (decide_eq_true hn)]
   ·have ev:zm a= -Ag (zm a):=by rw[eM,if_pos hn];omega
    have ep:zm (B7 (yJ (decide (zm a<0)) (Ag (zm a) % zm b)))= -(Ag (zm a) % zm b):=by rw[B6,Cz,if_pos (decide_eq_true hn)]
    have e5:zm a % zm b=zm b-Ag (zm a) % zm b:=by rw[←z4, ←ev]
    rw[Wi (by rw[ep];omega),ep,e5];congr 1;omega
  ·have c:=of_decide_eq_false c;have c2:¬(zm a<0∧Ag (zm a) % zm b≠0):=by
    rintro⟨hn,hr⟩;rw[Cz,if_pos (decide_eq_true hn),I1,if_pos (by omega)]at c;omega
   refine zn (fin (B7 (yJ (decide (zm a<0)) (Ag (zm a)/zm b))) (B7 (yJ (decide (zm a<0)) (Ag (zm a) % zm b))) _ _ rfl ?_ ?_)
   ·unfold MC;rw[if_neg c2]
   ·congr 1;rcases zJ (zm a) 0 with g|g
    ·have hr:Ag (zm a) % zm b=0:=by
      rcases zJ 0 (Ag (zm a) % zm b)with g2|g2
      ·exact absurd ⟨g,by omega⟩ c2
      ·omega
     have ev:zm a= -Ag (zm a):=by rw[eM,if_pos g];omega
     have:=(z1 hr).2;rw[←ev]at this;rw[this,hr,Cz];split<;>rfl
    ·rw[Cz,if_neg (by simp;omega),eM,if_neg (by omega)]
 refine zS (Ay a b) (zr (fun c1=>zr (fun c2=>zr (fun c3=>?_) (fun c3=>?_)) (fun c2=>?_)) (fun c1=>?_))
 ·have a2:=Lc c1;have b2:=Lc c2;have c3:a.1≠ -9223372036854775808:=by simpa using c3
  have ra:=Ep (n:=a.1) (by
   have:=oa;unfold EB at this;rw[zi]at this;exact this.1)
  have rb:=Ep (n:=b.1) (by
   have:=ob;unfold EB at this;rw[zi]at this;exact this.1)
  have ea:=Bq a2;have eb:=Bq b2;rw[ea]at eM;rw[eb]at hD r2;rw[ea,eb]at q0 q1 r0 r1 z1 z2;rw[ea]at r2;have hq:zU a.1 b.1=if a.1<0 then -(Ag a.1/b.1)else Ag a.1/b.1:=by
   rw[eM];split
   ·have:=Int.neg_tdiv (-a.1) b.1;rw[Int.neg_neg]at this;rw[this,zu (by omega)]
   ·exact zu (by omega)
  have hr:yr a.1 b.1=if a.1<0 then -(Ag a.1 % b.1)else Ag a.1 % b.1:=by
   rw[eM];split
   ·have:=Int.neg_tmod (-a.1) b.1;rw[Int.neg_neg]at this;rw[this,zA (by omega)]
   ·exact zA (by omega)
  refine zc (decide_eq_true (by omega)) (zc (decide_eq_true (by omega)) (zr (fun c=>?_) (fun c=>?_)))
  ·have c:=of_decide_eq_true c;rw[hr]at c;have hn:a.1<0:=by split at c<;>omega
   rw[if_pos hn]at c hq hr;rw[if_pos hn]at eM;obtain⟨z3,z4⟩:=z2 (by omega);have ev:a.1= -Ag a.1:=by omega
   have hqm:Ag a.1/b.1<9223372036854775807:=by
    rcases zJ (Ag a.1/b.1) 9223372036854775807 with g|g
    ·exact g
    ·have:=zP (Ag a.1) b.1;have:=zk (show 1≤b.1 by omega) q0;omega
   refine zn (fin (zf .i64 (zf .i64 (zU a.1 b.1)-1),[]) (zf .i64 (yr a.1 b.1+b.1),[]) _ _ rfl ?_ ?_)
   ·rw[hq,wr (-(Ag a.1/b.1)) (by omega) (by omega),wr _ (by omega) (by omega)];refine(NJ _ (by omega) (.inr ⟨by omega,?_,by omega⟩)).symm;unfold MC;rw[ea,eb,if_pos ⟨hn,by omega⟩,show -(Ag a.1/b.1)-1+1= -(Ag a.1/b.1)by omega]
   ·rw[hr,wr _ (by omega) (by omega)];have:a.1 % b.1=b.1-Ag a.1 % b.1:=by rw[←z4, ←ev]
    rw[ea,eb,this,Bt (by omega)];congr 1;omega
  ·have c:=of_decide_eq_false c;rw[hr]at c;refine zn (fin (zf .i64 (zU a.1 b.1),[]) (yr a.1 b.1,[]) _ _ rfl ?_ ?_)
   ·have hqq:MC a b=B7 (zU a.1 b.1):=by
     unfold MC;rw[ea,eb,hq,if_neg (by rintro⟨h1,h2⟩;rw[if_pos h1]at c;omega),Cz];by_cases h:a.1<0
     ·rw[if_pos (decide_eq_true h),if_pos h]
     ·rw[if_neg (by simp;omega),if_neg h]
    have hb': -9223372036854775808<zU a.1 b.1∧zU a.1 b.1<9223372036854775808:=by
     rw[hq,eM]at*;split<;>split at q1<;>split at q0<;>omega
    rw[wr _ (by omega) (by omega)];exact(NJ _ hb' (.inl hqq)).symm
   ·rw[hr];by_cases h:a.1<0
    ·rw[if_pos h]at c ⊢;have hz:Ag a.1 % b.1=0:=by omega
     rw[if_pos h]at eM;have ev:a.1= -Ag a.1:=by omega
     have:=(z1 hz).2;rw[←ev]at this;rw[ea,eb,this,hz];rfl
    ·rw[if_neg h]at c ⊢;rw[if_neg h]at eM;rw[ea,eb,eM,Bt (by rw[eM]at r0 r1;omega)]
 ·exact zc oa (zc ob (zc hdiv slow))
 ·exact zc oa (zc ob (zc hdiv slow))
 ·exact zc oa (zc ob (zc hdiv slow))
end T90
theorem XX:∀g sp,bT.sp g=some sp→Ac A4 g sp:=
 Ab T90.ok (Ab T88.ok (Ab T89.ok (fun g sp h=>by cases h)))
theorem XV{a:Ba}(h:EB a=true):QF a=B7 (Ag (zm a)):=by
 have hn:=Ye h;obtain⟨hr,hw⟩:=DL h;unfold QF;by_cases h0:a.1<0
 ·rw[if_pos h0,Ar];unfold En;have hneg:=hn.1 h0;split
  ·next c=>rw[Bq c.1]at hneg ⊢;rw[Bt (by omega)];congr 1;omega
  ·congr 1;omega
 ·rw[if_neg h0];obtain⟨s,w⟩:=a;have h0:¬s<0:=h0;rcases hw with hw|⟨h1,h2,h3⟩
  ·have hw:w=[]:=hw;subst hw;have hr: -9223372036854775808≤s∧s<9223372036854775808:=hr;rw[DP,Ar,Bt (by omega)];congr 1;omega
  ·obtain⟨_,d,z⟩:=DI h1;have h2:s=1∨s= -1:=h2;have h3:9223372036854775808≤Ai w:=h3;have hne:w≠[]:=by rintro rfl;exact absurd h3 (by decide)
   have hs:s=1:=by omega
   subst hs;rw[Vb hne,if_neg (by decide),Ar];have:=O2 (w:=w) false d z h3;rw[if_neg (by decide),if_neg (by decide)]at this;rw[show((Ai w).natAbs:Int)=Ai w by omega,this]
theorem Vn(n:Int):Mn (BY n,BR n)=W1 n:=by
 show W1 (zm (B7 _))=_;rw[B6]
theorem Nd(n:Int):zm (BY n,BR n)=n:=B6 n
theorem Sj(m n:Int):Vo (BY m,BR m) (BY n,BR n)=BY (m % n)∧Vx (BY m,BR m) (BY n,BR n)=BR (m % n):=by
 constructor
 ·show BY (zm (B7 _) % zm (B7 _))=_;rw[B6,B6]
 ·show BR (zm (B7 _) % zm (B7 _))=_;rw[B6,B6]
theorem GK{n:Int}(h:BF (B7 n)=true):BF (BY n,BR n)=true:=h
theorem Kz{a:Ba}(h:EB a=true):L0 a=BY (Ag (zm a))∧Ll a=BR (Ag (zm a)):=by
 unfold L0 Ll;rw[XV h];exact⟨rfl,rfl⟩
theorem Qm(x y:Nat):((x:Int) % (y:Int))=((x % y:Nat):Int):=rfl
theorem YJ(a b:Ba)(n:Int)(h:n=Sp.gI (zm a) (zm b)):(BY n,BR n)=(QA a b,Px a b):=by subst h;rfl
namespace T40
variable {Q:PV→Ob→Prop}
theorem YA(n:Nat)(h:(n:Int)<(Aj:Int)^9000):BF (B7 (n:Int))=true:=Hu (by rw[Ar,Int.natAbs_natCast];exact h)
theorem Aq(g:Nat)(o2 L:Int)(hL:∀n:Nat,(n:Int)<L→BF (B7 (n:Int))=true)(hq:∀ob,Q (.agg [.dat i64 (BY (g:Int)),.dat (.nlist u64) (BR (g:Int))]) ob):∀(f x y:Nat),y<f→yN x y=g→(x:Int)<L→(y:Int)<L→
  Ends bT (L1 o2 (BY (y:Int)) (BR (y:Int)) (BY (x:Int)) (BR (x:Int))) Q
 |0,x,y,h,_,_,_=>by omega
 |f+1,x,y,hy,hg,bx,by'=>by
  have jx:BF (B7 (x:Int))=true:=hL x bx;have jy:BF (B7 (y:Int))=true:=hL y by'
  refine zo (Ap ..) (zc (Gd (GK jy)).1 ?_);rw[Vn,(Sj _ _).1,(Sj _ _).2,Nd,Qm];by_cases h0:y=0
  ·subst h0;rw[Nat.gcd_zero_right]at hg;subst hg;exact zy rfl (zn (hq _))
  ·have hlt:x % y<y:=Nat.mod_lt _ (by omega);refine zc ?_ (zc (Am (Am (GK jx) (GK jy)) (decide_eq_true (by omega))) ?_)
   ·rw[I1,if_neg (by omega),if_pos (by omega)];rfl
   ·exact Aq g o2 L hL hq f y (x % y) (by omega) (by rw[yE, ←Nat.gcd_rec,yE];exact hg) by' (by omega)
set_option maxRecDepth 10000 in
theorem ok:Ac A4 40 Zi:=by
 refine AJ (X:=bT) rfl XX (d:=9) (by kernel_rfl) (by kernel_rfl) (by kernel_rfl) (fun(i:(Int×List Int)×(Int×List Int)) hi=>?_) (Ad (by kernel_rfl));obtain⟨a,b⟩:=i;have hi:(BF a&&BF b)=true:=hi;rw[zi]at hi;obtain⟨ha,hb⟩:=hi;have oa:=(Gd ha).1;have ob:=(Gd hb).1;have ba:=bounds ha;have bb:=bounds hb;rw[Ar]at ba bb;refine zS (Ay a b) (zc oa (zc ob ?_));show Ends bT (L1 0 (L0 b) (Ll b) (L0 a) (Ll a)) _;rw[(Kz oa).1,(Kz oa).2,(Kz ob).1,(Kz ob).2,Ar,Ar];refine Aq (yN (zm a).natAbs (zm b).natAbs) 0 _ YA (fun ob=>zW rfl rfl (YJ a b _ ?_)) ((zm b).natAbs+1) _ _ (Nat.lt_succ_self _) rfl ba bb;rw[Rx];rfl
end T40
end Go.Pe
end
section
namespace Go.Pe
open Sp
open Go.Det
theorem cL(n:Nat)(h:n<9223372036854775808):FV .i64 (n:Int) 1=((n % 2:Nat):Int):=by
 have e:(zI 64 (n:Int)&&&zI 64 1).toNat=n % 2:=by
  rw[BitVec.toNat_and];have h1:(zI 64 (n:Int)).toNat=n:=by rw[BitVec.ofInt_natCast,BitVec.toNat_ofNat];exact Nat.mod_eq_of_lt (by omega)
  have h2:(zI 64 1).toNat=2^1-1:=by decide
  rw[h1,h2,Nat.and_two_pow_sub_one_eq_mod]
 show zf .i64 (((zI 64 (n:Int)&&&zI 64 1).toNat:Nat):Int)=_;rw[e];exact wr _ (by omega) (by omega)
namespace T95
variable {Q:PV→Ob→Prop}
theorem Qz{c:Int}(h:c≠0):1≤Ag c:=by rw[Ar];omega
theorem R1(c:Int):∀k:Nat,Ag (c^k)=Ag c^k
 |0=>by rw[zF,zF];rfl
 |k+1=>by rw[zt,zt,Kk,R1 c k]
theorem one_le_pow{c:Int}(h:1≤c):∀k:Nat,1≤c^k
 |0=>by rw[zF];decide
 |k+1=>by
  rw[zt];have:=zk (one_le_pow h k) (show 0≤c by omega);omega
theorem dO{p c L:Int}{k:Nat}(hL:1<L)(h:Ag (p*c^k)<L)(h1:c=0→Ag p≤1)(h2:c≠0→p≠0):Ag p<L∧(1≤k→Ag c<L)∧(2≤k→Ag (c*c)<L)∧(1≤k→Ag (p*c)<L):=by
 by_cases hc:c=0
 ·subst hc;have:=h1 rfl;have e:Ag 0=0:=rfl;exact⟨by omega,fun _=>by rw[e];omega,fun _=>by rw[z8,e];omega,fun _=>by rw[z8,e];omega⟩
 ·have hp:=Qz (h2 hc);have hc1:=Qz hc;rw[Kk,R1]at h;rw[Kk,Kk];generalize Ag p=P at*;generalize Ag c=C at*;have k0:1≤C^k:=one_le_pow hc1 k;have a1:P≤P*C^k:=by
   have:=zh k0 (show 0≤P by omega);omega
  have aC:C^k≤P*C^k:=by
   have:=zk hp (show 0≤C^k by omega);omega
  refine⟨by omega,fun hk=>?_,fun hk=>?_,fun hk=>?_⟩
  ·obtain⟨j,rfl⟩:∃j,k=j+1:=⟨k-1,by omega⟩;rw[zt]at aC h;have:=zk (one_le_pow hc1 j) (show 0≤C by omega);omega
  ·obtain⟨j,rfl⟩:∃j,k=j+2:=⟨k-2,by omega⟩;have e:C^(j+2)=C^j*(C*C):=by rw[zt,zt,zG]
   rw[e]at aC h;have:=zk (one_le_pow hc1 j) (zE (show 0≤C by omega) (show 0≤C by omega));omega
  ·obtain⟨j,rfl⟩:∃j,k=j+1:=⟨k-1,by omega⟩;have e:P*C^(j+1)=C^j*(P*C):=by rw[zt,zH]
   rw[e]at h;have:=zk (one_le_pow hc1 j) (zE (show 0≤P by omega) (show 0≤C by omega));omega
theorem Tz{p c:Int}{k j:Nat}(h:k=2*j):p*(c*c)^j=p*c^k:=by
 subst h;rw[Int.pow_mul,zt,zt,zF,zK]
theorem U5{p c:Int}{k j:Nat}(h:k=2*j+1):p*c*(c*c)^j=p*c^k:=by
 subst h;rw[zt,Int.pow_mul,show c^2=c*c by rw[zt,zt,zF,zK],zG,zw c]
theorem dI{x:Int}(h:x<(18446744073709551616:Int)^(4000:Nat)):x<(Aj:Int)^9000:=
 yd h (AN (b:=Aj) (by decide) (by omega))
theorem Aq(o1 R:Int)(hR:Ag R<(18446744073709551616:Int)^(4000:Nat))(hq:∀ob,Q (.agg [.dat i64 (BY R),.dat (.nlist u64) (BR R)]) ob):
  ∀(f k:Nat) (p:Int) (a:Ba),k<f→k≤100000→(1≤k→BF a=true)→p*zm a^k=R→(zm a=0→Ag p≤1)→(zm a≠0→p≠0)→
   Ends ZR (L1 (k:Int) (BY p) (BR p) o1 a.1 a.2) Q
 |0,k,p,a,h,_,_,_,_,_=>by omega
 |f+1,k,p,a,hk,hk2,ha,he,h1,h2=>by
  have hL:(1:Int)<(18446744073709551616:Int)^(4000:Nat):=yd (show(1:Int)<18446744073709551616^(1:Nat)by decide) (AN (b:=18446744073709551616) (by decide) (by omega));rw[←he]at hR;obtain⟨s1,s2,s3,s4⟩:=dO hL hR h1 h2;by_cases h0:k=0
  ·subst h0;rw[zF,z7]at he;subst he;exact zo (Ap ..) (zy (by simp) (zn (hq _)))
  ·have jp:BF (BY p,BR p)=true:=Hu (dI s1);have ja:BF a=true:=ha (by omega);have ef:Int.fdiv (k:Int) ((2:Int)^(1:Nat))=((k/2:Nat):Int):=by
    rw[z6 _ (by decide)];rfl
   have m1:(HE (BY p,BR p) a,HJ (BY p,BR p) a)=B7 (p*zm a):=by
    show B7 (zm (B7 p)*zm a)=_;rw[B6]
   have m1s:HE (BY p,BR p) (a.1,a.2)=BY (p*zm a):=congrArg Prod.fst m1;have m1w:HJ (BY p,BR p) (a.1,a.2)=BR (p*zm a):=congrArg Prod.snd m1;have m2:zm (UJ a a)=zm a*zm a:=aE a a;have sq:∀q:Int,1<k→q*(zm a*zm a)^(k/2)=p*zm a^k→(zm a=0→Ag q≤1)→(zm a≠0→q≠0)→Ends ZR (L1 ((k/2:Nat):Int) (BY q) (BR q) o1 (HE (a.1,a.2) (a.1,a.2)) (HJ (a.1,a.2) (a.1,a.2))) Q:=by
    intro q hk1 hq' g1 g2;refine Aq o1 R (by rw[he]at hR;exact hR) hq f (k/2) q (UJ a a) (by omega) (by omega) (fun _=>Hu (dI (s3 (by omega)))) (by rw[m2,hq',he]) (fun z=>g1 ?_) (fun z=>g2 ?_)
    ·rw[m2]at z;rcases Int.mul_eq_zero.1 z with z|z<;>exact z
    ·rintro z2;rw[m2,z2]at z;exact z rfl
   have st:∀q:Int,k=1→q=R→Ends ZR (L1 ((k/2:Nat):Int) (BY q) (BR q) o1 a.1 a.2) Q:=by
    intro q hk1 hq';subst hk1 hq';exact zo (Ap ..) (zy (by simp) (zn (hq _)))
   refine zo (Ap ..) (zc (decide_eq_true (by omega)) ?_);rw[cL k (by omega),ef,m1s,m1w];refine zr (fun c=>?_) (fun c=>?_)
   ·have c:((k % 2:Nat):Int)=1:=by simpa using c
    refine zc (Am jp ja) (zr (fun d=>zc (Am ja ja) (zc rfl ?_)) (fun d=>zc rfl ?_))
    ·have d:=of_decide_eq_true d;refine sq _ (by omega) (U5 (by omega)) (fun z=>by rw[z,z8];decide) (fun z=>?_);exact Int.mul_ne_zero (h2 z) z
    ·have d:=of_decide_eq_false d;have hk1:k=1:=by omega
     refine st _ hk1 ?_;rw[←he,hk1,zt,zF,zK]
   ·have c:((k % 2:Nat):Int)≠1:=by simpa using c
    refine zr (fun d=>zc (Am ja ja) (zc rfl ?_)) (fun d=>?_)
    ·have d:=of_decide_eq_true d;exact sq _ (by omega) (Tz (by omega)) h1 h2
    ·have d:=of_decide_eq_false d;omega
theorem XI:∀g sp,ZR.sp g=some sp→Ac A4 g sp:=Ab T43n.ok (Ab T94.ok (fun g sp h=>by cases h))
theorem ok:Ac A4 95 VP:=by
 refine AJ (X:=ZR) rfl XI (d:=9) (by kernel_rfl) (by kernel_rfl) (by kernel_rfl) (fun(i:(Int×List Int)×Int) hi=>?_) (Ad (by kernel_rfl));obtain⟨a,k⟩:=i;have hi:(BF a&&(decide (0≤k)&&decide (k≤100000)&&decide (Ag (Sp.pI (zm a) k)<(18446744073709551616:Int)^(4000:Nat))))=true:=hi;rw[zi,zi,zi,decide_eq_true_eq,decide_eq_true_eq,decide_eq_true_eq,Of]at hi;obtain⟨ha,⟨k0,k1⟩,hR⟩:=hi;obtain⟨n,rfl⟩:=yf k0;have e1:EG 1=BR 1:=by rw[C9];rfl
 refine zS (Ay a n) (zc rfl ?_);rw[e1];refine Aq (Q:=Af VP (a,(n:Int))) 0 (zm a^n) hR (fun ob=>zW rfl rfl ?_) (n+1) n 1 a (by omega) (by omega) (fun _=>ha) (zK _) (fun _=>by decide) (fun _=>by decide);show B7 _=B7 (Sp.pI (zm a) (n:Int));rw[Of];rfl
end T95
end Go.Pe
end
section
namespace Go.Sp
theorem LI{l:List Int}(h:HD l=true):l.length≤20000∧As B9 l:=by
 unfold HD at h;rw[zi,decide_eq_true_eq,yB]at h;exact⟨h.1,fun d hd=>by
  have:=h.2 d hd;rw[zi,decide_eq_true_eq,decide_eq_true_eq]at this;exact this⟩
theorem Jd{l:List Int}(h1:l.length≤20000)(h2:As B9 l):HD l=true:=by
 unfold HD;rw[zi,decide_eq_true_eq,yB];exact⟨h1,fun d hd=>by
  have:=h2 d hd;rw[zi,decide_eq_true_eq,decide_eq_true_eq];exact this⟩
theorem Zd{l:List Int}(h:hR l=true):l.length≤9000∧As B9 l:=by
 unfold hR at h;rw[zi,decide_eq_true_eq]at h;exact⟨h.2,(LI h.1).2⟩
theorem SV{l:List Int}(h1:l.length≤9000)(h2:As B9 l):hR l=true:=by
 unfold hR;rw[Jd (by omega) h2,yi];exact decide_eq_true h1
theorem D1{l:List Int}(h:B3 l=true):l.length≤20000∧As B9 l∧nz l:=by
 unfold B3 at h;rw[zi]at h;have:=LI h.1;exact⟨this.1,this.2,by
  have:=h.2;unfold ZM at this;have:l.getLast?≠some 0:=of_decide_eq_true this;exact this⟩
theorem Vi{l:List Int}(h1:l.length≤20000)(h2:As B9 l)(h3:nz l):B3 l=true:=by
 unfold B3 ZM;rw[Jd h1 h2,yi];exact decide_eq_true h3
theorem E2{l:List Int}(h:As B9 l)(i:Nat):0≤l.getD i 0∧l.getD i 0<1000000000:=K1 (by decide) h i
theorem EA{l:List Int}{x:Int}(h:As B9 l)(hx:0≤x∧x<1000000000):As B9 (l++[x]):=DA h (fun d hd=>by rw[yc]at hd;subst hd;exact hx)
theorem Cd(l:List Int)(x:Int):val B9 (l++[x])=val B9 l+(B9:Int)^l.length*x:=by
 rw[B4];simp[val]
theorem MJ(i:Nat)(c:Int):(B9:Int)^(i+1)*c=(B9:Int)^i*(1000000000*c):=by
 rw[zt,zG];rfl
theorem EW{l:List Int}(h:As B9 l):Ax l=Cj (AQ l):=R9 (by decide) h
theorem Oq{n:Int}{k:Nat}(h0:0≤n)(h:n<(B9:Int)^k):(Cj n).length≤k:=by
 refine On B9 (by decide) k n.toNat n.toNat ?_;have e:((B9^k:Nat):Int)=(B9:Int)^k:=Int.natCast_pow ..;rw[←e]at h;generalize B9^k=P at*;omega
theorem Jq{n:Int}{k:Nat}(h0:0≤n)(h:n<(B9:Int)^k)(hk:k≤9000):B3 (Cj n)=true∧hR (Cj n)=true∧AQ (Cj n)=n∧(Cj n).length≤k:=by
 have h1:=Oq h0 h;have h2:=GY (b:=B9) (by decide) n;exact⟨Vi (by omega) h2 (SX (by decide) n),SV (by omega) h2,CU (by decide) h0,h1⟩
end Go.Sp
namespace Go.Pe
open Sp
open Go.Det
theorem O4:∀g sp,Ur.sp g=some sp→Ac A4 g sp:=fun g sp h=>by cases h
namespace T162
theorem Aq{Q:PV→Ob→Prop}:∀(n:Nat) (w:List Int),w.length=n→n≤20000→(∀ob,Q (.dat li (Ax w)) ob)→Ends Ur (L1 w) Q
 |0,w,hl,_,hq=>by
  have:w=[]:=zB.1 hl;subst this;exact zo (Ap ..) (zy (by simp) (zn (hq _)))
 |n+1,w,hl,hn,hq=>by
  obtain⟨p,x,rfl⟩:∃p x,w=p++[x]:=by
   have hne:w≠[]:=by rintro rfl;simp at hl
   exact⟨w.dropLast,w.getLast hne,(ym hne).symm⟩
  have hp:p.length=n:=by simpa using hl
  have e1:zf .i64 (((p++[x]).length:Int)-1)=(n:Int):=by rw[wr _ (by omega) (by omega)];omega
  have g1:(p++[x]).getD n 0=x:=BZ _ _ _ _ hp;have t1:(p++[x]).take n=p:=by rw[←hp];exact yH
  refine zo (Ap ..) (zc (decide_eq_true (by omega)) ?_);rw[e1,zg,g1,t1];refine zc (by simp;omega) (zr (fun c=>zc (by simp;omega) ?_) (fun c=>?_))
  ·have c:x=0:=by simpa using c
   subst c;rw[GB]at hq;exact Aq n p hp (by omega) hq
  ·have c:x≠0:=by simpa using c
   rw[GI (SP c)]at hq;exact zn (hq _)
theorem ok:Ac A4 162 Rq:=by
 refine AJ (X:=Ur) rfl O4 (d:=9) (by kernel_rfl) (by kernel_rfl) (by kernel_rfl) (fun(w:List Int) hw=>?_) (Ad (by kernel_rfl));have hw:w.length≤20000:=of_decide_eq_true hw;exact zS (Ay w) (Aq w.length w rfl hw (fun ob=>zW rfl rfl rfl))
end T162
theorem NW:∀g sp,RR.sp g=some sp→Ac A4 g sp:=Ab T162.ok (fun g sp h=>by cases h)
theorem T159.ok:Ac A4 159 Md:=by
 refine AJ (X:=RR) rfl NW (d:=9) (by kernel_rfl) (by kernel_rfl) (by kernel_rfl) (fun(i:Bool×List Int) hi=>?_) (Ad (by kernel_rfl));obtain⟨n,w⟩:=i;refine zS (T159.Ay n w) (zc hi (zr (fun c=>zn (zW rfl rfl ?_)) (fun c=>zn (zW rfl rfl ?_))))
 ·show(decide (((Ax w).length:Int)>0),Ax w)=(DY n w,Ax w);unfold DY;rw[c,yi];congr 1;rw[decide_eq_decide];constructor
  ·intro h h2;rw[h2]at h;simp at h
  ·intro h;have:(Ax w).length≠0:=fun h2=>h (zB.1 h2)
   omega
 ·show(false,Ax w)=(DY n w,Ax w);unfold DY;rw[c];rfl
namespace T160
theorem Aq{Q:PV→Ob→Prop}(a b:List Int)(ha:As ze a)(hb:As ze b)(hl:a.length=b.length)(h2:b.length≤20000)(hq:∀ob,Q (.dat i64 (BO (AQ a) (AQ b))) ob):∀(i:Nat),i≤a.length→a.drop i=b.drop i→Ends Ur (L1 a b ((i:Int)-1)) Q
 |0,hi,he=>by
  have he:a=b:=he;have:BO (AQ a) (AQ b)=0:=by rw[he];unfold BO;simp
  rw[this]at hq;exact zo (Ap ..) (zy (by simp) (zn (hq _)))
 |i+1,hi,he=>by
  have e1:(((i+1:Nat):Int)-1)=(i:Int):=by omega
  have da:a.drop i=a.getD i 0::a.drop (i+1):=BX (by omega);have db:b.drop i=b.getD i 0::a.drop (i+1):=by rw[he];exact BX (by omega)
  rw[e1];refine zo (Ap ..) (zc (by simp) ?_);rw[zg];refine zc (by simp;omega) (zc (by simp;omega) (zr (fun d=>?_) (fun d=>zc (by simp;omega) (zc (by simp;omega) (zr (fun c=>?_) (fun c=>?_))))))
  ·have d:=of_decide_eq_true d;have:=Ht (b:=ze) (by decide) ha hb da db d;have e:BO (AQ a) (AQ b)= -1:=by unfold BO;exact if_pos this
   rw[e]at hq;exact zn (hq _)
  ·have c:=of_decide_eq_true c;have:=Ht (b:=ze) (by decide) hb ha db da c;have e:BO (AQ a) (AQ b)=1:=by unfold BO AQ;rw[if_neg (by omega),if_pos (by omega)]
   rw[e]at hq;exact zn (hq _)
  ·have c:=of_decide_eq_false c;have d:=of_decide_eq_false d;rw[wr ((i:Int)-1) (by omega) (by omega)];exact Aq a b ha hb hl h2 hq i (by omega) (by rw[da,db,show a.getD i 0=b.getD i 0 by omega])
theorem ok:Ac A4 160 VW:=by
 refine AJ (X:=Ur) rfl O4 (d:=9) (by kernel_rfl) (by kernel_rfl) (by kernel_rfl) (fun(i:List Int×List Int) hi=>?_) (Ad (by kernel_rfl));obtain⟨a,b⟩:=i;have hi:(B3 a&&B3 b)=true:=hi;rw[zi]at hi;obtain⟨a1,a2,a3⟩:=D1 hi.1;obtain⟨b1,b2,b3⟩:=D1 hi.2;have hq:∀ob,Af VW (a,b) (.dat i64 (BO (AQ a) (AQ b))) ob:=fun ob=>zW rfl rfl rfl
 refine zS (Ay a b) (zr (fun c=>zr (fun d=>?_) (fun d=>?_)) (fun c=>?_))
 ·have d:=of_decide_eq_true d;have e:BO (AQ a) (AQ b)= -1:=by unfold BO;exact if_pos (Dm (by decide) a2 b2 b3 (by omega))
  rw[e]at hq;exact zn (hq _)
 ·have d:=of_decide_eq_false d;have c:(a.length:Int)≠b.length:=by simpa using c
  have:=Dm (b:=ze) (by decide) b2 a2 a3 (by omega);have e:BO (AQ a) (AQ b)=1:=by
   unfold BO AQ;rw[if_neg (by omega),if_pos (by omega)]
  rw[e]at hq;exact zn (hq _)
 ·have c:(a.length:Int)=b.length:=by simpa using c
  rw[wr _ (by omega) (by omega)];exact Aq a b a2 b2 (by omega) b1 hq a.length (by omega) (by rw[yA,yF (by omega)])
end T160
theorem TQ{x y o c:Int}(hx:0≤x∧x<1000000000)(hy:0≤y∧y<1000000000)(ho:0≤o∧o<1000000000)(hc:0≤c∧c<1000000000):
  zf .i64 (zf .i64 (o+zf .i64 (x*y))+c)=o+x*y+c∧yr (o+x*y+c) 1000000000=(o+x*y+c) % 1000000000∧zf .i64 (zU (o+x*y+c) 1000000000)=(o+x*y+c)/1000000000∧
  (0≤(o+x*y+c)/1000000000∧(o+x*y+c)/1000000000<1000000000)∧(0≤(o+x*y+c) % 1000000000∧(o+x*y+c) % 1000000000<1000000000):=by
 have h0:0≤x*y:=zE hx.1 hy.1;have h1:x*y≤999999999*999999999:=by
  have a:=zh (show y≤999999999 by omega) hx.1;have b:=zk (show x≤999999999 by omega) (show(0:Int)≤999999999 by omega);omega
 generalize x*y=P at*;have e1:zf .i64 P=P:=wr _ (by omega) (by omega);have e2:zf .i64 (o+P)=o+P:=wr _ (by omega) (by omega);have e3:zU (o+P+c) 1000000000=(o+P+c)/1000000000:=zu (by omega);refine⟨?_,zA (by omega),?_,by omega,by omega⟩
 ·rw[e1,e2];exact wr _ (by omega) (by omega)
 ·rw[e3];exact wr _ (by omega) (by omega)
namespace T163
variable {Q:PV→Ob→Prop}
theorem Be(x y:List Int)(n i:Nat)(hi:i<x.length)(hn:n=x.length+y.length)(hx9:x.length≤9000)(hy9:y.length≤9000)(hx:As ze x)(hy:As ze y)(p:List Int)(hp:p.length=i+y.length)(hdp:As ze p)
  (hq:∀q c,q.length=i+y.length→As ze q→(0≤c∧c<1000000000)→zd ze q+(ze:Int)^(i+y.length)*c=zd ze p+(ze:Int)^i*(x.getD i 0*zd ze y)→Ends RR (L1 x y n ((i+1:Nat):Int) ((q++[c])++zl (n-(i+y.length+1)) 0)) Q):∀(k j:Nat) (q:List Int) (c:Int),j+k=y.length→q.length=i+j→As ze q→(0≤c∧c<1000000000)→zd ze q+(ze:Int)^(i+j)*c=zd ze (p.take (i+j))+(ze:Int)^i*(x.getD i 0*zd ze (y.take j))→
  Ends RR (L2 x y n i c j (q++(p.drop (i+j)++zl (n-(i+y.length)) 0))) Q
 |0,j,q,c,hj,hl,hd,hc,he=>by
  have hj:j=y.length:=by omega
  subst hj;have e1:zf .i64 ((i:Int)+(y.length:Int))=((i+y.length:Nat):Int):=by rw[wr _ (by omega) (by omega)];omega
  have e2:zf .i64 ((i:Int)+1)=((i+1:Nat):Int):=by rw[wr _ (by omega) (by omega)];omega
  have ed:p.drop (i+y.length)=[]:=yF (by omega);have eg:(q++zl (n-(i+y.length)) (0:Int)).getD (i+y.length) 0=0:=by
   have:n-(i+y.length)=(n-(i+y.length+1))+1:=by omega
   rw[this,List.replicate_succ];exact BZ _ _ _ _ hl
  refine zo (AS ..) (zy (by simp) ?_);rw[e1,e2,zg,ed,yn,eg,Int.zero_add,wr c (by omega) (by omega),Hl q n _ c hl (by omega)];refine zc (by simp;omega) (zc (by simp;omega) (zc (by simp;omega) (zc (by simp;omega) (hq q c hl hd hc ?_))));rw[he,zj (by omega),zL]
 |k+1,j,q,c,hj,hl,hd,hc,he=>by
  have gx:=E2 hx i;have gy:=E2 hy j;have gp:=E2 hdp (i+j);have ep:p.drop (i+j)=p.getD (i+j) 0::p.drop (i+j+1):=BX (by omega);have e1:zf .i64 ((i:Int)+(j:Int))=((i+j:Nat):Int):=by rw[wr _ (by omega) (by omega)];omega
  have e2:zf .i64 ((j:Int)+1)=((j+1:Nat):Int):=by rw[wr _ (by omega) (by omega)];omega
  have lo:(q++(p.drop (i+j)++zl (n-(i+y.length)) (0:Int))).length=n:=by simp;omega
  have g1:(q++(p.drop (i+j)++zl (n-(i+y.length)) (0:Int))).getD (i+j) 0=p.getD (i+j) 0:=by
   rw[ep,List.cons_append];exact BZ _ _ _ _ hl
  have s1:∀z,(q++(p.drop (i+j)++zl (n-(i+y.length)) (0:Int))).set (i+j) z=(q++[z])++(p.drop (i+(j+1))++zl (n-(i+y.length)) 0):=by
   intro z;rw[ep,List.cons_append,BT _ _ _ _ hl,zD];rfl
  obtain⟨m1,m2,m3,m4,m5⟩:=TQ gx gy gp hc;refine zo (AS ..) (zc (by simp;omega) ?_);rw[e1,e2,zg,zg,zg,g1,m1,m2,m3,s1];have t1:(decide ((0:Int)≤((i+j:Nat):Int))&&decide (((i+j:Nat):Int)<(n:Int)))=true:=by simp;omega
  refine zc t1 (zc (decide_eq_true (by rw[lo];omega)) (zc (by simp;omega) (zc (by simp;omega) (zc rfl (zc t1 (zc (decide_eq_true (by rw[lo];omega)) (zc rfl ?_)))))));refine Be x y n i hi hn hx9 hy9 hx hy p hp hdp hq k (j+1) _ _ (by omega) (by simp;omega) (EA hd m5) m4 ?_;have ea:i+(j+1)=(i+j)+1:=by omega
  have eb:(ze:Int)^i*(x.getD i 0*((ze:Int)^j*y.getD j 0))=(ze:Int)^(i+j)*(x.getD i 0*y.getD j 0):=by
   rw[yG,zG,zH (x.getD i 0)]
  have e6:(p.getD (i+j) 0+x.getD i 0*y.getD j 0+c) % 1000000000+1000000000*((p.getD (i+j) 0+x.getD i 0*y.getD j 0+c)/1000000000)=x.getD i 0*y.getD j 0+p.getD (i+j) 0+c:=by
   generalize x.getD i 0*y.getD j 0=P;omega
  rw[ea,Cd,hl,MJ,ya, ←zx,e6,Av _ p (i+j),Av _ y j,zx,zx,zx (x.getD i 0),zx,eb];omega
theorem Aq(x y:List Int)(n:Nat)(hn:n=x.length+y.length)(hx9:x.length≤9000)(hy9:y.length≤9000)(hx:As ze x)(hy:As ze y)(hq:∀ob,Q (.dat li (Cj (AQ x*AQ y))) ob):∀(k i:Nat) (p:List Int),i+k=x.length→p.length=i+y.length→As ze p→zd ze p=zd ze (x.take i)*zd ze y→
  Ends RR (L1 x y n i (p++zl (n-(i+y.length)) 0)) Q
 |0,i,p,hi,hp,hd,he=>by
  have hi:i=x.length:=by omega
  subst hi;have ez:p++zl (n-(x.length+y.length)) (0:Int)=p:=by rw[hn,Nat.sub_self];simp
  have hv:AQ p=AQ x*AQ y:=by
   rw[zL]at he;exact he
  rw[ez];refine zo (Ap ..) (zy (by simp) ?_);rw[zj (by omega)];refine zc ?_ (zn ?_)
  ·simp;omega
  ·rw[EW hd,hv];exact hq _
 |k+1,i,p,hi,hp,hd,he=>by
  refine zo (Ap ..) (zc (by simp;omega) ?_);have:=Be (Q:=Q) x y n i (by omega) hn hx9 hy9 hx hy p hp hd (fun q c hl hdq hc hv=>by
   have:=Aq x y n hn hx9 hy9 hx hy hq k (i+1) (q++[c]) (by omega) (by simp;omega) (EA hdq hc) (by
    rw[Cd,hl,hv,he,Av,Int.add_mul,zG])
   rw[show i+1+y.length=i+y.length+1 by omega]at this;exact this) y.length 0 (p.take i) 0 (by omega) (by simp;omega) (AE hd i) (by decide) (by simp[zd])
  rw[Nat.add_zero, ←zD,zX]at this;exact this
theorem ok:Ac A4 163 U4:=by
 refine AJ (X:=RR) rfl NW (d:=9) (by kernel_rfl) (by kernel_rfl) (by kernel_rfl) (fun(i:List Int×List Int) hi=>?_) (Ad (by kernel_rfl));obtain⟨x,y⟩:=i;have hi:(Sp.hR x&&Sp.hR y)=true:=hi;rw[zi]at hi;obtain⟨x1,x2⟩:=Zd hi.1;obtain⟨y1,y2⟩:=Zd hi.2;have e1:zf .i64 ((x.length:Int)+(y.length:Int))=((x.length+y.length:Nat):Int):=by rw[wr _ (by omega) (by omega)];omega
 refine zS (Ay x y) ?_;conv=>zeta
 rw[e1,zg];refine zc (by simp;omega) ?_;have:=Aq (Q:=Af U4 (x,y)) x y (x.length+y.length) rfl x1 y1 x2 y2 (fun ob=>zW rfl rfl rfl) x.length 0 (zl y.length 0) (by omega) (by simp) (fun d hd=>by rw[(List.mem_replicate.1 hd).2];decide) (by rw[Jk];simp[zd]);rw[Nat.zero_add,List.replicate_append_replicate,show y.length+(x.length+y.length-y.length)=x.length+y.length by omega]at this;exact this
end T163
theorem T0{r x d:Int}(hd:0<d∧d<1000000000)(hr:0≤r∧r<d)(hx:0≤x∧x<1000000000):
  zf .i64 (zf .i64 (r*1000000000)+x)=r*1000000000+x∧zf .i64 (zU (r*1000000000+x) d)=(r*1000000000+x)/d∧yr (r*1000000000+x) d=(r*1000000000+x) % d∧
  (0≤(r*1000000000+x)/d∧(r*1000000000+x)/d<1000000000)∧(0≤(r*1000000000+x) % d∧(r*1000000000+x) % d<d)∧(r*1000000000+x)/d*d+(r*1000000000+x) % d=r*1000000000+x:=by
 have h:=zP (r*1000000000+x) d;rw[zw]at h;have q0:0≤(r*1000000000+x)/d:=yj (by omega) (by omega);have q1:(r*1000000000+x)/d<1000000000:=yh hd.1 (by omega);refine⟨?_,?_,zA (by omega),⟨q0,q1⟩,⟨zQ _ (by omega),zM _ hd.1⟩,h⟩
 ·rw[wr (r*1000000000) (by omega) (by omega)];exact wr _ (by omega) (by omega)
 ·rw[zu (by omega)];exact wr _ (by omega) (by omega)
namespace T161
variable {Q:PV→Ob→Prop}
theorem Aq(a:List Int)(d:Int)(ha:As ze a)(hd:0<d∧d<1000000000)(hm:a.length≤20000)(hq:∀q r ob,As ze q→(0≤r∧r<d)→AQ a=AQ q*d+r→Q (.tup [.dat li (Ax q),.dat i64 r]) ob):∀(i:Nat) (q:List Int) (r:Int),i+q.length=a.length→As ze q→(0≤r∧r<d)→zd ze (a.drop i)=zd ze q*d+r→
  Ends RR (L1 a d a.length r ((i:Int)-1) (zl i 0++q)) Q
 |0,q,r,hl,hdq,hr,he=>by
  have ht:((zl 0 0++q).take a.length)=q:=by
   rw[List.replicate_zero,yn];exact zj (by omega)
  refine zo (Ap ..) (zy (by simp) ?_);rw[ht];refine zc (Am (by simp;omega) (decide_eq_true (by omega))) (zn (hq q r _ hdq hr he))
 |i+1,q,r,hl,hdq,hr,he=>by
  have e1:(((i+1:Nat):Int)-1)=(i:Int):=by omega
  have gx:=E2 ha i;obtain⟨d1,d2,d3,d4,d5,d6⟩:=T0 hd hr gx;have da:a.drop i=a.getD i 0::a.drop (i+1):=BX (by omega);have es:∀x,(zl (i+1) (0:Int)++q).set i x=zl i 0++(x::q):=by
   intro x;rw[List.replicate_succ',zD];exact BT _ _ _ _ (by simp)
  rw[e1];refine zo (Ap ..) (zc (by simp) ?_);rw[zg,es,wr ((i:Int)-1) (by omega) (by omega),d1,d2,d3];refine zc (by simp;omega) (zc (decide_eq_true (by omega)) (zc (by simp;omega) (zc (by simp;omega) (zc (decide_eq_true (by omega)) ?_))));refine Aq a d ha hd hm hq i _ _ (by simp;omega) (fun x hx=>?_) d5 ?_
  ·rcases yz.1 hx with rfl|hx
   ·exact d4
   ·exact hdq x hx
  ·rw[da];show a.getD i 0+(1000000000:Int)*zd ze (a.drop (i+1))=((r*1000000000+a.getD i 0)/d+(1000000000:Int)*zd ze q)*d+(r*1000000000+a.getD i 0) % d;rw[he,Int.add_mul,zx,zG];omega
theorem ok:Ac A4 161 RA:=by
 refine AJ (X:=RR) rfl NW (d:=9) (by kernel_rfl) (by kernel_rfl) (by kernel_rfl) (fun(i:List Int×Int) hi=>?_) (Ad (by kernel_rfl));obtain⟨a,d⟩:=i;have hi:(HD a&&decide (0<d)&&decide (d<1000000000))=true:=hi;rw[zi,zi,decide_eq_true_eq,decide_eq_true_eq]at hi;obtain⟨⟨ha,d0⟩,d1⟩:=hi;obtain⟨hl,hda⟩:=LI ha;refine zS (Ay a d) ?_;conv=>zeta
 rw[zg,wr ((a.length:Int)-1) (by omega) (by omega)];refine zc (by simp;omega) ?_;have:=Aq (Q:=Af RA (a,d)) a d hda ⟨d0,d1⟩ hl (fun q r ob hq hr he=>?_) a.length [] 0 (by simp) (fun x hx=>by cases hx) ⟨yu _,d0⟩ (by rw[yA];simp[zd])
 ·rw[yk]at this;exact this
 ·refine zW rfl rfl ?_;show(Ax q,r)=(Cj (AQ a/d),AQ a % d);obtain⟨u1,u2⟩:=(zR (a:=AQ a) (b:=d) (r:=r) (q:=AQ q) d0).2 ⟨by rw[zw d];omega,hr.1,hr.2⟩;rw[EW hq,u1,u2]
end T161
end Go.Pe
end
section
namespace Go.Pe
open Sp
open Go.Det
theorem X4:∀g sp,Jf.sp g=some sp→Ac A4 g sp:=
 Ab T160.ok (Ab T162.ok (Ab T161.ok (Ab T163.ok (fun g sp h=>by cases h))))
theorem O3{t x y w:Int}(ht:0≤t∧t<1000000000)(hx:0≤x∧x<1000000000)(hy:0≤y∧y<1000000000)(hw:0≤w∧w≤1000000000):
  zf .i64 (zf .i64 (t*x)+w)=t*x+w∧yr (t*x+w) 1000000000=(t*x+w) % 1000000000∧zf .i64 (zU (t*x+w) 1000000000)=(t*x+w)/1000000000∧
  zf .i64 ((t*x+w)/1000000000+1)=(t*x+w)/1000000000+1∧zf .i64 (y-(t*x+w) % 1000000000)=y-(t*x+w) % 1000000000∧(0≤(t*x+w)/1000000000∧(t*x+w)/1000000000<1000000000)∧(0≤(t*x+w) % 1000000000∧(t*x+w) % 1000000000<1000000000):=by
 have h0:0≤t*x:=zE ht.1 hx.1;have h1:t*x≤999999999*999999999:=by
  have a:=zh (show x≤999999999 by omega) ht.1;have b:=zk (show t≤999999999 by omega) (show(0:Int)≤999999999 by omega);omega
 generalize t*x=P at*;have e1:zf .i64 P=P:=wr _ (by omega) (by omega);have e3:zU (P+w) 1000000000=(P+w)/1000000000:=zu (by omega);refine⟨?_,zA (by omega),?_,wr _ (by omega) (by omega),wr _ (by omega) (by omega),by omega,by omega⟩
 ·rw[e1];exact wr _ (by omega) (by omega)
 ·rw[e3];exact wr _ (by omega) (by omega)
theorem Us(w r:List Int)(i:Nat)(h:i<w.length):(w++r).getD i 0=w.getD i 0:=by
 rw[zN,zN,List.getElem?_append_left h]
namespace T102
variable {Q:PV→Ob→Prop}
theorem gW{lo w z:List Int}{h:Int}{j i:Nat}(hlo:lo.length=j)(hi:i<w.length):(lo++(w++h::z)).getD (i+j) 0=w.getD i 0:=by
 rw[E7 _ _ _ _ hlo,Us _ _ _ hi]
theorem sW{lo w z:List Int}{h:Int}{j i:Nat}(x:Int)(hlo:lo.length=j)(hi:i<w.length):(lo++(w++h::z)).set (i+j) x=lo++(w.set i x++h::z):=by
 rw[OG _ _ _ _ _ hlo,List.set_append_left _ _ hi]
theorem gH{lo w z:List Int}{h:Int}{j n:Nat}(hlo:lo.length=j)(hn:w.length=n):(lo++(w++h::z)).getD (n+j) 0=h:=by
 rw[E7 _ _ _ _ hlo];exact BZ _ _ _ _ hn
theorem sH{lo w z:List Int}{h:Int}{j n:Nat}(x:Int)(hlo:lo.length=j)(hn:w.length=n):(lo++(w++h::z)).set (n+j) x=lo++(w++x::z):=by
 rw[OG _ _ _ _ _ hlo];congr 1;exact BT _ _ _ _ hn
theorem KT(w z:List Int)(h:Int)(hz:zd ze z=0):zd ze (w++h::z)=zd ze w+(ze:Int)^w.length*h:=by
 rw[B4];show _+_*(h+(ze:Int)*zd ze z)=_;rw[hz,z8,yo]
theorem BK(v8n v11n v12n:Nat)(o2 o0 v lo z:List Int)(n j:Nat)(t h' X:Int)(hn:v.length=n)(hn9:n≤9000)(hlo:lo.length=j)(hj:j≤9000)(h11:n+j<v11n)(hjv:j<v12n)(hj1:j<o2.length)(hv:As ze v)(hz:zd ze z=0)(hdz:As ze z)(hh: -2000000000≤h'∧h'≤2000000000)
  (hX:0≤X∧X<(ze:Int)^n) (hlen:v11n=j+n+1+z.length)
  (hfin:∀r:List Int,r.length=n+1+z.length→As ze r→zd ze r=X→Ends Jf (L2 v8n v n v11n v12n (zf .i64 ((j:Int)-1)) (o2.set j t) (lo++r) o0) Q):
  ∀(k i:Nat) (w:List Int) (c:Int),i+k=n→w.length=n→As ze w→(0≤c∧c≤1)→zd ze w+(ze:Int)^n*h'=X-zd ze v+zd ze (v.take i)-(ze:Int)^i*c→
   Ends Jf (L5 v8n v n v11n v12n j t c i o2 (lo++(w++h'::z)) o0) Q
 |0,i,w,c,hi,hw,hd,hc,he=>by
  have hi:i=n:=by omega
  subst hi;have e1:zf .i64 ((j:Int)+(i:Int))=((i+j:Nat):Int):=by rw[wr _ (by omega) (by omega)];omega
  have hv1:v.take i=v:=zj (by omega);rw[hv1]at he;have a1:=Au (b:=ze) (by decide) hd;have a2:=Bi (b:=ze) (by decide) hd;rw[hw]at a2;have hp:=AK (b:=ze) (by decide) i;have e5:zd ze w+(ze:Int)^i*(h'+c)=X:=by rw[zx];omega
  have hzero:h'+c=0:=by
   rcases Int.lt_trichotomy (h'+c) 0 with g|g|g
   ·have:=zh (show h'+c≤ -1 by omega) (zp hp);rw[yI,z7]at this;omega
   ·exact g
   ·have:=zh (show 1≤h'+c by omega) (zp hp);rw[z7]at this;omega
  have hll:i+j<(lo++(w++h'::z)).length:=by simp;omega
  refine zo (Dk ..) (zy (by simp) ?_);rw[e1,zg,zg,gH hlo hw,sH _ hlo hw,wr (h'+c) (by omega) (by omega),hzero];have t1:(decide ((0:Int)≤((i+j:Nat):Int))&&decide (((i+j:Nat):Int)<(v11n:Int)))=true:=by simp;omega
  refine zc t1 (zc (decide_eq_true hll) (zc t1 (zc (decide_eq_true hll) (zc (by simp;omega) (zc (decide_eq_true hj1) (hfin _ (by simp;omega) (DA hd (fun d hd'=>?_)) ?_))))))
  ·rcases yz.1 hd' with rfl|hd'
   ·decide
   ·exact hdz d hd'
  ·rw[KT _ _ _ hz,hw, ←e5,hzero]
 |k+1,i,w,c,hi,hw,hd,hc,he=>by
  have gx:=E2 hv i;have gy:=E2 hd i;have e1:zf .i64 ((i:Int)+(j:Int))=((i+j:Nat):Int):=by rw[wr _ (by omega) (by omega)];omega
  have e2:zf .i64 ((i:Int)+1)=((i+1:Nat):Int):=by rw[wr _ (by omega) (by omega)];omega
  have e3:zf .i64 (zf .i64 (w.getD i 0+v.getD i 0)+c)=w.getD i 0+v.getD i 0+c:=by
   rw[wr (w.getD i 0+v.getD i 0) (by omega) (by omega)];exact wr _ (by omega) (by omega)
  have e4:yr (w.getD i 0+v.getD i 0+c) 1000000000=(w.getD i 0+v.getD i 0+c) % 1000000000:=zA (by omega);have e5:zf .i64 (zU (w.getD i 0+v.getD i 0+c) 1000000000)=(w.getD i 0+v.getD i 0+c)/1000000000:=by
   rw[zu (by omega)];exact wr _ (by omega) (by omega)
  have hll:i+j<(lo++(w++h'::z)).length:=by simp;omega
  refine zo (Dk ..) (zc (by simp;omega) ?_);rw[e1,e2,zg,zg,gW hlo (by omega),sW _ hlo (by omega),e3,e4,e5];have t1:(decide ((0:Int)≤((i+j:Nat):Int))&&decide (((i+j:Nat):Int)<(v11n:Int)))=true:=by simp;omega
  refine zc t1 (zc (decide_eq_true hll) (zc (by simp;omega) (zc rfl (zc t1 (zc (decide_eq_true hll) (zc rfl ?_))))));refine BK v8n v11n v12n o2 o0 v lo z n j t h' X hn hn9 hlo hj h11 hjv hj1 hv hz hdz hh hX hlen hfin k (i+1) _ _ (by omega) (by simp[hw]) (E1 hd i (by show 0≤_∧_<(1000000000:Int);omega)) (by omega) ?_;rw[Fu _ _ _ _ (by omega),MJ,Av];have e6:(ze:Int)^i*((w.getD i 0+v.getD i 0+c) % 1000000000-w.getD i 0)=(ze:Int)^i*v.getD i 0+(ze:Int)^i*c-(ze:Int)^i*(1000000000*((w.getD i 0+v.getD i 0+c)/1000000000)):=by
   rw[←zx, ←ye];congr 1;omega
  omega
theorem BU(v8n v11n v12n:Nat)(o2 o0 v lo z:List Int)(n j:Nat)(t h W:Int)(hn:v.length=n)(hn9:n≤9000)(hlo:lo.length=j)(hj:j≤9000)(h11:n+j<v11n)(hjv:j<v12n)(hj1:j<o2.length)(hv:As ze v)(hh:0≤h∧h<1000000000)(hlen:v11n=j+n+1+z.length)(ht:0≤t∧t<1000000000)
  (h0:∀(w:List Int) (h':Int),w.length=n→As ze w→0≤h'→zd ze w+(ze:Int)^n*h'=W-t*zd ze v→Ends Jf (L2 v8n v n v11n v12n (zf .i64 ((j:Int)-1)) (o2.set j t) (lo++(w++h'::z)) o0) Q)
  (h1:∀(w:List Int) (h':Int),w.length=n→As ze w→h'<0→ -2000000000≤h'→zd ze w+(ze:Int)^n*h'=W-t*zd ze v→Ends Jf (L5 v8n v n v11n v12n j (zf .i64 (t-1)) 0 0 o2 (lo++(w++h'::z)) o0) Q):
  ∀(k i:Nat) (w:List Int) (c:Int),i+k=n→w.length=n→As ze w→(0≤c∧c≤1000000000)→zd ze w+(ze:Int)^n*h=W-t*zd ze (v.take i)+(ze:Int)^i*c→
   Ends Jf (L4 v8n v n v11n v12n j t c i o2 (lo++(w++h::z)) o0) Q
 |0,i,w,c,hi,hw,hd,hc,he=>by
  have hi:i=n:=by omega
  subst hi;have e1:zf .i64 ((j:Int)+(i:Int))=((i+j:Nat):Int):=by rw[wr _ (by omega) (by omega)];omega
  have hv1:v.take i=v:=zj (by omega);rw[hv1]at he;have hll:i+j<(lo++(w++h::z)).length:=by simp;omega
  have hll2:i+j<(lo++(w++(h-c)::z)).length:=by simp;omega
  have e5:zd ze w+(ze:Int)^i*(h-c)=W-t*zd ze v:=by rw[ye];omega
  refine zo (CG ..) (zy (by simp) ?_);rw[e1,zg,zg,gH hlo hw,wr (h-c) (by omega) (by omega),sH _ hlo hw,gH hlo hw];have t1:(decide ((0:Int)≤((i+j:Nat):Int))&&decide (((i+j:Nat):Int)<(v11n:Int)))=true:=by simp;omega
  refine zc t1 (zc (decide_eq_true hll) (zc t1 (zc (decide_eq_true hll) (zc t1 (zc (decide_eq_true hll2) (zr (fun d=>?_) (fun d=>?_)))))))
  ·have d:=of_decide_eq_true d;exact h1 w (h-c) hw hd d (by omega) e5
  ·have d:=of_decide_eq_false d;exact zc (by simp;omega) (zc (decide_eq_true hj1) (h0 w (h-c) hw hd (by omega) e5))
 |k+1,i,w,c,hi,hw,hd,hc,he=>by
  have gx:=E2 hv i;have gy:=E2 hd i;obtain⟨m1,m2,m3,m4,m5,m6,m7⟩:=O3 ht gx gy hc;have e1:zf .i64 ((i:Int)+(j:Int))=((i+j:Nat):Int):=by rw[wr _ (by omega) (by omega)];omega
  have e2:zf .i64 ((i:Int)+1)=((i+1:Nat):Int):=by rw[wr _ (by omega) (by omega)];omega
  have hll:i+j<(lo++(w++h::z)).length:=by simp;omega
  have t1:(decide ((0:Int)≤((i+j:Nat):Int))&&decide (((i+j:Nat):Int)<(v11n:Int)))=true:=by simp;omega
  have go:∀(x c':Int),(0≤x∧x<1000000000)→(0≤c'∧c'≤1000000000)→c+(x-w.getD i 0)=1000000000*c'-t*v.getD i 0→Ends Jf (L4 v8n v n v11n v12n j t c' ((i+1:Nat):Int) o2 (lo++(w.set i x++h::z)) o0) Q:=by
   intro x c' hx hc' hxc;refine BU v8n v11n v12n o2 o0 v lo z n j t h W hn hn9 hlo hj h11 hjv hj1 hv hh hlen ht h0 h1 k (i+1) _ _ (by omega) (by simp[hw]) (E1 hd i hx) hc' ?_;rw[Fu _ _ _ _ (by omega),MJ,Av,zx t,zH t];have e6:(ze:Int)^i*c+(ze:Int)^i*(x-w.getD i 0)=(ze:Int)^i*(1000000000*c')-(ze:Int)^i*(t*v.getD i 0):=by
    rw[←zx, ←ye,hxc]
   omega
  refine zo (CG ..) (zc (by simp;omega) ?_);rw[e1,e2,zg,zg,gW hlo (by omega),m1,m2,m3,m4,m5,sW _ hlo (by omega),sW _ hlo (by omega)];refine zc (by simp;omega) (zc t1 (zc (decide_eq_true hll) (zc rfl (zc rfl (zr (fun d=>?_) (fun d=>?_))))))
  ·have d:=of_decide_eq_true d;rw[wr (w.getD i 0-(t*v.getD i 0+c) % 1000000000+1000000000) (by omega) (by omega)];refine zc t1 (zc (decide_eq_true hll) (go _ _ (by omega) (by omega) ?_));generalize t*v.getD i 0=P at*;omega
  ·have d:=of_decide_eq_false d;refine zc t1 (zc (decide_eq_true hll) (go _ _ (by omega) (by omega) ?_));generalize t*v.getD i 0=P at*;omega
theorem XD(v8n v11n v12n:Nat)(o2 o0 v lo r0:List Int)(n j:Nat)(hn:v.length=n)(hn9:n≤9000)(hlo:lo.length=j)(hj:j≤9000)(hr:n+1≤r0.length)(hlen:v11n=j+r0.length)(hjv:j<v12n)(hj1:j<o2.length)(hv:As ze v)(hd:As ze r0)(hz:zd ze (r0.drop (n+1))=0)
  (hfin:∀(q:Int) (r:List Int),r.length=r0.length→As ze r→(0≤q∧q<1000000000)→zd ze r<zd ze v→zd ze r=zd ze r0-q*zd ze v→Ends Jf (L2 v8n v n v11n v12n (zf .i64 ((j:Int)-1)) (o2.set j q) (lo++r) o0) Q)
  (q:Int) (hq:0≤q∧q<1000000000) (h1:zd ze r0<(q+1)*zd ze v) (h2:q*zd ze v<zd ze r0+zd ze v):
  Ends Jf (L4 v8n v n v11n v12n j q 0 0 o2 (lo++r0) o0) Q:=by
 have hdec:r0=r0.take n++r0.getD n 0::r0.drop (n+1):=by
  rw[←BX (by omega)];exact(zX n r0).symm
 have gh:=E2 hd n;have hdw:=AE hd n;have hdz:=EX hd (n+1);have hlw:(r0.take n).length=n:=by rw[zz];omega
 have hlz:(r0.drop (n+1)).length=r0.length-(n+1):=zq ..;have hW:zd ze r0=zd ze (r0.take n)+(ze:Int)^n*r0.getD n 0:=by
  conv=>lhs;rw[hdec]
  rw[KT _ _ _ hz,hlw]
 have hVlt:=Bi (b:=ze) (by decide) hv;rw[hn]at hVlt;have hV0:=Au (b:=ze) (by decide) hv;have hW0:=Au (b:=ze) (by decide) hd;have hp:=AK (b:=ze) (by decide) n;rw[Int.add_mul,zK]at h1;rw[hdec];refine BU v8n v11n v12n o2 o0 v lo (r0.drop (n+1)) n j q (r0.getD n 0) (zd ze r0) hn hn9 hlo hj (by omega) hjv hj1 hv gh (by omega) hq (fun w h' a b c d=>?_) (fun w h' a b c c2 d=>?_) n 0 (r0.take n) 0 (by omega) hlw hdw (by decide) (by rw[←hW];simp[zd])
 ·have b0:=Au (b:=ze) (by decide) b;have hz':h'=0:=by
   rcases zJ 0 h' with g|g
   ·have:=zh (show 1≤h' by omega) (zp hp);omega
   ·omega
  refine hfin q _ (by simp;omega) (DA b (fun x hx=>?_)) hq ?_ ?_
  ·rcases yz.1 hx with rfl|hx
   ·rw[hz'];decide
   ·exact hdz x hx
  ·rw[KT _ _ _ hz,a,d];omega
  ·rw[KT _ _ _ hz,a,d]
 ·have b0:=Bi (b:=ze) (by decide) b;rw[a]at b0;have hneg:zd ze r0-q*zd ze v<0:=by
   have:=zh (show h'≤ -1 by omega) (zp hp);rw[yI,z7]at this;omega
  have hq1:1≤q:=by
   rcases zJ 0 q with g|g
   ·exact g
   ·have:q=0:=by omega
    subst this;rw[yL]at hneg;omega
  rw[wr (q-1) (by omega) (by omega)];refine BK v8n v11n v12n o2 o0 v lo (r0.drop (n+1)) n j (q-1) h' (zd ze r0-q*zd ze v+zd ze v) hn hn9 hlo hj (by omega) hjv hj1 hv hz hdz (by omega) (by omega) (by omega) (fun r a' b' d'=>?_) n 0 w 0 (by omega) a b (by decide) (by rw[d];simp[zd]<;>omega);refine hfin (q-1) r (by omega) b' (by omega) (by omega) ?_;rw[d',Int.sub_mul,zK];omega
theorem C2(v8n v11n v12n:Nat)(o2 o0 v lo r0:List Int)(a2 a1 a0:List Int)(k j:Nat)(hn:v.length=k+2)(hn9:k+2≤9000)(hlo:lo.length=j)(hj:j≤9000)(hr:k+3≤r0.length)(hlen:v11n=j+r0.length)(hjv:j<v12n)(hj1:j<o2.length)(hv:As ze v)(hd:As ze r0)(hz:zd ze (r0.drop (k+3))=0)(hv1:1≤v.getD (k+1) 0)
  (hle:r0.getD (k+2) 0≤v.getD (k+1) 0) (hBV:zd ze r0<1000000000*zd ze v)
  (hfin:∀(q:Int) (r:List Int),r.length=r0.length→As ze r→(0≤q∧q<1000000000)→zd ze r<zd ze v→zd ze r=zd ze r0-q*zd ze v→Ends Jf (L2 v8n v ((k+2:Nat):Int) v11n v12n (zf .i64 ((j:Int)-1)) (o2.set j q) (lo++r) o0) Q):
  ∀(f:Nat) (q r:Int),0≤q→q<f→q≤2000000000000000000→(0≤r∧r<1000000000)→q*v.getD (k+1) 0+r=r0.getD (k+2) 0*1000000000+r0.getD (k+1) 0→zd ze r0<(q+1)*zd ze v→
   Ends Jf (L3 v8n v ((k+2:Nat):Int) v11n v12n j a2 a1 a0 v11n v j ((k+2:Nat):Int) q r o2 (lo++r0) o0) Q
 |0,q,r,h0,hf,_,_,_,_=>by omega
 |f+1,q,r,h0,hf,hmax,hr1,he,hup=>by
  have gv2:=E2 hv k;have gv1:=E2 hv (k+1);have gu2:=E2 hd k;have gu1:=E2 hd (k+1);have hP:=AK (b:=ze) (by decide) k;have hW:=Yk ze r0 k (by omega) hz;have hV:=YX ze v k hn;have hu':=Au (b:=ze) (by decide) (AE hd k);have hu'':=Bi (b:=ze) (by decide) (AE hd k);have hv':=Au (b:=ze) (by decide) (AE hv k);have hv'':=Bi (b:=ze) (by decide) (AE hv k);have hV0:=Au (b:=ze) (by decide) hv;rw[zz,yb (by omega)]at hu'' hv'';have exit:∀q R:Int,0≤q→q<1000000000→q*v.getD (k+1) 0+R=r0.getD (k+2) 0*1000000000+r0.getD (k+1) 0→zd ze r0<(q+1)*zd ze v→q*v.getD k 0≤R*1000000000+r0.getD k 0→Ends Jf (L4 v8n v ((k+2:Nat):Int) v11n v12n j q 0 0 o2 (lo++r0) o0) Q:=by
   intro q R q0 q1 hqe hqu hx;refine XD v8n v11n v12n o2 o0 v lo r0 (k+2) j hn hn9 hlo hj hr hlen hjv hj1 hv hd hz hfin q ⟨q0,q1⟩ hqu ?_;rw[hW,hV];exact Pt hP ⟨hv',hv''⟩ hu' ⟨q0,q1⟩ hv1 gv2.1 hqe hx
  have e1:zf .i64 (((k+2:Nat):Int)-2)=(k:Int):=by rw[wr _ (by omega) (by omega)];omega
  have e2:zf .i64 (((k+2:Nat):Int)-1)=((k+1:Nat):Int):=by rw[wr _ (by omega) (by omega)];omega
  have e3:zf .i64 (zf .i64 ((j:Int)+((k+2:Nat):Int))-2)=((k+j:Nat):Int):=by
   rw[wr ((j:Int)+((k+2:Nat):Int)) (by omega) (by omega),wr _ (by omega) (by omega)];omega
  have g3:(lo++r0).getD (k+j) 0=r0.getD k 0:=E7 _ _ _ _ hlo;have b1:(decide ((0:Int)≤((k+1:Nat):Int))&&decide (((k+1:Nat):Int)<(v.length:Int)))=true:=by simp;omega
  have dec:zd ze r0<q*zd ze v→Ends Jf (.ite (decide (zf .i64 (r+v.getD (k+1) 0)≥(1000000000:Int))) (L4 v8n v ((k+2:Nat):Int) v11n v12n j (zf .i64 (q-1)) 0 0 o2 (lo++r0) o0) (L3 v8n v ((k+2:Nat):Int) v11n v12n j a2 a1 a0 v11n v j ((k+2:Nat):Int) (zf .i64 (q-1)) (zf .i64 (r+v.getD (k+1) 0)) o2 (lo++r0) o0)) Q:=by
   intro hx;have hW0:=Au (b:=ze) (by decide) hd;have hq1:1≤q:=by
    rcases zJ 0 q with g|g
    ·exact g
    ·have:q=0:=by omega
     subst this;rw[yL]at hx;omega
   have he':(q-1)*v.getD (k+1) 0+(r+v.getD (k+1) 0)=r0.getD (k+2) 0*1000000000+r0.getD (k+1) 0:=by rw[Int.sub_mul,zK];omega
   have hup':zd ze r0<(q-1+1)*zd ze v:=by rw[show q-1+1=q by omega];exact hx
   rw[wr (q-1) (by omega) (by omega),wr (r+v.getD (k+1) 0) (by omega) (by omega)];refine zr (fun c=>?_) (fun c=>?_)
   ·have c:=of_decide_eq_true c;have hlt:q-1<1000000000:=by
     rcases zJ (q-1) 1000000000 with g|g
     ·exact g
     ·have a:=zk g (show 0≤v.getD (k+1) 0 by omega);have b:=zk hle (show(0:Int)≤1000000000 by omega);omega
    refine exit (q-1) _ (by omega) hlt he' hup' ?_;have a:=zh (show v.getD k 0≤999999999 by omega) (show 0≤q-1 by omega);omega
   ·have c:=of_decide_eq_false c;exact C2 v8n v11n v12n o2 o0 v lo r0 a2 a1 a0 k j hn hn9 hlo hj hr hlen hjv hj1 hv hd hz hv1 hle hBV hfin f (q-1) _ (by omega) (by omega) (by omega) (by omega) he' hup'
  refine zo (BD ..) ?_;conv=>zeta
  rw[e1,e2,e3,zg,zg,zg,g3];refine zr (fun c=>zc b1 (dec ?_)) (fun c=>zc (by simp;omega) (zc (by simp;omega) (zc (by simp;omega) (zr (fun d=>zc b1 (dec ?_)) (fun d=>?_)))))
  ·have c:=of_decide_eq_true c;have:=zk c hV0;omega
  ·have c:=of_decide_eq_false c;have d:=of_decide_eq_true d;have a:=zh (show v.getD k 0≤999999999 by omega) h0;have b:=zE h0 gv2.1;rw[wr (q*v.getD k 0) (by omega) (by omega),wr (r*1000000000) (by omega) (by omega),wr _ (by omega) (by omega)]at d;have:=P7 (B:=ze) (u0:=r0.getD (k+2) 0) (u1:=r0.getD (k+1) 0) (u2:=r0.getD k 0) hP hv' hu'' h0 (v1:=v.getD (k+1) 0) (v2:=v.getD k 0) (r:=r) he d;rw[←hW, ←hV]at this;exact this
  ·have c:=of_decide_eq_false c;have d:=of_decide_eq_false d;have a:=zh (show v.getD k 0≤999999999 by omega) h0;have b:=zE h0 gv2.1;rw[wr (q*v.getD k 0) (by omega) (by omega),wr (r*1000000000) (by omega) (by omega),wr _ (by omega) (by omega)]at d;exact exit q r h0 (by omega) he hup (by omega)
end T102
end Go.Pe
end
section
namespace Go.Pe
open Sp
open Go.Det
theorem Gi{w:List Int}(hd:As ze w)(hn:Sp.nz w){k:Nat}(hl:w.length=k+1):0<w.getD k 0∧w.getD k 0<1000000000:=by
 have g:=E2 hd k;refine⟨?_,g.2⟩;have e:w.getLast?=some (w.getD k 0):=by
  rw[yt,hl,zV,zN,yw (by omega)];rfl
 unfold Sp.nz at hn;rw[e]at hn;have:w.getD k 0≠0:=fun h=>hn (by rw[h])
 omega
theorem C3(d:Int):zd ze [d]=d:=by simp[zd]
namespace T102
variable {Q:PV→Ob→Prop}
theorem Be(v:List Int)(k la:Nat)(f:Int)(hf:0<f∧f<1000000000)(hn:v.length=k+2)(hla:la≤9000)(hkl:k+2≤la)(hv:As ze v)(hv1:1≤v.getD (k+1) 0)(W0:Int)
  (hq:∀(u qs:List Int) ob,As ze u→As ze qs→zd ze u<zd ze v→W0=zd ze u+zd ze v*zd ze qs→Q (.tup [.dat li (Ax qs),.dat li (Cj (zd ze u/f))]) ob):
  ∀(t:Nat) (u qs:List Int),t+qs.length=la-(k+2)+1→u.length=la+1→As ze u→As ze qs→zd ze (u.drop t)<zd ze v→W0=zd ze u+zd ze v*((ze:Int)^t*zd ze qs)→
   Ends Jf (L2 1 v ((k+2:Nat):Int) (la+1) (la-(k+2)+1) ((t:Int)-1) (zl t 0++qs) u [f]) Q
 |0,u,qs,hl,hu,hd,hdq,hlt,he=>by
  have hlt:zd ze u<zd ze v:=hlt;have hVlt:=Bi (b:=ze) (by decide) hv;rw[hn]at hVlt;have hz:zd ze (u.drop (k+2))=0:=G0 (b:=ze) (by decide) hd (by omega) (by omega);have hvu:zd ze (u.take (k+2))=zd ze u:=by
   rw[BI ze u (k+2) (by omega),hz,z8,yo]
  have ht:(zl 0 0++qs).take (la-(k+2)+1)=qs:=by
   rw[List.replicate_zero,yn];exact zj (by omega)
  have htr:=FD (AE hd (k+2));have hlr:(Ax (u.take (k+2))).length≤9000:=by
   rw[EW (AE hd (k+2))];refine Nat.le_trans (Oq (k:=k+2) (Au (by decide) (AE hd (k+2))) ?_) (by omega);show zd ze (u.take (k+2))<_;rw[hvu];omega
  have e1:AQ (Ax (u.take (k+2)))=zd ze u:=by
   show zd ze (Ax _)=_;rw[GU,hvu]
  refine zo (AS ..) (zy (by simp) ?_);rw[zg,ht,e1];refine zc (by simp;omega) (zc rfl (zc rfl (zc (by simp;omega) (zc (Am (Am (Jd (by omega) htr) (decide_eq_true hf.1)) (decide_eq_true hf.2)) (zc (by simp;omega) (zn (hq u qs _ hd hdq hlt (by rw[he,zF,zK]))))))))
 |j+1,u,qs,hl,hu,hd,hdq,hlt,he=>by
  obtain⟨lo,r,rfl,hlo⟩:∃lo r:List Int,u=lo++r∧lo.length=j:=⟨u.take j,u.drop j,(zX j u).symm,by rw[zz];omega⟩;have hdlo:As ze lo:=fun d hd'=>hd d (List.mem_append.2 (.inl hd'))
  have hdr:As ze r:=fun d hd'=>hd d (List.mem_append.2 (.inr hd'))
  have hrl:r.length=la+1-j:=by rw[zO]at hu;omega
  have hdrop:∀z:List Int,(lo++z).drop j=z:=fun z=>by rw[←hlo];exact List.drop_left
  have hr0:r=r.getD 0 0::r.drop 1:=by
   have:=BX (l:=r) (i:=0) (by omega);rw[List.drop_zero]at this;exact this
  have hd1:(lo++r).drop (j+1)=r.drop 1:=by rw[Nat.add_comm j 1,Nat.add_comm 1 j, ←List.drop_drop,hdrop]
  rw[hd1]at hlt;have g0:=E2 hdr 0;have hvr:zd ze r=r.getD 0 0+1000000000*zd ze (r.drop 1):=by
   conv=>lhs;rw[hr0]
   rfl
  have hVlt:=Bi (b:=ze) (by decide) hv;rw[hn]at hVlt;have hrV:zd ze r<1000000000*zd ze v:=by rw[hvr];omega
  have hz:zd ze (r.drop (k+3))=0:=by
   refine G0 (b:=ze) (by decide) hdr (by omega) ?_;have ep:(ze:Int)^(k+3)=(ze:Int)^(k+2)*1000000000:=zt ..;rw[ep];omega
  have gu0:=E2 hdr (k+2);have gu1:=E2 hdr (k+1);have gu2:=E2 hdr k;have gv1:=E2 hv (k+1);have gv2:=E2 hv k;have hP:=AK (b:=ze) (by decide) k;have hW:=Yk ze r k (by omega) hz;have hV:=YX ze v k hn;have hu'':=Bi (b:=ze) (by decide) (AE hdr k);have hv':=Au (b:=ze) (by decide) (AE hv k);rw[zz,yb (by omega)]at hu'';have hle:r.getD (k+2) 0≤v.getD (k+1) 0:=by
   have a1:=BI ze (r.drop 1) (k+1) (by rw[zq];omega);have a2:(r.drop 1).drop (k+1)=r.getD (k+2) 0::r.drop (k+3):=by
    rw[List.drop_drop,show 1+(k+1)=k+2 by omega];exact BX (by omega)
   have a3:zd ze (r.getD (k+2) 0::r.drop (k+3))=r.getD (k+2) 0:=by
    show r.getD (k+2) 0+(ze:Int)*zd ze (r.drop (k+3))=_;rw[hz];omega
   rw[a2,a3]at a1;have b1:zd ze v=zd ze (v.take (k+1))+(ze:Int)^(k+1)*v.getD (k+1) 0:=by
    rw[←Av,zj (by omega)]
   have b2:=Bi (b:=ze) (by decide) (AE hv (k+1));rw[zz,yb (by omega)]at b2;have c1:=Au (b:=ze) (by decide) (AE (EX hdr 1) (k+1));have c2:(ze:Int)^(k+1)*r.getD (k+2) 0<(ze:Int)^(k+1)*(v.getD (k+1) 0+1):=by
    rw[zx,z7];omega
   have:=zC c2 (zp (AK (by decide) (k+1)));omega
  have hfin:∀(q:Int) (r':List Int),r'.length=r.length→As ze r'→(0≤q∧q<1000000000)→zd ze r'<zd ze v→zd ze r'=zd ze r-q*zd ze v→Ends Jf (L2 1 v ((k+2:Nat):Int) (la+1) (la-(k+2)+1) (zf .i64 ((j:Int)-1)) ((zl (j+1) 0++qs).set j q) (lo++r') [f]) Q:=by
   intro q r' h1 h2 h3 h4 h5;have es:(zl (j+1) (0:Int)++qs).set j q=zl j 0++(q::qs):=by
    rw[List.replicate_succ',zD];exact BT _ _ _ _ (by simp)
   rw[es,wr ((j:Int)-1) (by omega) (by omega)];refine Be v k la f hf hn hla hkl hv hv1 W0 hq j (lo++r') (q::qs) (by simp;omega) (by simp;omega) (DA hdlo h2) (fun d hd'=>?_) (by rw[hdrop];exact h4) ?_
   ·rcases yz.1 hd' with rfl|hd'
    ·exact h3
    ·exact hdq d hd'
   ·rw[he,B4,B4,hlo,h5,MJ];show zd ze lo+(ze:Int)^j*zd ze r+zd ze v*((ze:Int)^j*(1000000000*zd ze qs))=zd ze lo+(ze:Int)^j*(zd ze r-q*zd ze v)+zd ze v*((ze:Int)^j*(q+1000000000*zd ze qs));have x1:zd ze v*((ze:Int)^j*q)=(ze:Int)^j*(q*zd ze v):=by
     rw[zH,zw (zd ze v) q]
    rw[ye,zx ((ze:Int)^j) q,zx (zd ze v),x1];omega
  have e0:(((j+1:Nat):Int)-1)=(j:Int):=by omega
  have e1:zf .i64 ((j:Int)+((k+2:Nat):Int))=((k+2+j:Nat):Int):=by rw[wr _ (by omega) (by omega)];omega
  have e2:zf .i64 (((k+2+j:Nat):Int)-1)=((k+1+j:Nat):Int):=by rw[wr _ (by omega) (by omega)];omega
  have e3:zf .i64 (((k+2:Nat):Int)-1)=((k+1:Nat):Int):=by rw[wr _ (by omega) (by omega)];omega
  have g1:(lo++r).getD (k+2+j) 0=r.getD (k+2) 0:=E7 _ _ _ _ hlo;have g2:(lo++r).getD (k+1+j) 0=r.getD (k+1) 0:=E7 _ _ _ _ hlo;have hll:(lo++r).length=la+1:=hu;have hmul:zf .i64 (zf .i64 (r.getD (k+2) 0*1000000000)+r.getD (k+1) 0)=r.getD (k+2) 0*1000000000+r.getD (k+1) 0:=by
   rw[wr (r.getD (k+2) 0*1000000000) (by omega) (by omega)];exact wr _ (by omega) (by omega)
  have htop0:0≤r.getD (k+2) 0*1000000000+r.getD (k+1) 0:=by omega
  have hq0:0≤(r.getD (k+2) 0*1000000000+r.getD (k+1) 0)/v.getD (k+1) 0:=yj htop0 (by omega);have hqs:(r.getD (k+2) 0*1000000000+r.getD (k+1) 0)/v.getD (k+1) 0≤r.getD (k+2) 0*1000000000+r.getD (k+1) 0:=Int.ediv_le_self _ htop0;have hdm:=zP (r.getD (k+2) 0*1000000000+r.getD (k+1) 0) (v.getD (k+1) 0);have hm0:=zQ (r.getD (k+2) 0*1000000000+r.getD (k+1) 0) (show v.getD (k+1) 0≠0 by omega);have hm1:=zM (r.getD (k+2) 0*1000000000+r.getD (k+1) 0) (show 0<v.getD (k+1) 0 by omega);rw[zw]at hdm;have et:zf .i64 (zU (r.getD (k+2) 0*1000000000+r.getD (k+1) 0) (v.getD (k+1) 0))=(r.getD (k+2) 0*1000000000+r.getD (k+1) 0)/v.getD (k+1) 0:=by
   rw[zu htop0];exact wr _ (by omega) (by omega)
  have em:yr (r.getD (k+2) 0*1000000000+r.getD (k+1) 0) (v.getD (k+1) 0)=(r.getD (k+2) 0*1000000000+r.getD (k+1) 0) % v.getD (k+1) 0:=zA htop0;have b2:(decide ((0:Int)≤((k+1:Nat):Int))&&decide (((k+1:Nat):Int)<((k+2:Nat):Int)))=true:=by simp;omega
  have bn:decide (v.getD (k+1) 0≠0)=true:=decide_eq_true (by omega);rw[e0];refine zo (AS ..) (zc (by simp) ?_);rw[hn,e1,e2,e3,zg,zg,zg,g1,g2,hmul,et,em,hll];refine zc (by simp;omega) (zc (decide_eq_true (by omega)) (zc (by simp;omega) (zc (decide_eq_true (by omega)) (zc b2 (zc bn (zc b2 (zc bn ?_)))))));refine C2 1 (la+1) (la-(k+2)+1) _ [f] v lo r _ _ _ k j hn (by omega) hlo (by omega) (by omega) (by omega) (by omega) (by simp;omega) hv hdr hz hv1 hle hrV hfin (((r.getD (k+2) 0*1000000000+r.getD (k+1) 0)/v.getD (k+1) 0).toNat+1) _ _ hq0 (by omega) (by omega) ⟨hm0,by omega⟩ hdm ?_;rw[hW,hV];exact JR hP (by decide) hq0 hv' gv2.1 hu'' gu2.2 hdm hm1
theorem Aq(a v:List Int)(n la:Nat)(f:Int)(hla:a.length=la)(hla9:la≤9000)(hnl:n≤la)(hq:∀u:List Int,u.length=la+1→As ze u→zd ze u=zd ze a*f→Ends Jf (L2 1 v n (la+1) (la-n+1) (((la-n+1:Nat):Int)-1) (zl (la-n+1) 0) u [f]) Q):
  ∀(m:Nat) (u:List Int),u.length+m=la+1→As ze u→zd ze u=zd ze a*f→Ends Jf (L1 a 1 v n u.length u [f]) Q
 |0,u,hl,hd,he=>by
  have e1:zf .i64 ((a.length:Int)+1)=((la+1:Nat):Int):=by rw[wr _ (by omega) (by omega)];omega
  have e2:zf .i64 ((u.length:Int)-(n:Int))=((la-n+1:Nat):Int):=by rw[wr _ (by omega) (by omega)];omega
  have e3:zf .i64 (((la-n+1:Nat):Int)-1)=((la-n+1:Nat):Int)-1:=wr _ (by omega) (by omega);refine zo (Ap ..) ?_;conv=>zeta
  rw[e1,e2,e3,zg];refine zy (by simp;omega) (zc (by simp;omega) ?_);have hul:u.length=la+1:=by omega
  rw[hul];exact hq u hul hd he
 |m+1,u,hl,hd,he=>by
  have e1:zf .i64 ((a.length:Int)+1)=((la+1:Nat):Int):=by rw[wr _ (by omega) (by omega)];omega
  refine zo (Ap ..) ?_;conv=>zeta
  rw[e1];refine zc (by simp;omega) (zc (by simp;omega) ?_);have:=Aq a v n la f hla hla9 hnl hq m (u++[0]) (by simp;omega) (EA hd (by decide)) (by rw[Cd,z8,yo];exact he);rw[zO]at this;exact this
set_option maxHeartbeats 1000000 in
theorem ok:Ac A4 102 SH:=by
 refine AJ (X:=Jf) rfl X4 (d:=9) (by kernel_rfl) (by kernel_rfl) (by kernel_rfl) (fun(i:List Int×List Int) hi=>?_) (Ad (by kernel_rfl));obtain⟨a,b⟩:=i;have hi:(B3 a&&B3 b&&decide (a.length≤9000)&&decide (b.length≤9000)&&decide (0<AQ b))=true:=hi;rw[zi,zi,zi,zi,decide_eq_true_eq,decide_eq_true_eq,decide_eq_true_eq]at hi;obtain⟨⟨⟨⟨na,nb⟩,la9⟩,lb9⟩,hb0⟩:=hi;obtain⟨_,da,za⟩:=D1 na;obtain⟨_,db,zb⟩:=D1 nb;have hb0:0<zd ze b:=hb0;have ha0:=Au (b:=ze) (by decide) da;have hg:∀q r ob,q=Cj (AQ a/AQ b)→r=Cj (AQ a % AQ b)→Af SH (a,b) (PV.tup [PV.dat li q,PV.dat li r]) ob:=fun q r ob e1 e2=>zW rfl rfl (Prod.ext e1 e2)
 have hbne:b≠[]:=by rintro rfl;simp[zd]at hb0
 have hblen:b.length≠0:=fun h=>hbne (zB.1 h)
 refine zS (Ay a b) (zc (by rw[na,nb];rfl) (zr (fun c=>?_) (fun c=>?_)))
 ·have c:=of_decide_eq_true c;have hlt:zd ze a<zd ze b:=by
   unfold BO at c;have c:(if zd ze a<zd ze b then(-1:Int)else if zd ze a>zd ze b then 1 else 0)<0:=c;split at c
   ·assumption
   ·split at c<;>omega
  refine zn (zW rfl rfl ?_);show([],a)=(Cj (zd ze a/zd ze b),Cj (zd ze a % zd ze b));rw[yg ha0 hlt,Int.emod_eq_of_lt ha0 hlt];exact Prod.ext rfl (JZ (by decide) da za)
 ·have c:=of_decide_eq_false c;have hge:zd ze b≤zd ze a:=by
   rcases zJ (zd ze a) (zd ze b)with g|g
   ·have:BO (AQ a) (AQ b)= -1:=if_pos g;omega
   ·exact g
  have hll:b.length≤a.length:=by
   rcases Nat.lt_or_ge a.length b.length with g|g
   ·have:=Dm (b:=ze) (by decide) da db zb g;omega
   ·exact g
  refine zr (fun c1=>?_) (fun c1=>?_)
  ·have c1:b.length=1:=by
    have:(b.length:Int)=1:=by simpa using c1
    omega
   obtain⟨d,rfl⟩:=yD.1 c1;have hd:0<d∧d<1000000000:=Gi (k:=0) db zb rfl;have m0:=zQ (zd ze a) (show d≠0 by omega);have m1:=zM (zd ze a) hd.1;refine zc rfl (zc (Am (Am (Jd (by omega) da) (decide_eq_true hd.1)) (decide_eq_true hd.2)) (zc rfl (zn (hg _ _ _ ?_ ?_))))
   ·show Cj (zd ze a/d)=Cj (zd ze a/zd ze [d]);rw[C3]
   ·show Ax [zd ze a % d]=Cj (zd ze a % zd ze [d]);rw[C3,EW (fun x hx=>by rw[yc]at hx;subst hx;show 0≤_∧_<(1000000000:Int);omega)];show Cj (zd ze [_])=_;rw[C3]
  ·have c1:b.length≠1:=by
    have:(b.length:Int)≠1:=by simpa using c1
    omega
   obtain⟨k,hk⟩:∃k,b.length=k+2:=⟨b.length-2,by omega⟩;obtain⟨y0,y1⟩:=Gi (k:=k+1) db zb hk;have e1:zf .i64 (((k+2:Nat):Int)-1)=((k+1:Nat):Int):=by rw[wr _ (by omega) (by omega)];omega
   have e2:zf .i64 (b.getD (k+1) 0+1)=b.getD (k+1) 0+1:=wr _ (by omega) (by omega);have f0:0<1000000000/(b.getD (k+1) 0+1):=by
    have:=Int.le_ediv_of_mul_le (a:=1) (b:=1000000000) (c:=b.getD (k+1) 0+1) (by omega) (by omega);omega
   have f1:1000000000/(b.getD (k+1) 0+1)<1000000000:=yh (by omega) (by omega);have f2:1000000000/(b.getD (k+1) 0+1)*(b.getD (k+1) 0+1)≤1000000000:=Int.ediv_mul_le _ (by omega);have e3:zf .i64 (zU 1000000000 (b.getD (k+1) 0+1))=1000000000/(b.getD (k+1) 0+1):=by
    rw[zu (by decide)];exact wr _ (by omega) (by omega)
   rw[hk,e1,zg,e2,e3];generalize 1000000000/(b.getD (k+1) 0+1)=f at*;have hdf:As ze [f]:=fun x hx=>by rw[yc]at hx;subst hx;show 0≤_∧_<(1000000000:Int);omega
   have hvf:AQ [f]=f:=C3 f;rw[hvf];have hv1:(ze:Int)^(k+1)≤zd ze b*f:=by
    have a1:=Cn (b:=ze) (by decide) db zb hbne;rw[hk,show k+2-1=k+1 by omega]at a1;have a2:=zh (show 1≤f by omega) (zp hb0);omega
   have hv2:zd ze b*f<(ze:Int)^(k+2):=by
    have b1:zd ze b=zd ze (b.take (k+1))+(ze:Int)^(k+1)*b.getD (k+1) 0:=by
     rw[←Av,zj (by omega)]
    have b2:=Bi (b:=ze) (by decide) (AE db (k+1));rw[zz,yb (by omega)]at b2;have hp:=AK (b:=ze) (by decide) (k+1);have b3:zd ze b<(ze:Int)^(k+1)*(b.getD (k+1) 0+1):=by
     rw[zx,z7];omega
    have b4:=zY b3 f0;have b5:=zh f2 (zp hp);have b6:(ze:Int)^(k+2)=(ze:Int)^(k+1)*1000000000:=zt ..;rw[zG,zw (b.getD (k+1) 0+1) f]at b4;omega
   have hV0:0≤zd ze b*f:=zE (zp hb0) (by omega);have hU0:0≤zd ze a*f:=zE ha0 (by omega);have hU1:zd ze a*f<(ze:Int)^(a.length+1):=by
    have a1:=Bi (b:=ze) (by decide) da;have a2:=zY a1 f0;have a3:=zh (show f≤1000000000 by omega) (zp (AK (b:=ze) (by decide) a.length));have a4:(ze:Int)^(a.length+1)=(ze:Int)^a.length*1000000000:=zt ..;omega
   have vd:=GY (b:=ze) (by decide) (zd ze b*f);have vz:=SX (b:=ze) (by decide) (zd ze b*f);have vv:zd ze (Sp.dg ze (zd ze b*f))=zd ze b*f:=CU (by decide) hV0;have vl:=WC (b:=ze) (by decide) vd vz (k:=k+1) (by rw[vv];exact hv1) (by rw[vv];exact hv2);have v1:=(Gi vd vz vl).1;have ud:=GY (b:=ze) (by decide) (zd ze a*f);have uv:zd ze (Sp.dg ze (zd ze a*f))=zd ze a*f:=CU (by decide) hU0;have ul:=Oq (k:=a.length+1) hU0 hU1;have hfa:Sp.hR [f]=true:=SV (by simp) hdf;have bd:decide ((2*(0+(Cj (AQ a*f)).length)+1000)*8≤281474976710656)=true:=decide_eq_true (by have:(Cj (AQ a*f)).length≤a.length+1:=ul;omega);refine zc (by simp;omega) (zc (decide_eq_true (by omega)) (zc (by rw[SV lb9 db,hfa];rfl) (zc (by rw[SV la9 da,hfa];rfl) (zc bd ?_))));have ez:yO 0 (Cj (AQ a*f)).length=(Cj (AQ a*f)).length:=Nat.zero_add _;have evl:(Cj (AQ b*f)).length=k+2:=vl;rw[ez,yn,evl];refine Aq a (Cj (AQ b*f)) (k+2) a.length f rfl la9 (by omega) (fun u hul hud huv=>?_) (a.length+1-(Cj (AQ a*f)).length) (Cj (AQ a*f)) (by have:(Cj (AQ a*f)).length≤a.length+1:=ul;omega) ud uv;have hpn:=AK (b:=ze) (by decide) (a.length-(k+2)+1);have start:zd ze (u.drop (a.length-(k+2)+1))<zd ze (Cj (AQ b*f)):=by
    have a1:=BI ze u (a.length-(k+2)+1) (by omega);have a2:=Au (b:=ze) (by decide) (AE hud (a.length-(k+2)+1));have a3:=Bi (b:=ze) (by decide) da;have a4:=zY a3 f0;have a5:(ze:Int)^a.length=(ze:Int)^(a.length-(k+2)+1)*(ze:Int)^(k+1):=by rw[←yG,show a.length-(k+2)+1+(k+1)=a.length by omega]
    have a6:=Cn (b:=ze) (by decide) db zb hbne;rw[hk,show k+2-1=k+1 by omega]at a6;have a7:=zk a6 (show 0≤f by omega);have a8:=zh a7 (zp hpn);rw[a5,zG]at a4;show _<zd ze (Sp.dg ze (zd ze b*f));rw[vv];refine zC (a:=(ze:Int)^(a.length-(k+2)+1)) ?_ (zp hpn);omega
   have go:=Be (Q:=Af SH (a,b)) (Cj (AQ b*f)) k a.length f ⟨f0,f1⟩ evl la9 (by omega) vd (by have:0<(Cj (AQ b*f)).getD (k+1) 0:=v1;omega) (zd ze a*f) (fun u' qs ob hud' hdq hlt' he=>by
    have vv':zd ze (Cj (AQ b*f))=zd ze b*f:=vv;rw[vv']at he hlt';have e:zd ze u'=f*(zd ze a-zd ze qs*zd ze b):=by
     have x1:zd ze b*f*zd ze qs=f*(zd ze qs*zd ze b):=by
      rw[zw (zd ze b) f,zG,zw (zd ze b)]
     rw[x1,zw (zd ze a)]at he;rw[ye];omega
    have h0:=Au (b:=ze) (by decide) hud';have r0:0≤zd ze a-zd ze qs*zd ze b:=by
     rw[e]at h0;exact Int.nonneg_of_mul_nonneg_right h0 f0
    have r1:zd ze a-zd ze qs*zd ze b<zd ze b:=by
     rw[e,zw (zd ze b) f]at hlt';exact zC hlt' (by omega)
    obtain⟨u1,u2⟩:=(zR (a:=zd ze a) (b:=zd ze b) (r:=zd ze a-zd ze qs*zd ze b) (q:=zd ze qs) hb0).2 ⟨by rw[zw (zd ze b)];omega,r0,r1⟩;refine hg _ _ ob ?_ ?_
    ·rw[EW hdq];show Cj (zd ze qs)=Cj (zd ze a/zd ze b);rw[u1]
    ·show Cj (zd ze u'/f)=Cj (zd ze a % zd ze b);rw[u2,e,yy _ (by omega)]) (a.length-(k+2)+1) u [] (by simp) hul hud (fun x hx=>by cases hx) start (by rw[huv];simp[zd])
   rw[yk]at go;exact go
end T102
theorem Xy:∀g sp,bS.sp g=some sp→Ac A4 g sp:=Ab T102.ok (fun g sp h=>by cases h)
namespace T47
variable {Q:PV→Ob→Prop}
theorem Aq(g:Nat)(L:Int)(hL:∀n:Nat,(n:Int)<L→B3 (Cj (n:Int))=true∧AQ (Cj (n:Int))=n∧(Cj (n:Int)).length≤9000)(hq:∀ob,Q (.dat li (Cj (g:Int))) ob):∀(f x y:Nat),y<f→yN x y=g→(x:Int)<L→(y:Int)<L→
  Ends bS (L1 (Cj (x:Int)) (Cj (y:Int))) Q
 |0,x,y,h,_,_,_=>by omega
 |f+1,x,y,hy,hg,bx,by'=>by
  obtain⟨nx,vx,lx⟩:=hL x bx;obtain⟨ny,vy,ly⟩:=hL y by'
  refine zo (Ap ..) ?_;conv=>zeta
  by_cases h0:y=0
  ·subst h0;rw[Nat.gcd_zero_right]at hg;subst hg;exact zy rfl (zn (hq _))
  ·have hlt:x % y<y:=Nat.mod_lt _ (by omega);have hl:(Cj (y:Int)).length≠0:=by
    intro h;have:=zB.1 h;rw[this]at vy;simp[AQ,zd]at vy;omega
   rw[vx,vy,Qm];refine zc (by simp;omega) (zc (Am (Am (Am (Am nx ny) (decide_eq_true lx)) (decide_eq_true ly)) (decide_eq_true (by omega))) ?_);exact Aq g L hL hq f y (x % y) (by omega) (by rw[yE, ←Nat.gcd_rec,yE];exact hg) by' (by omega)
theorem Pw{a:List Int}(h:B3 a=true):a=Cj (AQ a)∧0≤AQ a:=by
 obtain⟨_,d,z⟩:=D1 h;exact⟨JZ (by decide) d z,Au (by decide) d⟩
theorem QJ(n:Nat)(h:(n:Int)<(ze:Int)^9000):B3 (Cj (n:Int))=true∧AQ (Cj (n:Int))=n∧(Cj (n:Int)).length≤9000:=by
 obtain⟨a,_,b,c⟩:=Jq (n:=(n:Int)) (k:=9000) (Int.natCast_nonneg n) h (by decide);exact⟨a,b,c⟩
theorem ok:Ac A4 47 LQ:=by
 refine AJ (X:=bS) rfl Xy (d:=9) (by kernel_rfl) (by kernel_rfl) (by kernel_rfl) (fun(i:List Int×List Int) hi=>?_) (Ad (by kernel_rfl));obtain⟨a,b⟩:=i;have hi:(B3 a&&B3 b&&decide (a.length≤9000)&&decide (b.length≤9000))=true:=hi;rw[zi,zi,zi,decide_eq_true_eq,decide_eq_true_eq]at hi;obtain⟨⟨⟨na,nb⟩,la9⟩,lb9⟩:=hi;obtain⟨ea,a0⟩:=Pw na;obtain⟨eb,b0⟩:=Pw nb;have la:AQ a<(ze:Int)^9000:=yd (Bi (b:=ze) (by decide) (D1 na).2.1) (AN (by decide) la9);have lb:AQ b<(ze:Int)^9000:=yd (Bi (b:=ze) (by decide) (D1 nb).2.1) (AN (by decide) lb9);have key:∀(x y:Nat),AQ a=x→AQ b=y→Ends bS (L1 a b) (Af LQ (a,b)):=by
  intro x y hx hy;rw[ea,eb,hx,hy];rw[hx]at la;rw[hy]at lb;refine Aq (yN x y) _ QJ (fun ob=>zW rfl rfl ?_) (y+1) x y (Nat.lt_succ_self _) rfl la lb;have e:Sp.gI (AQ (Cj (x:Int))) (AQ (Cj (y:Int)))=((yN x y:Nat):Int):=by
   rw[(QJ x la).2.1,(QJ y lb).2.1,Rx];rfl
  exact congrArg Cj e.symm
 obtain⟨x,hx⟩:=yf a0;obtain⟨y,hy⟩:=yf b0;exact zS (Ay a b) (key x y hx hy)
end T47
end Go.Pe
end
section
namespace Go.Pe
open Sp
open Go.Det
theorem YI:∀g sp,R5.sp g=some sp→Ac A4 g sp:=
 Ab (Eb (by kernel_rfl) (Ad (by kernel_rfl))) (Ab (Eb (by kernel_rfl) (Ad (by kernel_rfl))) (Ab (Eb (by kernel_rfl) (Ad (by kernel_rfl))) (Ab (Eb (by kernel_rfl) (Ad (by kernel_rfl))) (fun g sp h=>by cases h))))
theorem Iw:∀g sp,Nx.sp g=some sp→Ac A4 g sp:=fun g sp h=>by cases h
namespace T87
variable {Q:PV→Ob→Prop}
theorem cV:∀i:Fin 10,(Cv.getD i.1 0).toNat<128:=by decide
theorem Dv(s:List UInt8)(i:Nat)(o:List Bool)(hi:i<10)(ho:o.length=256)(h:Ends R5 (L2 s Cv Cv ((i+1:Nat):Int) (o.set (Cv.getD i 0).toNat true)) Q):Ends R5 (L2 s Cv Cv (i:Int) o) Q:=by
 have hl:Cv.length=10:=rfl;have hc:=cV ⟨i,hi⟩;have hc:(Cv.getD i 0).toNat<128:=hc;have e:zf .i64 ((i:Int)+1)=((i+1:Nat):Int):=by rw[wr _ (by omega) (by omega)];omega
 refine zo (AS ..) ?_;conv=>zeta
 rw[hl,e,zg,zg];exact zc (decide_eq_true (by omega)) (zc (Am (decide_eq_true (by omega)) (decide_eq_true (by omega))) (zy (decide_eq_false (by omega)) (zc (Am (decide_eq_true (show(0:Int)≤((Cv.getD i 0).toNat:Int)by omega)) (decide_eq_true (by omega))) (zc (decide_eq_true (by omega)) h))))
def Tb(o:List Bool):Prop:=o.length=256∧∀c:UInt8,o.getD c.toNat false=Bs c
theorem BL(s t v0:List UInt8)(v4:Int)(o0:List Bool)(v0':List UInt8)(o1 o0':List Bool)(p1 p0:List Bool)(hT:Tb p1):∀(w:List UInt8),(∀ob,Q (.dat .str (w.dropWhile Bs)) ob)→Ends R5 (L7 s t v0 v4 o0 v0' o1 o0' w p1 p0) Q
 |[],hq=>zo (Dj ..) (zy (by simp) (zn (hq _)))
 |c::r,hq=>by
  have hc:c.toNat<256:=c.toNat_lt;have g0:(c::r).getD 0 0=c:=rfl;have e:(yM 1 (c::r)).take (yp (c::r).length 1)=r:=by show r.take ((r.length+1)-1)=r;rw[zV];exact zL
  refine zo (Dj ..) ?_;conv=>zeta
  rw[g0,zg,hT.2,hT.1,e];refine zc (by simp) (zc (by simp) (zc (Am (decide_eq_true (show(0:Int)≤(c.toNat:Int)by omega)) (decide_eq_true (by omega))) (zc (decide_eq_true hc) (zr (fun d=>?_) (fun d=>zc (by simp) ?_)))))
  ·have d:Bs c=false:=by simpa using d
   rw[zT,if_neg (by rw[d];decide)]at hq;exact zn (hq _)
  ·have d:Bs c=true:=by simpa using d
   rw[zT,if_pos d]at hq;exact BL s t v0 v4 o0 v0' o1 o0' p1 p0 hT r hq
theorem BU(s t v0:List UInt8)(v4:Int)(o0:List Bool)(o1 o0':List Bool)(hT:Tb o1):∀(n:Nat) (w:List UInt8),w.length=n→n≤1000000→(∀ob,Q (.dat .str (((w.reverse.dropWhile Bs).reverse).dropWhile Bs)) ob)→Ends R5 (L4 s t v0 v4 o0 w o1 o0') Q
 |0,w,hl,_,hq=>by
  have:w=[]:=zB.1 hl;subst this;exact zo (CG ..) (zy (by simp) (zo (J6 ..) (zy (by simp) (zn (hq _)))))
 |n+1,w,hl,hn,hq=>by
  obtain⟨p,c,rfl⟩:∃p c,w=p++[c]:=by
   have hne:w≠[]:=by rintro rfl;simp at hl
   exact⟨w.dropLast,w.getLast hne,(ym hne).symm⟩
  have hp:p.length=n:=by simpa using hl
  have hc:c.toNat<256:=c.toNat_lt;have e1:zf .i64 (((p++[c]).length:Int)-1)=(n:Int):=by rw[hl,wr _ (by omega) (by omega)];omega
  have g1:(p++[c]).getD n 0=c:=BZ _ _ _ _ hp;have t1:(p++[c]).take n=p:=by rw[←hp];exact yH
  have hr:(p++[c]).reverse=c::p.reverse:=by simp
  rw[hr,zT]at hq;refine zo (CG ..) (zc (decide_eq_true (by omega)) ?_);rw[e1,zg,g1,t1,zg,hT.2,hT.1,hl];refine zc (by simp;omega) (zc (Am (decide_eq_true (show(0:Int)≤(c.toNat:Int)by omega)) (decide_eq_true (by omega))) (zc (decide_eq_true hc) (zr (fun d=>?_) (fun d=>zc (by simp) ?_))))
  ·have d:Bs c=false:=by simpa using d
   rw[if_neg (by rw[d];decide),List.reverse_cons,List.reverse_reverse]at hq;exact BL s t v0 v4 o0 _ o1 o0' o1 o0' hT (p++[c]) hq
  ·have d:Bs c=true:=by simpa using d
   rw[if_pos d]at hq;exact BU s t v0 v4 o0 o1 o0' hT n p hp (by omega) hq
theorem bV{o:List Bool}(h1:o.length=256)(h2:∀c:Fin 256,o.getD c.1 false=(Nat.ble 48 c.1&&Nat.ble c.1 57)):Tb o:=by
 refine⟨h1,fun c=>?_⟩;have:=h2 ⟨c.toNat,c.toNat_lt⟩;rw[show o.getD c.toNat false=_ from this];unfold Bs;rw[Bool.eq_iff_iff];simp[Nat.ble_eq]
set_option maxRecDepth 10000 in
theorem ok:Ac A4 87 QR:=by
 refine AJ (X:=R5) rfl YI (d:=9) (by kernel_rfl) (by kernel_rfl) (by kernel_rfl) (fun(i:List UInt8×List UInt8) hi=>?_) (Ad (by kernel_rfl));obtain⟨s,t⟩:=i;have hi:(decide (t=Cv)&&decide (s.length≤1000000))=true:=hi;rw[zi,decide_eq_true_eq,decide_eq_true_eq]at hi;obtain⟨rfl,hl⟩:=hi;have hq:∀ob,Af QR (s,Cv) (.dat .str (((s.reverse.dropWhile Bs).reverse).dropWhile Bs)) ob:=fun ob=>zW rfl rfl rfl
 refine zS (Ay s Cv) (zr (fun c=>?_) (fun c=>zy (by decide) (zy (by decide) ?_)))
 ·have c:s=[]:=by simpa using c
  subst c;exact zn (hq _)
 ·refine Dv s 0 _ (by decide) rfl (Dv s 1 _ (by decide) rfl (Dv s 2 _ (by decide) rfl (Dv s 3 _ (by decide) rfl (Dv s 4 _ (by decide) rfl (Dv s 5 _ (by decide) rfl (Dv s 6 _ (by decide) rfl (Dv s 7 _ (by decide) rfl (Dv s 8 _ (by decide) rfl (Dv s 9 _ (by decide) rfl ?_)))))))));refine zo (AS ..) (zy (by decide) (zc (by decide+kernel) (zc (by decide+kernel) (zc (by decide+kernel) (zc rfl (BU s _ _ _ _ _ _ (bV rfl ?_) s.length s rfl hl hq))))));decide+kernel
end T87
theorem Yr:∀g sp,eT.sp g=some sp→Ac A4 g sp:=Ab T87.ok (fun g sp h=>by cases h)
theorem dropWhile_nil{p:UInt8→Bool}:∀ {l:List UInt8},l.dropWhile p=[]↔l.all p=true
 |[]=>by simp
 |a::l=>by
  rw[zT,List.all_cons];cases h:p a with
  |true=>simp only[if_true,yi];exact dropWhile_nil
  |false=>simp
theorem Gr{p:UInt8→Bool}:∀ {l:List UInt8} {a:UInt8} {r:List UInt8},l.dropWhile p=a::r→p a=false
 |[],a,r,h=>by simp at h
 |b::l,a,r,h=>by
  rw[zT]at h;cases hb:p b with
  |true=>rw[hb,if_pos rfl]at h;exact Gr h
  |false=>
   rw[hb]at h;simp at h;rw[←h.1];exact hb
theorem JL(s:List UInt8):KW s=[]↔Ao s=true:=by
 unfold KW Ao;rw[dropWhile_nil,yC];constructor
 ·intro h;cases hd:s.reverse.dropWhile Bs with
  |nil=>have:=dropWhile_nil.1 hd;rwa [yC]at this
  |cons a r=>
   rw[hd,List.all_cons,Gr hd]at h;cases h
 ·intro h;have:s.reverse.dropWhile Bs=[]:=dropWhile_nil.2 (by rwa [yC]);rw[this];rfl
theorem T37.ok:Ac A4 37 JM:=by
 refine AJ (X:=eT) rfl Yr (d:=9) (by kernel_rfl) (by kernel_rfl) (by kernel_rfl) (fun(s:List UInt8) hl=>?_) (Ad (by kernel_rfl));have hl:s.length≤1000000:=of_decide_eq_true hl;have hq:∀v b ob,v=.bl b∨v=.dat .bool b→b=AT s→Af JM s v ob:=by
  rintro v b ob (rfl|rfl) hb
  ·exact zW rfl rfl hb
  ·exact zW rfl rfl hb
 refine zS (T37.Ay s) (zr (fun c=>zc ?_ (zr (fun d=>zc ?_ (zr (fun e=>zn (hq _ _ _ (.inl rfl) ?_)) (fun e=>zn (hq _ _ _ (.inr rfl) ?_)))) (fun d=>zn (hq _ _ _ (.inl rfl) ?_)))) (fun c=>zn (hq _ _ _ (.inl rfl) ?_)))
 ·exact Am (decide_eq_true rfl) (decide_eq_true hl)
 ·have c:s≠[]:=by simpa using c
  have:s.length≠0:=fun h=>c (zB.1 h)
  exact decide_eq_true (by omega)
 ·have c:s≠[]:=by simpa using c
  have d:KW s=[]:=by simpa using d
  have d:=(JL s).1 d;have e:s.getD 0 0≠48:=by
   intro h;rw[h]at e;exact absurd e (by decide)
  unfold AT;rw[d,decide_eq_true c,decide_eq_true e];rfl
 ·have c:s≠[]:=by simpa using c
  have d:KW s=[]:=by simpa using d
  have d:=(JL s).1 d;have e:s.getD 0 0=48:=by
   have:((s.getD 0 0).toNat:Int)=48:=by simpa using e
   exact UInt8.toNat_inj.1 (by show _=48;omega)
  unfold AT;rw[d,decide_eq_true c,decide_eq_false (by rw[e];exact fun h=>h rfl)];show(s==[48])=decide (s=[48]);rw[Bool.eq_iff_iff];simp
 ·have d:¬KW s=[]:=by simpa using d
  have d:Ao s=false:=by
   cases h:Ao s with
   |true=>exact absurd ((JL s).2 h) d
   |false=>rfl
  unfold AT;rw[d];simp
 ·have c:s=[]:=by simpa using c
  subst c;rfl
theorem T35.ok:Ac A4 35 Y9:=by
 refine AJ (X:=Nx) rfl Iw (d:=9) (by kernel_rfl) (by kernel_rfl) (by kernel_rfl) (fun(i:List UInt8×List UInt8) hi=>?_) (Ad (by kernel_rfl));obtain⟨s,t⟩:=i;have hi:(decide (t=[45])&&decide (s.length≤1000000))=true:=hi;rw[zi,decide_eq_true_eq,decide_eq_true_eq]at hi;obtain⟨rfl,hl⟩:=hi;have hno:s.getD 0 0≠45→(s,false)=(B8 s,Sp.preB s):=fun h=>by
  unfold B8 Sp.preB;rw[if_neg h,decide_eq_false h]
 refine zS (T35.Ay s [45]) ?_;conv=>zeta
 cases s with
 |nil=>exact zy (by decide) (zn (zW rfl rfl (hno (by decide))))
 |cons c r=>
  have ht:(c::r).take 1=[c]:=rfl;refine zc (by simp;omega) (zc (by simp) ?_);show Ends Nx (.ite (!List.take 1 (c::r)==[45]) _ _) _;rw[ht];refine zr (fun d=>zn (zW rfl rfl (hno ?_))) (fun d=>zc (by simp) (zn (zW rfl rfl ?_)))
  ·show c≠45;rintro rfl;exact absurd d (by decide)
  ·have d:c=45:=by simpa using d
   subst d;show(((yM 1 ((45:UInt8)::r)).take (yp ((45:UInt8)::r).length 1)),true)=(B8 (45::r),Sp.preB (45::r));have e:(yM 1 ((45:UInt8)::r)).take (yp ((45:UInt8)::r).length 1)=r:=by show r.take ((r.length+1)-1)=r;rw[zV];exact zL
   rw[e];rfl
end Go.Pe
end
section
namespace Go.Pe
open Sp
open Go.Det
theorem ZK{F:Fz}{s:List UInt8}{c:Int}{args:List V}(h:J8 F (Ah [Sh.str,Sh.int .u8] (s,c)) args):args=[.str s,.int .u8 c]:=by
 have:=h (fun _=>none) 0;simp only[Ah,Bz,AW]at this;obtain⟨a,as1,rfl,h1,b,as2,rfl,h2,rfl⟩:=this;simp only[PR,DC,List.cons.injEq,and_true]at h1 h2;rw[h1,h2]
theorem T227.ok:Ac A4 227 Zl:=by
 refine .inr ⟨PK.indexByte.run,by kernel_rfl,fun F h args i ha hp=>?_⟩;obtain⟨s,c⟩:=i;have:=ZK ha;subst this;refine⟨Qf (s.findIdx? fun x=>x==c.toNat.toUInt8),rfl,fun ρ N=>?_⟩;show PR F ρ N (.dat i64 (Lm s c)) _;unfold Lm;cases s.findIdx? fun x=>x==c.toNat.toUInt8 with
 |none=>simp[PR,DC,Qf]
 |some i=>simp[PR,DC,Qf,Det.i64]
theorem XS:∀g sp,fC.sp g=some sp→Ac A4 g sp:=Ab T227.ok (fun g sp h=>by cases h)
theorem QY{p:UInt8→Bool}{s:List UInt8}{i:Nat}(h:s.findIdx? p=some i):i<s.length:=(List.findIdx?_eq_some_iff_getElem.1 h).1
theorem T36.ok:Ac A4 36 Y7:=by
 refine AJ (X:=fC) rfl XS (d:=9) (by kernel_rfl) (by kernel_rfl) (by kernel_rfl) (fun(i:List UInt8×List UInt8) hi=>?_) (Ad (by kernel_rfl));obtain⟨s,t⟩:=i;have hi:(decide (t=[47])&&decide (s.length≤1000000))=true:=hi;rw[zi,decide_eq_true_eq,decide_eq_true_eq]at hi;obtain⟨rfl,hl⟩:=hi;have hany:s.any (fun x=>x==47)=(s.findIdx? fun x=>x==47).isSome:=by
  rw[List.findIdx?_isSome]
 refine zS (T36.Ay s [47]) (zy (by decide) (zr (fun c=>?_) (fun c=>zc (by decide) (zc (by decide) (zc (by decide) ?_)))))
 ·have c:s=[47]:=by
   have:[47]=s:=by simpa using c
   exact this.symm
  subst c;exact zc rfl (zc rfl (zc rfl (zn (zW rfl rfl rfl))))
 ·have ei:Lm s (((([47]:List UInt8).getD 0 0).toNat:Nat):Int)=match s.findIdx? (fun x=>x==47)with
   |some i=>(i:Int)
   |none=> -1:=rfl
  cases hf:s.findIdx? (fun x=>x==47)with
  |none=>
   rw[hf]at ei;have ei:Lm s (((([47]:List UInt8).getD 0 0).toNat:Nat):Int)= -1:=ei;rw[ei];refine zy (by decide) (zn (zW rfl rfl ?_));show(s,[],false)=(AU s,Sp.A8 s,Cb s);unfold AU Sp.A8 Cb;rw[hany,hf];rfl
  |some k=>
   rw[hf]at ei;have ei:Lm s (((([47]:List UInt8).getD 0 0).toNat:Nat):Int)=(k:Int):=ei;have hk:=QY hf;have e1:zf .i64 ((k:Int)+(([47]:List UInt8).length:Int))=((k+1:Nat):Int):=by
    show zf .i64 ((k:Int)+1)=_;rw[wr _ (by omega) (by omega)];omega
   rw[ei,e1,zg,zg];refine zc (by simp) (zc (by simp;omega) (zc (by simp;omega) (zn (zW rfl rfl ?_))));show(s.take k,(s.drop (k+1)).take (yp s.length (k+1)),true)=(AU s,Sp.A8 s,Cb s);unfold AU Sp.A8 Cb;have e2:(s.drop (k+1)).take (yp s.length (k+1))=s.drop (k+1):=zj (by rw[zq];exact yv _);rw[hany,hf,e2];rfl
end Go.Pe
end
section
namespace Go.Pe
open Sp
open Go.Det
namespace T158
theorem Aq{Q:PV→Ob→Prop}(s:List UInt8)(hs:Ao s=true)(hl:s.length≤18)(hq:∀ob,Q (.dat i64 (AA 0 s)) ob):∀(r:List UInt8) (i:Nat),s.drop i=r→i≤s.length→Ends Ur (L1 s (AA 0 (s.take i)) i) Q
 |[],i,h,hi=>by
  have he:i=s.length:=drop_nil h hi;subst he;rw[zL];exact zo (Ap ..) (zy (by simp) (zn (hq _)))
 |c::r,i,h,hi=>by
  obtain⟨h1,h2,h3⟩:=drop_cons (d:=0) h;have hb:=Bj (AV hs i);have hlen:(s.take i).length=i:=by rw[zz];omega
  rw[hlen]at hb;have hp:(10:Int)^i≤10^17:=AN (by decide) (by omega);have hc:Bs c=true:=by
   unfold Ao at hs;rw[yB]at hs;exact hs c (Eg h)
  have hd:=Dg hc;have hc0:48≤c.toNat∧c.toNat≤57:=by unfold MO at hd;omega
  have e1:zf .i64 (c.toNat:Int)=(c.toNat:Int):=wr _ (by omega) (by omega);have hp17:(10:Int)^17=100000000000000000:=by decide
  have e2:zf .i64 (zf .i64 (zf .i64 (10*AA 0 (s.take i))+(c.toNat:Int))-48)=AA 0 (s.take (i+1)):=by
   rw[Fa h,CW];show _=10*AA 0 (s.take i)+((c.toNat:Int)-48);generalize AA 0 (s.take i)=D at*;rw[wr (10*D) (by omega) (by omega),wr (10*D+(c.toNat:Int)) (by omega) (by omega),wr _ (by omega) (by omega)];omega
  have e3:zf .i64 ((i:Int)+1)=((i+1:Nat):Int):=by rw[wr _ (by omega) (by omega)];omega
  refine zo (Ap ..) (zc (by simp;omega) ?_);rw[zg,h2,e1,e2,e3];exact zc (by simp;omega) (Aq s hs hl hq r (i+1) h3 h1)
theorem ok:Ac A4 158 S9:=by
 refine AJ (X:=Ur) rfl O4 (d:=9) (by kernel_rfl) (by kernel_rfl) (by kernel_rfl) (fun(s:List UInt8) hs=>?_) (Ad (by kernel_rfl));have hs:(decide (s.length≤18)&&Ao s)=true:=hs;rw[zi,decide_eq_true_eq]at hs;exact zS (Ay s) (Aq s hs.2 hs.1 (fun ob=>zW rfl rfl rfl) s 0 rfl (Nat.zero_le _))
end T158
theorem Xw:∀g sp,Ts.sp g=some sp→Ac A4 g sp:=Ab T158.ok (Ab T159.ok (fun g sp h=>by cases h))
theorem M5{neg:Bool}{w:List Int}{D:Int}(hd:As ze w)(hv:zd ze w=D):(DY neg w,Ax w)=(Sp.rN (if neg=true then -D else D),Sp.rW (if neg=true then -D else D)):=by
 have h0:=Au (b:=ze) (by decide) hd;rw[hv]at h0;have hw:Ax w=Cj D:=by rw[EW hd];show Cj (zd ze w)=_;rw[hv]
 have hnil:Cj D=[]↔D=0:=ZO (by decide) h0;have ea:Ag (if neg=true then -D else D)=D:=by rw[Ar];split<;>omega
 unfold DY Sp.rW Sp.rN;rw[ea,hw];congr 1;cases neg with
 |false=>simp;omega
 |true=>
  simp only[if_true,yi,ne_eq,hnil,decide_eq_decide];omega
end Go.Pe
namespace Go.Pe
open Sp
open Go.Det
namespace T100
variable {Q:PV→Ob→Prop}
theorem cZ:(10:Int)^9=1000000000:=by decide
theorem Hp{s:List UInt8}{m:Nat}(hm:m+9=s.length):AA 0 s=AA 0 (s.take m)*1000000000+AA 0 (s.drop m):=by
 conv=>lhs;rw[←zX m s]
 rw[CW,Ed (s.drop m),zq,show s.length-m=9 by omega,cZ]
theorem Ce{s:List UInt8}(hs:Ao s=true)(h:s.length≤9):0≤AA 0 s∧AA 0 s<1000000000:=by
 have:=Bj hs;have h2:(10:Int)^s.length≤10^9:=AN (by decide) h;rw[cZ]at h2;omega
theorem Cf{s:List UInt8}(hs:Ao s=true)(h:s.length≤18):Ee s=true:=by
 unfold Ee;rw[hs,Bool.and_true];exact decide_eq_true h
theorem C2(neg:Bool)(D:Int)(hq:∀(w:List Int) ob,As ze w→zd ze w=D→Q (.agg [.dat .bool (DY neg w),.dat li (Ax w)]) ob):∀(f:Nat) (s:List UInt8) (o1:List Int),s.length≤f→Ao s=true→o1.length+s.length≤1500→As ze o1→zd ze o1+(ze:Int)^o1.length*AA 0 s=D→Ends Ts (L3 s neg o1.length o1) Q:=by
 intro f;induction f with
 |zero=>
  intro s o1 hf hs hl hd he;have h9:s.length≤9:=by omega
  have hv:=Ce hs h9;have ht:(o1++[Bf s]).take (yO o1.length 1)=o1++[Bf s]:=zj (by simp);refine zo (BD ..) (zy (by simp;omega) (zc (Cf hs (by omega)) (zc (by simp;omega) ?_)));rw[ht];refine zc (by simp;omega) (zn (hq _ _ (EA hd hv) ?_));rw[Cd];exact he
 |succ f ih=>
  intro s o1 hf hs hl hd he;by_cases h9:s.length≤9
  ·have hv:=Ce hs h9;have ht:(o1++[Bf s]).take (yO o1.length 1)=o1++[Bf s]:=zj (by simp);refine zo (BD ..) (zy (by simp;omega) (zc (Cf hs (by omega)) (zc (by simp;omega) ?_)));rw[ht];refine zc (by simp;omega) (zn (hq _ _ (EA hd hv) ?_));rw[Cd];exact he
  ·obtain⟨m,hm⟩:∃m,m+9=s.length:=⟨s.length-9,by omega⟩;have e1:zf .i64 ((s.length:Int)-9)=(m:Int):=by rw[wr _ (by omega) (by omega)];omega
   have e2:(s.drop m).take (yp s.length m)=s.drop m:=zj (by rw[zq];exact yv _);have hv:=Ce (Bp hs m) (by rw[zq];omega);refine zo (BD ..) (zc (by simp;omega) ?_);rw[e1,zg,e2];refine zc (by simp;omega) (zc (Cf (Bp hs m) (by rw[zq];omega)) (zc (by simp;omega) (zc (by simp;omega) ?_)));have:=ih (s.take m) (o1++[Bf (s.drop m)]) (by rw[zz];omega) (AV hs m) (by simp;omega) (EA hd hv) (by
    rw[Cd,zO];show zd ze o1+(ze:Int)^o1.length*AA 0 (s.drop m)+(ze:Int)^(o1.length+1)*AA 0 (s.take m)=D;rw[MJ,ya, ←zx, ←he,Hp hm];congr 2;omega)
   rw[zO]at this;exact this
theorem BU(D:Int)(hq:∀(w:List Int) ob,As ze w→zd ze w=D→Q (.agg [.dat .bool (DY false w),.dat li (Ax w)]) ob):∀(f:Nat) (s:List UInt8) (o1:List Int),s.length≤f→Ao s=true→o1.length+s.length≤1500→As ze o1→zd ze o1+(ze:Int)^o1.length*AA 0 s=D→Ends Ts (L4 s o1.length o1) Q:=by
 intro f;induction f with
 |zero=>
  intro s o1 hf hs hl hd he;have h9:s.length≤9:=by omega
  have hv:=Ce hs h9;have ht:(o1++[Bf s]).take (yO o1.length 1)=o1++[Bf s]:=zj (by simp);refine zo (CG ..) (zy (by simp;omega) (zc (Cf hs (by omega)) (zc (by simp;omega) ?_)));rw[ht];refine zc (by simp;omega) (zn (hq _ _ (EA hd hv) ?_));rw[Cd];exact he
 |succ f ih=>
  intro s o1 hf hs hl hd he;by_cases h9:s.length≤9
  ·have hv:=Ce hs h9;have ht:(o1++[Bf s]).take (yO o1.length 1)=o1++[Bf s]:=zj (by simp);refine zo (CG ..) (zy (by simp;omega) (zc (Cf hs (by omega)) (zc (by simp;omega) ?_)));rw[ht];refine zc (by simp;omega) (zn (hq _ _ (EA hd hv) ?_));rw[Cd];exact he
  ·obtain⟨m,hm⟩:∃m,m+9=s.length:=⟨s.length-9,by omega⟩;have e1:zf .i64 ((s.length:Int)-9)=(m:Int):=by rw[wr _ (by omega) (by omega)];omega
   have e2:(s.drop m).take (yp s.length m)=s.drop m:=zj (by rw[zq];exact yv _);have hv:=Ce (Bp hs m) (by rw[zq];omega);refine zo (CG ..) (zc (by simp;omega) ?_);rw[e1,zg,e2];refine zc (by simp;omega) (zc (Cf (Bp hs m) (by rw[zq];omega)) (zc (by simp;omega) (zc (by simp;omega) ?_)));have:=ih (s.take m) (o1++[Bf (s.drop m)]) (by rw[zz];omega) (AV hs m) (by simp;omega) (EA hd hv) (by
    rw[Cd,zO];show zd ze o1+(ze:Int)^o1.length*AA 0 (s.drop m)+(ze:Int)^(o1.length+1)*AA 0 (s.take m)=D;rw[MJ,ya, ←zx, ←he,Hp hm];congr 2;omega)
   rw[zO]at this;exact this
theorem Aq(neg:Bool)(s:List UInt8)(hs:Ao s=true)(hl:s.length≤1499)(hq:∀(w:List Int) ob,As ze w→zd ze w=AA 0 s→Q (.agg [.dat .bool (DY neg w),.dat li (Ax w)]) ob):Ends Ts (L1 s neg) Q:=by
 by_cases h9:s.length≤9
 ·have hv:=Ce hs h9;refine zo (Ap ..) (zy (by simp;omega) (zc (Cf hs (by omega)) (zc rfl (zc rfl (zn (hq _ _ (EA (l:=[]) (fun x hx=>by cases hx) hv) ?_))))));show zd ze [AA 0 s]=_;exact C3 _
 ·obtain⟨m,hm⟩:∃m,m+9=s.length:=⟨s.length-9,by omega⟩;have e1:zf .i64 ((s.length:Int)-9)=(m:Int):=by rw[wr _ (by omega) (by omega)];omega
  have e2:(s.drop m).take (yp s.length m)=s.drop m:=zj (by rw[zq];exact yv _);have hv:=Ce (Bp hs m) (by rw[zq];omega);refine zo (Ap ..) (zc (by simp;omega) ?_);rw[e1,zg,e2];refine zc (by simp;omega) (zc (Cf (Bp hs m) (by rw[zq];omega)) (zc rfl (zc (by simp;omega) ?_)));refine C2 neg (AA 0 s) hq m (s.take m) [Bf (s.drop m)] (by rw[zz];omega) (AV hs m) (by simp;omega) (EA (l:=[]) (fun x hx=>by cases hx) hv) ?_;rw[C3,Hp hm];show AA 0 (s.drop m)+(ze:Int)^1*_=_;rw[zt,zF,zK,zw];exact yK _ _
theorem Be(s:List UInt8)(hs:Ao s=true)(hl:s.length≤1499)(hq:∀(w:List Int) ob,As ze w→zd ze w=AA 0 s→Q (.agg [.dat .bool (DY false w),.dat li (Ax w)]) ob):Ends Ts (L2 s) Q:=by
 by_cases h9:s.length≤9
 ·have hv:=Ce hs h9;refine zo (AS ..) (zy (by simp;omega) (zc (Cf hs (by omega)) (zc rfl (zc rfl (zn (hq _ _ (EA (l:=[]) (fun x hx=>by cases hx) hv) ?_))))));show zd ze [AA 0 s]=_;exact C3 _
 ·obtain⟨m,hm⟩:∃m,m+9=s.length:=⟨s.length-9,by omega⟩;have e1:zf .i64 ((s.length:Int)-9)=(m:Int):=by rw[wr _ (by omega) (by omega)];omega
  have e2:(s.drop m).take (yp s.length m)=s.drop m:=zj (by rw[zq];exact yv _);have hv:=Ce (Bp hs m) (by rw[zq];omega);refine zo (AS ..) (zc (by simp;omega) ?_);rw[e1,zg,e2];refine zc (by simp;omega) (zc (Cf (Bp hs m) (by rw[zq];omega)) (zc rfl (zc (by simp;omega) ?_)));refine BU (AA 0 s) hq m (s.take m) [Bf (s.drop m)] (by rw[zz];omega) (AV hs m) (by simp;omega) (EA (l:=[]) (fun x hx=>by cases hx) hv) ?_;rw[C3,Hp hm];show AA 0 (s.drop m)+(ze:Int)^1*_=_;rw[zt,zF,zK,zw];exact yK _ _
theorem ok:Ac A4 100 NS:=by
 refine AJ (X:=Ts) rfl Xw (d:=9) (by kernel_rfl) (by kernel_rfl) (by kernel_rfl) (fun(s:List UInt8) hs=>?_) (Ad (by kernel_rfl));have hs:(decide (s.length≤1499)&&(if s.getD 0 0=45 then Ao (s.drop 1)else Ao s))=true:=hs;rw[zi,decide_eq_true_eq]at hs;obtain⟨hl,hs⟩:=hs;have fin:∀(neg:Bool) (D:Int),Cr s=(if neg=true then -D else D)→∀(w:List Int) ob,As ze w→zd ze w=D→Af NS s (.agg [.dat .bool (DY neg w),.dat li (Ax w)]) ob:=by
  intro neg D hr w ob hd hv;refine zW rfl rfl ?_;show(DY neg w,Ax w)=(Sp.rN (Cr s),Sp.rW (Cr s));rw[hr];exact M5 hd hv
 refine zS (Ay s) ?_;conv=>zeta
 cases s with
 |nil=>exact zy (by decide) (Be [] rfl (by decide) (fin false 0 rfl))
 |cons c r=>
  have g0:(c::r).getD 0 0=c:=rfl;rw[g0]at hs;rw[g0];refine zc (by simp) (zc (by simp) (zr (fun d=>?_) (fun d=>?_)))
  ·have hc:c=45:=by
    have:(c.toNat:Int)=45:=by simpa using d
    exact UInt8.toNat_inj.1 (by show _=45;omega)
   rw[if_pos hc]at hs;have e:(yM 1 (c::r)).take (yp (c::r).length 1)=r:=by show r.take ((r.length+1)-1)=r;rw[zV];exact zL
   rw[d,e];refine zc (by simp) (Aq true r hs (by simp at hl;omega) (fin true _ ?_));unfold Cr;rw[g0,if_pos hc,if_pos rfl];rfl
  ·have hc:c≠45:=by
    rintro rfl;exact absurd d (by decide)
   rw[if_neg hc]at hs;rw[d];refine Aq false (c::r) hs hl (fin false _ ?_);unfold Cr;rw[g0,if_neg hc,if_neg (by decide)]
end T100
end Go.Pe
end
