import Derived.Test.YtmcnicakonagdaaGreatDoorX15
import Derived.Test.YtmcnicakonagdaaGreatDoorX14
import Derived.Test.YtmcnicakonagdaaGreatDoorX03
import Derived.ChangeSame
import Derived.Below
import Derived.Test.YtmcnicakonagdaaGreatDoorX09
import Derived.Test.YtmcnicakonagdaaGreatDoorRows
import Derived.LaidByTextLater
import Derived.SevenTiedAt
import Derived.LaidSub
import Derived.LaidOnce
/- A part of a proof (no law is stated here). Made by program out of texts by AI agents. -/
noncomputable section
open Go.Pe.Ends renaming tt -> zc, leaf -> zk, Ap -> zu, ff -> zw, ite -> zx
open Bool renaming and_eq_true -> zd
open List renaming length_map -> ze, getElem?_eq_getElem -> zf, all_eq_true -> zj, take_length -> zp, mem_cons_self -> zr, mem_map -> zz, mem_flatMap -> z6, mem_append_right -> z8, mem_cons_of_mem -> ya, mem_of_mem_drop -> yb, length_pos_iff -> yc, getD_eq_getElem?_getD -> yd, take_zero -> ye, getElem?_take_of_lt -> yf, length_take -> yg, take_of_length_le -> yi, map_take -> yn, map_drop -> yo, range -> yp
open Array renaming getElem?_eq_some_iff -> zg, getElem?_eq_none -> zt
open Go.DataW renaming trod -> zh
open Nat renaming eq_of_beq_eq_true -> zi, zero_le -> zl, le_refl -> zy, beq -> z7
open Go.IntKind renaming wrap -> zm
open Int renaming toNat_natCast -> zn
open Go.Pe.Sh renaming str -> zo
open Option renaming bind_some -> zq, bind_eq_some_iff -> yh
open Go.Sp renaming Nu -> yj
open Go.World renaming cell? -> yk
open Prod renaming fst -> yq, snd -> yr
open Go.Addr renaming add -> yt
namespace Go.Sp
theorem fT(n:Int):HF (rN n,rW n)=AO ((n:Int):Rat):=by rw[Pc,YC]
theorem sL{n:Int}{k:Nat}(h:n.natAbs<10^k)(hk:1<=k):Nu k (AO (n:Rat)) (n:Rat):=by
 have h1:10^1<=10^k:=Nat.pow_le_pow_right (by decide) hk;refine⟨rfl,?_,?_⟩
 ·rw[Rat.num_intCast];exact h
 ·rw[Rat.den_intCast];omega
theorem Nu.nz{k:Nat}{s:List UInt8}{q:Rat}(h:Nu k s q)(hk:k<=1400)(h0:q≠0):ZZ s=true:=vG (h.E0 hk) fun e=>h0 ((h.GR (by omega)).1 e)
theorem Sg:Nu 1 [48] 0:=by
 refine⟨by decide+kernel,?_⟩;unfold Dh;decide+kernel
theorem yY{k:Nat}{q:Rat}(h:Dh k q):Nu k (AO q) q:=⟨rfl,h⟩
theorem TP{k:Nat}:∀ {l:List (List UInt8)},(∀s∈l,HN s<=k)->Sl l<=(k+1)*l.length
 |[],_=>zl _
 |s::l,h=>by
  have h1:=TP (l:=l) fun x hx=>h x (ya _ hx)
  have h2:=h s (zr ..);have e:(k+1)*(s::l).length=(k+1)*l.length+(k+1):=Nat.mul_succ ..;rw[e,Sl];split<;>omega
theorem On:∀ {l:List (List UInt8)},(∀s∈l,AG s=0)->Cf l=0
 |[],_=>rfl
 |s::l,h=>by
  rw[Gk,wc (by rw[h s (zr ..)];decide)];exact On fun x hx=>h x (ya _ hx)
theorem jH{l:List BH}(f:BH->List UInt8)(h:B4 l=0)(hw:Jm l=true)(hf:∀p∈l,AG (f p)=0/\HN (f p)<=10/\(f p).length<=1000000):(T7 (l.map f)&&decide (F6 (l.map f)=0))=true:=by
 obtain⟨h1,h2,_⟩:=DW h;have h3:=(CB hw).1;have e:F6 (l.map f)=0:=by
  unfold F6;rw[wc (by simpa using h1),wc (by rw[ze];omega)];exact On fun s hs=>by obtain⟨p,hp,rfl⟩:=zz.1 hs;exact(hf p hp).1
 have t:=TP (k:=10) (l:=l.map f) fun s hs=>by obtain⟨p,hp,rfl⟩:=zz.1 hs;exact(hf p hp).2.1
 rw[ze]at t;unfold T7;rw[zd,zd,zd,Bool.or_eq_true,w5,w5,w5,w5,zj];refine⟨⟨⟨by rw[ze];omega,fun s hs=>by obtain⟨p,hp,rfl⟩:=zz.1 hs;exact w4 (hf p hp).2.2⟩,.inr (by omega)⟩,e⟩
theorem pE(l:List BH):wQ (l.map fun p=>p.1)=BM ((AS l).map yq):=by
 unfold wQ JB;rw[X9,List.map_map];rfl
theorem pV(l:List BH):wQ (l.map fun p=>p.2)=BM ((AS l).map yr):=by
 unfold wQ JB;rw[WM,List.map_map];rfl
end Go.Sp
namespace Go.Pe
open Sp
open Go.Det
theorem ZE:DQ qS:=Ab T152.ok (Ab T158.ok AQ)
theorem T110.ok:Ag Bf 110 aQ:=by
 refine BY ZE (fun(n:Int) hm=>?_);have hm:n.natAbs<9223372036854775808:=w6 hm;have hn:CA n=true:=Aa (w4 (by omega)) (w4 (by omega));refine Ends.eq (T110.Ak n) (zc hn (zc (Rz hn) (zk (Ad.of rfl rfl ?_))));exact fT n
theorem YI:DQ XY:=Ab T19.ok (Ab T75.ok (Ab T110.ok AQ))
namespace T73
variable {Q:PV->Ob->Prop}
theorem loop(l:List (List UInt8))(hl:l.length<=256)(hpos:0<l.length)(hc:∀s∈l,AG s=0)(hq:∀ob,Q (.dat .str (fW l)) ob):∀(r:List (List UInt8)) (i K:Nat) (v:List UInt8) (s:Rat),l.drop i=r->i<=l.length->yj K v s->K+Sl r<=1990->s+C5 (JB r)=C5 (JB l)->Ends XY (L1 l l v (i:Int)) Q
 |[],i,K,v,s,h,hi,hv,hk,hs=>by
  have e:i=l.length:=drop_nil h hi;have hs:s+0=C5 (JB l):=hs;rw[Rat.add_zero]at hs;have hi64:VE (l.length:Int)=true:=w4 (by omega);have n0:((l.length:Int):Rat)≠0:=fun x=>by have:=Rat.intCast_eq_zero_iff.1 x;omega
  have nn:=sL (n:=(l.length:Int)) (k:=3) (by omega) (by decide);have hk:K<=1990:=by have hk:K+0<=1990:=hk;omega
  have d:=hv.Kl nn n0;have ev:s/((l.length:Int):Rat)=wQ l:=by
   rw[hs];unfold wQ BM JB;rw[ze]
  refine zu (Ar ..) (zw (w8 (by omega)) (zc hi64 ?_));refine zc (Aa (hv.num (by omega)) (nn.nz (by decide) n0)) (zk ?_);have ed:Kl v (pL (l.length:Int))=fW l:=by
   have:=d.t;rw[ev]at this;exact this
  rw[ed];exact hq _
 |x::r,i,K,v,s,h,hi,hv,hk,hs=>by
  obtain⟨g1,g2,g3⟩:=drop_cons (d:=([]:List UInt8)) h;have cx:=hc x (yb (by rw[h];exact zr ..));have e1:zm .i64 ((i:Int)+1)=((i+1:Nat):Int):=by rw[wr _ (by omega) (by omega)];omega
  have nx:=EW cx;rw[YD cx]at hk;have e2:s+C5 (JB (x::r))=s+Aw x+C5 (JB r):=by
   show s+(Aw x+C5 (JB r))=_;rw[Rat.add_assoc]
  refine zu (Ar ..) ?_;conv=>zeta
  rw[zn,g2,e1];exact zc (w4 (by omega)) (zc (Aa (w4 (by omega)) (w4 (by omega))) (zc (Aa (hv.num (by omega)) (nx.num (by omega))) (loop l hl hpos hc hq r (i+1) _ _ _ g3 g1 (hv.EH nx) (by omega) (by rw[<-e2];exact hs))))
theorem ok:Ag Bf 73 Aad:=by
 refine BY YI (fun(l:List (List UInt8)) hi=>?_);have hi:(T7 l&&decide (F6 l=0))=true:=hi;rw[zd,w5]at hi;obtain⟨k1,k2,k3⟩:=U9 hi.2;have ht:=(kD hi.1).2 hi.2;exact Ends.eq (Ak l) (loop l k2 (yc.2 k1) k3 (fun ob=>Ad.of rfl rfl rfl) l 0 1 [48] 0 rfl (zl _) Sg (by omega) (Rat.zero_add _))
end T73
theorem Uw:DQ JW:=Ab T19.ok (Ab T21.ok (Ab T20.ok (Ab T75.ok (Ab T73.ok AQ))))
structure PtN(p:BH):Prop where
 x:yj 10 p.1 (Aw p.1)
 y:yj 10 p.2 (Aw p.2)
theorem iJ{l:List BH}(h:B4 l=0)(k:Jm l=true):∀p∈l,PtN p:=fun p hp=>by
 obtain⟨c1,c2⟩:=(DW h).2.2 p hp;obtain⟨s1,s2⟩:=(CB k).2 p hp;exact⟨(EW c1).mono s1,(EW c2).mono s2⟩
theorem get_map'{β:Type}(l:List BH)(f:BH->β)(i:Nat)(p:BH)(d:β)(h:i<l.length)(hp:l.getD i ([],[])=p):(l.map f).getD i d=f p:=by
 rw[yd,List.getElem?_map];rw[yd,zf h]at hp;rw[zf h];have hp:l[i]=p:=hp;rw[hp];rfl
namespace T14
variable {Q:PV->Ob->Prop}
theorem MZ(l:List BH)(c:B4 l=0)(hw:Jm l=true)(X Y:Rat)(hX:X=BM ((AS l).map yq))(hY:Y=BM ((AS l).map yr))(va vb:List UInt8)(na:yj 112 va X)(nb:yj 112 vb Y):∀(r:List BH) (i:Nat) (u w:List UInt8),l.drop i=r->i<=l.length->yj 225 u (Dn X Y ((AS l).take i))->yj 225 w (CH X ((AS l).take i))->Ends JW (L4 l l.length l.length va vb u w (i:Int) (l.map fun p=>p.2) (l.map fun p=>p.1)) (Ad WS l)
 |[],i,u,w,h,hi,hu,hv=>by
  have e:i=l.length:=drop_nil h hi;have et:(AS l).take i=AS l:=by rw[e, <-Gb l,zp]
  rw[et]at hu hv;have ln:Qe 10 10 (AS l):=LU c (CB hw).1 (CB hw).2;have hq:Gq l=CH X (AS l):=by rw[hX];rfl
  rw[<-hq]at hv;refine zu (Cy ..) (zw (w8 (by omega)) (zx (fun z=>zk (Ad.of rfl rfl ?_)) (fun z=>?_)))
  ·have z:w=[48]:=by simpa using z
   have z:=(hv.GR (by decide)).1 z;show(([]:List UInt8),([]:List UInt8),false)=(MU l,MO l,K9 l);unfold MU MO K9;rw[wd z,wd z,w8 (fun x=>x z)]
  ·have z:w≠[48]:=by simpa using z
   have z:Gq l≠0:=fun x=>z ((hv.GR (by decide)).2 x)
   have es:GA (AS l)=Dn X Y (AS l)/Gq l:=by rw[hX,hY];rfl
   have eo:Zq (AS l)=Y-GA (AS l)*X:=by rw[hX,hY];rfl
   have ss:=OV ln Jr QL z;have d:=hu.Kl hv z;rw[<-es]at d;have d:yj 326 (Kl u w) (GA (AS l)):=⟨d.t,ss⟩;have m:=d.Es na;have s:=nb.Ie m;rw[<-eo]at s;refine zc (Aa (hu.num (by decide)) (hv.nz (by decide) z)) (zc (Aa (d.num (by decide)) (na.num (by decide))) (zc (Aa (nb.num (by decide)) (m.E0 (by decide))) (zk (Ad.of rfl rfl ?_))));show(Kl u w,Ie vb (Es (Kl u w) va),true)=(MU l,MO l,K9 l);unfold MU MO K9;rw[wc z,wc z,w4 z, <-d.t, <-s.t]
 |p::r,i,u,w,h,hi,hu,hv=>by
  obtain⟨g1,g2,g3⟩:=drop_cons (d:=(([],[]):BH)) h;have k:=iJ c hw p (yb (by rw[h];exact zr ..));have n10:=(CB hw).1;have ln:Qe 10 10 (AS l):=LU c n10 (CB hw).2;have e1:zm .i64 ((i:Int)+1)=((i+1:Nat):Int):=by rw[wr _ (by omega) (by omega)];omega
  have bd:(decide ((0:Int)<=(i:Int))&&decide ((i:Int)<(l.length:Int)))=true:=Aa (w4 (by omega)) (w4 (by omega));have b2:decide (i<(l.map fun p=>p.1).length)=true:=w4 (by rw[ze];omega);have b3:decide (i<(l.map fun p=>p.2).length)=true:=w4 (by rw[ze];omega);have dx:=k.x.Ie na;have dy:=k.y.Ie nb;have m1:=dx.Es dy;have m2:=dx.Es dx;have ps:=V4 ln Jr QL (i+1);rw[<-hX, <-hY]at ps;have et:=PJ h;have a1:=hu.EH m1;have a2:=hv.EH m2;have c1:Dn X Y ((AS l).take (i+1))=Dn X Y ((AS l).take i)+(Aw p.1-X)*(Aw p.2-Y):=by rw[et,ZN]
  have c2:CH X ((AS l).take (i+1))=CH X ((AS l).take i)+(Aw p.1-X)*(Aw p.1-X):=by rw[et,Yr]
  refine zu (Cy ..) ?_;conv=>zeta
  rw[zn,get_map' l (fun p=>p.1) i p [] g1 g2,get_map' l (fun p=>p.2) i p [] g1 g2,e1];exact zc (w4 (by omega)) (zc bd (zc b2 (zc (Aa (k.x.num (by decide)) (na.E0 (by decide))) (zc bd (zc b3 (zc (Aa (k.y.num (by decide)) (nb.E0 (by decide))) (zc (Aa (dx.num (by decide)) (dy.num (by decide))) (zc (Aa (hu.num (by decide)) (m1.num (by decide))) (zc (Aa (dx.num (by decide)) (dx.num (by decide))) (zc (Aa (hv.num (by decide)) (m2.num (by decide)))
   (MZ l c hw X Y hX hY va vb na nb r (i+1) _ _ g3 g1 ⟨by rw[c1];exact a1.t,ps.1⟩ ⟨by rw[c2];exact a2.t,ps.2⟩)))))))))))
theorem zT(l:List BH)(n10:l.length<=10)(hq:Ends JW (L2 l l.length l.length (l.length:Int) (l.map fun p=>p.2) (l.map fun p=>p.1)) Q):∀(r:List BH) (i:Nat),l.drop i=r->i<=l.length->Ends JW (L2 l i i (i:Int) ((l.take i).map fun p=>p.2) ((l.take i).map fun p=>p.1)) Q
 |[],i,h,hi=>by
  have e:i=l.length:=drop_nil h hi;rw[e,zp];exact hq
 |p::r,i,h,hi=>by
  obtain⟨g1,g2,g3⟩:=drop_cons (d:=(([],[]):BH)) h;have e1:zm .i64 ((i:Int)+1)=((i+1:Nat):Int):=by rw[wr _ (by omega) (by omega)];omega
  have bd:(decide ((0:Int)<=(i:Int))&&decide ((i:Int)<(l.length:Int)))=true:=Aa (w4 (by omega)) (w4 (by omega));have et:=G7 h;have len:∀f:BH->List UInt8,((l.take i).map f).length=i:=fun f=>by rw[ze,yg];omega
  have ap:∀f:BH->List UInt8,(decide ((1:Nat)<=1)&&true&&decide (i=((l.take i).map f).length)&&decide (((2:Nat)*(i+1)+1000)*16<=281474976710656))=true:=fun f=>by
   rw[len];exact Aa (Aa rfl (w4 rfl)) (w4 (by omega))
  have nx:=zT l n10 hq r (i+1) g3 g1;rw[et,List.map_append,List.map_append]at nx;refine zu (AV ..) ?_;conv=>zeta
  rw[zn,g2,e1];exact zc (w4 (by omega)) (zc bd (zc bd (zc (ap _) (zc (ap _) nx))))
theorem ok:Ag Bf 14 WS:=by
 refine BY Uw (fun(l:List BH) hi=>?_);have hi:(PQ l&&decide (B4 l=0))=true:=hi;rw[zd,w5]at hi;obtain⟨h0,c⟩:=hi;obtain⟨_,hlen,hw⟩:=XA h0;have hw:=hw c;obtain⟨n10,hsz⟩:=CB hw;obtain⟨hne,_,hck⟩:=DW c;have hpos:0<l.length:=yc.2 hne;have ln:Qe 10 10 (AS l):=LU c n10 hsz;have hlq:=Gb l;have lfx:((AS l).map yq).length=l.length:=by rw[ze,hlq]
 have lfy:((AS l).map yr).length=l.length:=by rw[ze,hlq]
 have mem1:∀q∈(AS l).map yq,Dh 10 q:=fun q hq=>by obtain⟨p,hp,rfl⟩:=zz.1 hq;exact(ln.sz p hp).1
 have mem2:∀q∈(AS l).map yr,Dh 10 q:=fun q hq=>by obtain⟨p,hp,rfl⟩:=zz.1 hq;exact(ln.sz p hp).2
 have mx:=GM (n:=10) (by rw[lfx];exact hpos) (by rw[lfx];exact n10) mem1 Jr;have my:=GM (n:=10) (by rw[lfy];exact hpos) (by rw[lfy];exact n10) mem2 Jr;have na:yj 112 (fW (l.map fun p=>p.1)) (BM ((AS l).map yq)):=⟨by unfold fW;rw[pE],mx⟩;have nb:yj 112 (fW (l.map fun p=>p.2)) (BM ((AS l).map yr)):=⟨by unfold fW;rw[pV],my⟩;have p1:=jH (fun p=>p.1) c hw fun p hp=>⟨(hck p hp).1,(hsz p hp).1,(hlen p hp).1⟩
 have p2:=jH (fun p=>p.2) c hw fun p hp=>⟨(hck p hp).2,(hsz p hp).2,(hlen p hp).2⟩
 have last:Ends JW (L2 l l.length l.length (l.length:Int) (l.map fun p=>p.2) (l.map fun p=>p.1)) (Ad WS l):=by
  have tk:∀f:BH->List UInt8,(l.map f).take l.length=l.map f:=fun f=>yi (by rw[ze];exact zy _)
  have z0:yj 225 [48] 0:=Sg.mono (by decide);refine zu (AV ..) (zw (w8 (by omega)) ?_);rw[tk,tk];exact zc (Aa (Aa (w4 (by rw[ze];omega)) rfl) p1) (zc (Aa (Aa (w4 (by rw[ze];omega)) rfl) p2) (MZ l c hw _ _ rfl rfl _ _ na nb l 0 [48] [48] rfl (zl _) z0 z0))
 refine Ends.eq (Ak l) ?_;conv=>zeta
 obtain⟨p,r,hpr⟩:∃p r,l=p::r:=by
  cases l with
  |nil=>exact wh rfl hne
  |cons p r=>exact⟨p,r,rfl⟩
 have hd:l.drop 0=p::r:=hpr;obtain⟨g1,g2,g3⟩:=drop_cons (d:=(([],[]):BH)) hd;have nx:=zT l n10 last r 1 g3 hpos;have et:=G7 hd;rw[ye,List.nil_append]at et;rw[et]at nx;have bd:(decide ((0:Int)<=0)&&decide ((0:Int)<(l.length:Int)))=true:=Aa rfl (w4 (by omega));have e1:zm .i64 ((0:Int)+1)=1:=rfl;refine zu (Ar ..) ?_;conv=>zeta
 rw[show Int.toNat 0=0 from rfl,g2,e1];exact zc (w4 (by omega)) (zc bd (zc bd (zc rfl (zc rfl nx))))
end T14
namespace T16
variable {Q:PV->Ob->Prop}
set_option maxRecDepth 10000 in
theorem loop(l:List BH)(a b:List UInt8)(hl:l.length<=10)(pn:∀p∈l,PtN p)(na:yj 350 a (Aw a))(nb:yj 560 b (Aw b))(hs:Sp.MZ (Aw a) (Aw b) (AS l)=true)(hq:∀ob,Q (.dat .str (xD l a b)) ob):∀(r:List BH) (i:Nat),l.drop i=r->i<=l.length->Ends JW (L1 l a b (AO (P1 (Aw a) (Aw b) ((AS l).take i))) (i:Int)) Q
 |[],i,h,hi=>by
  have e:i=l.length:=drop_nil h hi;have et:(AS l).take i=AS l:=by rw[e, <-Gb l,zp]
  rw[et];exact zu (Ar ..) (zw (w8 (by omega)) (zk (hq _)))
 |p::r,i,h,hi=>by
  obtain⟨g1,g2,g3⟩:=drop_cons (d:=(([],[]):BH)) h;have k:=pn p (yb (by rw[h];exact zr ..));have e1:zm .i64 ((i:Int)+1)=((i+1:Nat):Int):=by rw[wr _ (by omega) (by omega)];omega
  have bd:(decide ((0:Int)<=(i:Int))&&decide ((i:Int)<(l.length:Int)))=true:=Aa (w4 (by omega)) (w4 (by omega));have m:=na.Es k.x;have s:=m.EH nb;have d:=k.y.Ie s;have q:=d.Es d;have hn:Bt (AO (P1 (Aw a) (Aw b) ((AS l).take i)))=true:=by
   have h2:=hs;unfold Sp.MZ at h2;rw[zj]at h2;have h2:=h2 i (List.mem_range.2 (by rw[Gb];omega));unfold E0 at h2;rw[zd]at h2;exact h2.1
  have ea:EH (AO (P1 (Aw a) (Aw b) ((AS l).take i))) (Es (Ie p.2 (EH (Es a p.1) b)) (Ie p.2 (EH (Es a p.1) b)))=AO (P1 (Aw a) (Aw b) ((AS l).take (i+1))):=by
   rw[PJ h,XM];unfold EH;rw[CW];have:=q.rat;unfold EH at this;rw[this]
  refine zu (Ar ..) ?_;conv=>zeta
  rw[zn,g2,e1,ea];exact zc (w4 (by omega)) (zc bd (zc bd (zc (Aa (na.num (by decide)) (k.x.num (by decide))) (zc (Aa (m.num (by decide)) (nb.num (by decide))) (zc (Aa (k.y.num (by decide)) (s.E0 (by decide))) (zc (Aa (d.num (by decide)) (d.num (by decide))) (zc (Aa hn (q.num (by decide))) (loop l a b hl pn na nb hs hq r (i+1) g3 g1))))))))
theorem ok:Ag Bf 16 tF:=by
 refine BY Uw (fun(i:List BH×List UInt8×List UInt8) hi=>?_);obtain⟨l,a,b⟩:=i;have hi:(Qc l a b&&decide (SX l a b=0))=true:=hi;rw[zd,w5]at hi;obtain⟨h0,c⟩:=hi;obtain⟨_,_,h5⟩:=Si h0;obtain⟨k1,k2,k3,k4⟩:=h5 c;obtain⟨c1,c2,c3⟩:=N8 c;have go:=loop (Q:=Ad tF (l,a,b)) l a b (CB k1).1 (iJ c1 k1) ((EW c2).mono k2) ((EW c3).mono k3) k4 (fun ob=>Ad.of rfl rfl rfl) l 0 rfl (zl _);rw[ye,show P1 (Aw a) (Aw b) []=0 from rfl, <-Sg.t]at go;exact Ends.eq (Ak l a b) go
end T16
section
open List Int Prod
namespace T3
def T(l:List (List UInt8×List UInt8))(a b:List UInt8):Tr:=tree K8 false 9 3 (Af ([Sh.list (Sh.pair zo zo),zo,zo]) (l,a,b))
def L1(v0:List (List UInt8×List UInt8))(v1 v2:List UInt8)(v7:Int):Tr:=re ((T [] [] []).L.R.R.R.R) (AE 177 [(0,.dat (Sh.list (Sh.pair zo zo)) v0),(1,.dat zo v1),(2,.dat zo v2),(7,.dat i64 v7)] [] 0)
theorem Ak(l:List (List UInt8×List UInt8))(a b:List UInt8):T l a b=let a':Tr:=.ite true (.leaf (.dat Sh.bool true) []) .fail;.ite true (.ite false a' (.ite (decide ((length l:Int)>260)) a' (.ite (decide ((length a:Int)>20)) a' (.ite (decide ((length b:Int)>20)) a' (L1 l a b 0))))) .fail:=by kernel_rfl
def L2(v0:List (List UInt8×List UInt8))(v1 v2:List UInt8)(v8 v9:Int):Tr:=re ((stepT K8 (L1 [] [] [] 0)).R.L) (AE 177 [(0,.dat (Sh.list (Sh.pair zo zo)) v0),(1,.dat zo v1),(2,.dat zo v2),(8,.dat i64 v8),(9,.dat i64 v9)] [] 0)
theorem Ar(v0:List (List UInt8×List UInt8))(v1 v2:List UInt8)(v7:Int):stepT K8 (L1 v0 v1 v2 v7)=let a':=decide (v7<(length v0:Int));let b':=getD v0 (toNat v7) ([],[]);.ite (a') (.ite (decide (0<=v7)&&a') (.ite (decide ((↑(length (fst b')):Int)>20)) (.leaf (.bl true) []) (.ite (decide (0<=v7)&&a') (.ite (decide ((↑(length (snd b')):Int)>20)) (.leaf (.bl true) []) (L1 v0 v1 v2 (zm .i64 (v7+1)))) .fail)) .fail) (.ite (decide (length v0<=1000000)&&JQ 1000000 v0) (L2 v0 v1 v2 (B4 v0) 0) .fail):=by kernel_rfl
def L3(v0:List (List UInt8×List UInt8))(v1 v2:List UInt8)(v8:Int):Tr:=re ((stepT K8 (L2 [] [] [] 0 0)).L.R) (AE 177 [(0,.dat (Sh.list (Sh.pair zo zo)) v0),(1,.dat zo v1),(2,.dat zo v2),(8,.dat i64 v8)] [] 0)
theorem AV(v0:List (List UInt8×List UInt8))(v1 v2:List UInt8)(v8 v9:Int):stepT K8 (L2 v0 v1 v2 v8 v9)=let a':=decide (v9<(length v0:Int));let b':Tr:=.leaf (.bl true) [];let c':=decide (0<=5)&&decide (5<=1000);let d':=getD v0 (toNat v9) ([],[]);.ite (a') (.ite (v8==0) (.ite (decide ((length v0:Int)>10)) b' (.ite (decide (0<=v9)&&a') (.ite c' (.ite (!JN (fst d') 5) b' (.ite (decide (0<=v9)&&a') (.ite c' (.ite (!JN (snd d') 5) b' (L2 v0 v1 v2 v8 (zm .i64 (v9+1)))) .fail) .fail)) .fail) .fail)) (L3 v0 v1 v2 v8)) (L3 v0 v1 v2 v8):=by kernel_rfl
def L4(v0:List (List UInt8×List UInt8))(v1 v2 v13:List UInt8)(v14:Int):Tr:=re ((stepT K8 (L3 [] [] [] 0)).L.L.R.L.L.R.R.R.L.R.R.R) (AE 177 [(0,.dat (Sh.list (Sh.pair zo zo)) v0),(1,.dat zo v1),(2,.dat zo v2),(13,.dat zo v13),(14,.dat i64 v14)] [] 0)
theorem CF(v0:List (List UInt8×List UInt8))(v1 v2:List UInt8)(v8:Int):stepT K8 (L3 v0 v1 v2 v8)=let b':Tr:=.leaf (.bl false) [];let c':=L4 v0 v1 v2 (rM v0 v1 v2) (rH v0 v1 v2);let a':Tr:=.ite (K9 v0) (.ite (GD v0 !=0) b' (.ite (!Jj v0==MU v0) b' (.ite (!Jk v0==MO v0) b' c'))) c';.ite (PQ v0) (.ite (Qc v0 v1 v2) (.ite (v8 !=0) (.ite (Jj v0==[]) (.ite (Jk v0==[]) (.ite (GD v0==v8) (.ite (decide (0<=1000000)) (.leaf (.dat Sh.bool (Gg (rM v0 v1 v2) (rH v0 v1 v2) [] v8)) []) .fail) b') b') b') (.ite (PQ v0&&decide (B4 v0=0)) (.ite (!K9 v0) (.ite (!Jj v0==[]) b' (.ite (!Jk v0==[]) b' (.ite (GD v0 !=14) b' a'))) a') .fail)) .fail) .fail:=by kernel_rfl
theorem Cy(v0:List (List UInt8×List UInt8))(v1 v2 v13:List UInt8)(v14:Int):stepT K8 (L4 v0 v1 v2 v13 v14)=let a':=[(0,.arr false 23 zo [v1,v2])];.ite (decide (2<=2)&&true&&(decide (2<=1000000)&&List.all [v1,v2] fun s=>decide (length s<=1000000))) (.ite (Cf [v1,v2] !=0) (.ite (decide (0<=1000000)) (.leaf (.dat Sh.bool (Gg v13 v14 [] (Cf [v1,v2]))) a') .fail) (.ite (Qc v0 v1 v2&&decide (SX v0 v1 v2=0)) (.ite (decide (length (xD v0 v1 v2)<=1000000)) (.leaf (.dat Sh.bool (Gg v13 v14 (xD v0 v1 v2) 0)) a') .fail) .fail)) .fail:=by kernel_rfl
end T3
end
end Go.Pe
namespace Go.Sp
theorem mQ(s:List UInt8):(AZ s).length<=s.length:=by
 unfold AZ;split
 ·rw[List.length_drop];omega
 ·exact zy _
theorem mL(s:List UInt8):(Ay s).length<=s.length:=by
 unfold Ay;split
 ·rw[yg];omega
 ·exact zy _
theorem pZ(s:List UInt8):(AL s).length<=s.length:=by
 unfold AL;split
 ·rw[List.length_drop];omega
 ·exact zl _
theorem Xe{s:List UInt8}(h:AG s=0):HN s<=s.length:=by
 have h1:=mQ (Ay s);have h2:=mL s;have h3:(Mo s).length<=s.length:=by
  unfold Mo;split
  ·exact pZ s
  ·cases s with
   |nil=>exact wh h (by decide+kernel)
   |cons x s=>exact Nat.succ_le_succ (zl _)
 unfold HN;omega
theorem TD{s:List UInt8}{n:Nat}(h:JN s (n:Int)=true):HN s<=n:=by
 unfold JN at h;rw[zd,zd,zd,w5,w5,w5,w5]at h;obtain⟨⟨_,f3⟩,f4⟩:=h;unfold HN;omega
theorem lU{l:List BH}{k:Nat}(h0:l.length<=10)(hk:k<=10)(h:∀p∈l,HN p.1<=k/\HN p.2<=k):Jm l=true:=by
 unfold Jm;rw[zd,w5,zj];refine⟨h0,fun p hp=>?_⟩;have:=h p hp;exact Go.Pe.Aa (w4 (by omega)) (w4 (by omega))
theorem oL{l:List BH}{k:Nat}(h:∀p∈l,p.1.length<=k/\p.2.length<=k):JQ k l=true:=by
 unfold JQ;rw[zj];intro p hp;exact Go.Pe.Aa (w4 (h p hp).1) (w4 (h p hp).2)
theorem VX{l:List BH}{a b:List UInt8}{k j:Nat}(h0:l.length<=10)(ha:Dh j (Aw a))(hb:Dh j (Aw b))(h:∀p∈l,Dh k (Aw p.1)/\Dh k (Aw p.2))(hs:(2*(2*k+2*j+2)+1)*10+1<=1400):MZ (Aw a) (Aw b) (AS l)=true:=by
 unfold MZ;rw[zj];intro i _;have z:=UA (a:=Aw a) (b:=Aw b) (k:=k) ha hb (l:=(AS l).take i) fun p hp=>by
  have hp:=List.mem_of_mem_take hp;unfold AS at hp;obtain⟨q,hq,rfl⟩:=zz.1 hp;exact h q hq
 have hl:((AS l).take i).length<=10:=by rw[yg,Gb];omega
 have hm:(2*(2*k+2*j+2)+1)*((AS l).take i).length<=(2*(2*k+2*j+2)+1)*10:=Nat.mul_le_mul_left _ hl;exact(yY (z.mono (show _<=1400 by omega))).E0 (zy _)
end Go.Sp
namespace Go.Pe
open Sp
open Go.Det
theorem aG:DQ K8:=Ab iR (Ab T9.ok (Ab T10.ok (Ab T11.ok (Ab T12.ok (Ab T13.ok (Ab T14.ok (Ab T16.ok (Ab T15.ok AQ))))))))
abbrev Lj:Ao:=R6
theorem Y2{a b:List UInt8}(ha:a.length<=1000000)(hb:b.length<=1000000):(decide ((2:Nat)<=2)&&true&&(decide ((2:Nat)<=1000000)&&List.all [a,b] fun s=>decide (List.length s<=1000000)))=true:=by
 show(decide (a.length<=1000000)&&(decide (b.length<=1000000)&&true))=true;rw[w4 ha,w4 hb];rfl
namespace T3
variable {Q:PV->Ob->Prop}
theorem rL(l:List BH)(a b:List UInt8)(hl:l.length<=260)(hb:∀ob,Q (.bl true) ob)(hq:(∀p∈l,p.1.length<=20/\p.2.length<=20)->Ends K8 (L1 l a b (l.length:Int)) Q):∀(r:List BH) (i:Nat),l.drop i=r->i<=l.length->(∀p∈l.take i,p.1.length<=20/\p.2.length<=20)->Ends K8 (L1 l a b (i:Int)) Q
 |[],i,h,hi,hp=>by
  have e:i=l.length:=drop_nil h hi;rw[e,zp]at hp;rw[e];exact hq hp
 |p::r,i,h,hi,hp=>by
  obtain⟨g1,g2,g3⟩:=drop_cons (d:=(([],[]):BH)) h;have e1:zm .i64 ((i:Int)+1)=((i+1:Nat):Int):=by rw[wr _ (by omega) (by omega)];omega
  have bd:(decide ((0:Int)<=(i:Int))&&decide ((i:Int)<(l.length:Int)))=true:=Aa (w4 (by omega)) (w4 (by omega));refine zu (Ar ..) ?_;conv=>zeta
  rw[zn,g2,e1];refine zc (w4 (by omega)) (zc bd (zx (fun _=>zk (hb _)) (fun c=>zc bd (zx (fun _=>zk (hb _)) (fun d=>rL l a b hl hb hq r (i+1) g3 g1 fun q hq'=>?_)))));have c:=w7 c;have d:=w7 d;rw[G7 h,List.mem_append]at hq';rcases hq' with hq'|hq'
  ·exact hp q hq'
  ·rw[List.mem_singleton.1 hq'];omega
theorem sE(l:List BH)(a b:List UInt8)(hl:l.length<=260)(hb:∀ob,Q (.bl true) ob)(hq:(B4 l=0->l.length<=10/\∀p∈l,Sp.HN p.1<=5/\Sp.HN p.2<=5)->Ends K8 (L3 l a b (B4 l)) Q):∀(r:List BH) (i:Nat),l.drop i=r->i<=l.length->(0<i->l.length<=10)->(∀p∈l.take i,Sp.HN p.1<=5/\Sp.HN p.2<=5)->Ends K8 (L2 l a b (B4 l) (i:Int)) Q
 |[],i,h,hi,h0,hp=>by
  have e:i=l.length:=drop_nil h hi;rw[e,zp]at hp;refine zu (AV ..) (zw (w8 (by omega)) (hq fun k=>⟨h0 ?_,hp⟩));have:=yc.2 (DW k).1;omega
 |p::r,i,h,hi,h0,hp=>by
  obtain⟨g1,g2,g3⟩:=drop_cons (d:=(([],[]):BH)) h;have e1:zm .i64 ((i:Int)+1)=((i+1:Nat):Int):=by rw[wr _ (by omega) (by omega)];omega
  have bd:(decide ((0:Int)<=(i:Int))&&decide ((i:Int)<(l.length:Int)))=true:=Aa (w4 (by omega)) (w4 (by omega));refine zu (AV ..) ?_;conv=>zeta
  rw[zn,g2,e1];refine zc (w4 (by omega)) (zx (fun k=>zx (fun _=>zk (hb _)) (fun c=>zc bd (zc rfl (zx (fun _=>zk (hb _)) (fun d=>zc bd (zc rfl (zx (fun _=>zk (hb _)) (fun e=>sE l a b hl hb hq r (i+1) g3 g1 (fun _=>?_) fun q hq'=>?_)))))))) (fun k=>hq fun x=>?_))
  ·have c:=w7 c;omega
  ·have d:JN p.1 ((5:Nat):Int)=true:=by
    have d:(!JN p.1 5)=false:=d;simpa using d
   have e:JN p.2 ((5:Nat):Int)=true:=by
    have e:(!JN p.2 5)=false:=e;simpa using e
   rw[G7 h,List.mem_append]at hq';rcases hq' with hq'|hq'
   ·exact hp q hq'
   ·rw[List.mem_singleton.1 hq'];exact⟨TD d,TD e⟩
  ·rw[x]at k;cases k
theorem last(l:List BH)(a b:List UInt8)(ha:a.length<=20)(hb':b.length<=20)(c:B4 l=0)(hs:Qc l a b=true)(hq:∀ob,Q (.dat .bool true) ob):Ends K8 (L4 l a b (rM l a b) (rH l a b)) Q:=by
 have e:SX l a b=Cf [a,b]:=by unfold SX;rw[wc (by rw[c];decide)];rfl
 refine zu (Cy ..) (zc (Y2 (by omega) (by omega)) (zx (fun k=>zc rfl (zk ?_)) (fun k=>?_)))
 ·have k:Cf [a,b]≠0:=by simpa using k
  have t:Gg (rM l a b) (rH l a b) [] (Cf [a,b])=true:=by
   rw[<-e]at k ⊢;exact T1 k _ _
  rw[t];exact hq _
 ·have k:Cf [a,b]=0:=by simpa using k
  have k:SX l a b=0:=by rw[e];exact k
  have z:=Xx ((Si hs).2.2 k).2.2.2 (i:=(AS l).length) (zy _);rw[zp]at z;have t:Gg (rM l a b) (rH l a b) (xD l a b) 0=true:=by
   unfold rM rH xD;rw[k];exact lJ _
  refine zc (Aa hs (w4 k)) (zc (w4 (cM z (by decide))) (zk ?_));rw[t];exact hq _
theorem ok:Ag Bf 3 Lj:=by
 refine BY aG (fun(i:List BH×List UInt8×List UInt8) _=>?_);obtain⟨l,a,b⟩:=i;have hq:∀ob,Ad R6 (l,a,b) (.dat .bool true) ob:=fun ob=>Ad.of rfl rfl rfl
 have hqb:∀ob,Ad R6 (l,a,b) (.bl true) ob:=fun ob=>Ad.of rfl rfl rfl
 refine Ends.eq (Ak l a b) (zc rfl (zw rfl (zx (fun _=>zc rfl (zk (hq _))) (fun c1=>zx (fun _=>zc rfl (zk (hq _))) (fun c2=>zx (fun _=>zc rfl (zk (hq _))) (fun c3=>?_))))));have c1:=w7 c1;have c2:=w7 c2;have c3:=w7 c3;refine rL l a b (by omega) hqb (fun hlen=>?_) l 0 rfl (zl _) (fun p hp=>by rw[ye]at hp;cases hp);have hl6:JQ 1000000 l=true:=oL fun p hp=>by have:=hlen p hp;omega
 refine zu (Ar ..) (zw (w8 (by omega)) (zc (Aa (w4 (by omega)) hl6) ?_));refine sE l a b (by omega) hqb (fun hfew=>?_) l 0 rfl (zl _) (fun h=>wh h (by decide)) (fun p hp=>by rw[ye]at hp;cases hp);have hP:B4 l=0->Jm l=true:=fun k=>lU (hfew k).1 (by decide) (hfew k).2
 have pF:PQ l=true:=by
  unfold PQ;refine Aa (Aa (w4 (by omega)) hl6) ?_;by_cases k:B4 l=0
  ·rw[hP k,Bool.or_true]
  ·rw[w4 k,Bool.true_or]
 have pS:Qc l a b=true:=by
  unfold Qc;refine Aa (Aa (Aa (Aa (w4 (by omega)) hl6) (w4 (by omega))) (w4 (by omega))) ?_;by_cases k:SX l a b=0
  ·obtain⟨k1,k2,k3⟩:=N8 k;have s2:=Xe k2;have s3:=Xe k3;have n2:=(EW k2).z.mono (show _<=20 by omega);have n3:=(EW k3).z.mono (show _<=20 by omega);have:nP l a b=true:=by
    unfold nP;refine Aa (Aa (Aa (hP k1) (w4 (by omega))) (w4 (by omega))) (VX (k:=5) (j:=20) (hfew k1).1 n2 n3 (fun p hp=>?_) (by decide));obtain⟨d1,d2⟩:=(DW k1).2.2 p hp;obtain⟨d3,d4⟩:=(hfew k1).2 p hp;exact⟨(EW d1).z.mono d3,(EW d2).z.mono d4⟩
   rw[this,Bool.or_true]
  ·rw[w4 k,Bool.true_or]
 refine zu (CF ..) (zc pF (zc pS (zx (fun k=>?_) (fun k=>?_))))
 ·have k:B4 l≠0:=by simpa using k
  have e:GD l=B4 l:=by unfold GD;rw[wd k]
  have ea:Jj l=[]:=by unfold Jj;rw[wc (by rw[e];exact k)]
  have eb:Jk l=[]:=by unfold Jk;rw[wc (by rw[e];exact k)]
  have es:SX l a b=B4 l:=by unfold SX;rw[wd k]
  have t:Gg (rM l a b) (rH l a b) [] (B4 l)=true:=by
   rw[<-es]at k ⊢;exact T1 k _ _
  rw[ea,eb,e,t];exact zc rfl (zc rfl (zc (by simp) (zc rfl (zk (hq _)))))
 ·have k:B4 l=0:=by simpa using k
  have go:=last (Q:=Ad R6 (l,a,b)) l a b (by omega) (by omega) k pS hq;refine zc (Aa pF (w4 k)) ?_;by_cases w:Gq l=0
  ·have e:GD l=14:=by unfold GD;rw[wc (by rw[k];decide),wd w]
   have ea:Jj l=[]:=by unfold Jj;rw[e];rfl
   have eb:Jk l=[]:=by unfold Jk;rw[e];rfl
   have eo:K9 l=false:=w8 (fun x=>x w);rw[ea,eb,e,eo];exact zc rfl (zw rfl (zw rfl (zw rfl (zw rfl go))))
  ·have e:GD l=0:=by unfold GD;rw[wc (by rw[k];decide),wc w]
   have ea:Jj l=MU l:=by unfold Jj MU;rw[e,wd rfl,wc w]
   have eb:Jk l=MO l:=by unfold Jk MO;rw[e,wd rfl,wc w]
   have eo:K9 l=true:=w4 w;rw[ea,eb,e,eo];exact zw rfl (zc rfl (zw rfl (zw (by simp) (zw (by simp) go))))
end T3
end Go.Pe
namespace Go.Det
open Go.ChangeShapes Go.WideShapes Go.RowKit
theorem B2{α β:Type}{f g:α->Option β}:∀ {l:List α} {ys:List β},l.mapM f=some ys->(∀a∈l,∀y∈ys,f a=some y->g a=some y)->l.mapM g=some ys
 |[],ys,h,_=>by simpa using h
 |a::l,ys,h,hg=>by
  rw[List.mapM_cons]at h ⊢;cases hf:f a with
  |none=>rw[hf]at h;cases h
  |some y=>
   rw[hf]at h;cases hl:l.mapM f with
   |none=>rw[hl]at h;cases h
   |some zs=>
    rw[hl]at h;cases h;rw[hg a (by simp) y (by simp) hf,B2 hl (fun b hb z hz hfz=>hg b (by simp[hb]) z (by simp[hz]) hfz)];rfl
def dT(P:Program)(L:List TypeId)(t:TypeId):Bool:=match P.underlying t with
 |some (.pointer e)|some (.array _ e)|some (.map _ e)=>L.contains e
 |some (.slice e)=>L.contains e&&Nat.ble 1 (P.cellsOf e)
 |some (.struct fs)=>fs.toList.all fun f=>L.contains f.type
 |_=>true
def Kn(P:Program)(L:List TypeId):Bool:=L.all (dT P L)
section
variable {H:Type}{enc:TypeId×Value->H}{P:Program}{W W':World}
theorem oE{L:List TypeId}(h:Kn P L=true){t:TypeId}(ht:t∈L):dT P L t=true:=zj.1 h t ht
theorem Vu(hb:Below W.heap.size W W'){a:Addr}{v:Value}(h:W.cell? a=some v):W'.cell? a=some v:=by
 have hl:a.block<W.heap.size:=by
  unfold yk at h;by_cases hh:a.block<W.heap.size
  ·exact hh
  ·rw[zt (by omega)]at h;cases h
 unfold yk at h ⊢;rw[hb.block _ hl];exact h
theorem UJ(hb:Below W.heap.size W W'){a:Addr}{n:Nat}{cs:List Value}(h:W.cells? 0 a n=some cs):W'.cells? 0 a n=some cs:=by
 unfold World.cells? at h ⊢;rw[wd (zl _)]at h ⊢;exact B2 h fun i _ v _ hv=>Vu hb hv
theorem G5(hb:Below W.heap.size W W'){β:Type}{a:Addr}{n:Nat}{f g:List Value->Option β}{y:β}(h:(W.cells? 0 a n).bind f=some y)(hfg:∀cs,f cs=some y->g cs=some y):(W'.cells? 0 a n).bind g=some y:=by
 cases hc:W.cells? 0 a n with
 |none=>rw[hc]at h;cases h
 |some cs=>
  rw[hc]at h;rw[UJ hb hc];exact hfg cs h
theorem Pj(hb:Below W.heap.size W W'){L:List TypeId}(hz:Kn P L=true){sp:Nat->Bool}:∀(fuel:Nat) (t:TypeId) (cs:List Value) (x:DataW H×List MemPlace),t∈L->
  zh enc P W 0 (fun _=>true) true fuel t cs=some x->(∀p∈x.2,sp p.block=true)->zh enc P W' 0 sp true fuel t cs=some x
 |0,_,_,_,_,h,_=>by cases h
 |fuel+1,t,cs,x,ht,h,hs=>by
  have ih:=Pj hb hz (sp:=sp) fuel;have hk:=oE hz ht;unfold dT at hk;unfold zh at h ⊢;split at h<;>try simp only[reduceCtorEq]at h
  all_goals try exact h
  case h_6 e a hu=>
   have hke:e∈L:=by rw[hu]at hk;simpa using hk
   cases hm:(W.cells? 0 a (P.cellsOf e)).bind (zh enc P W 0 (fun _=>true) true fuel e)with
   |none=>rw[hm]at h;cases h
   |some y=>
    rw[hm]at h;cases h;rw[G5 hb hm (g:=zh enc P W' 0 sp true fuel e) (fun cs hc=>ih e cs y hke hc (fun p hp=>hs p (by simp[hp])))];rfl
  case h_8 e a len cap hu=>
   have hke:e∈L/\P.cellsOf e≠0:=by
    rw[hu]at hk;simp only[zd,List.contains_iff_mem]at hk;have:=Nat.le_of_ble_eq_true hk.2;exact⟨hk.1,by omega⟩
   by_cases hc:0<=a.block/\len<=cap/\cap<=maxLen
   ·rw[wd hc]at h ⊢;have step:∀(i:Nat) (y:DataW H×List MemPlace),(W.cells? 0 (a.add (i*P.cellsOf e)) (P.cellsOf e)).bind (zh enc P W 0 (fun _=>true) true fuel e)=some y->(∀p∈y.2,sp p.block=true)->
      (W'.cells? 0 (a.add (i*P.cellsOf e)) (P.cellsOf e)).bind (zh enc P W' 0 sp true fuel e)=some y:=fun i y hy hp=>G5 hb hy fun cs hc=>ih e cs y hke.1 hc hp
    cases h1:(yp len).mapM (fun i=>(W.cells? 0 (a.add (i*P.cellsOf e)) (P.cellsOf e)).bind (zh enc P W 0 (fun _=>true) true fuel e))with
    |none=>rw[h1]at h;cases h
    |some ys=>
     rw[h1]at h;simp only[wk,zq]at h;cases h2:(yp (cap-len)).mapM (fun j=>(W.cells? 0 (a.add ((len+j)*P.cellsOf e)) (P.cellsOf e)).bind (zh enc P W 0 (fun _=>true) true fuel e))with
     |none=>rw[h2]at h;cases h
     |some zs=>
      rw[h2]at h;cases h;rw[B2 h1 fun i _ y hy hi=>step i y hi fun p hp=>hs p (z8 _ (z6.2 ⟨y,List.mem_append_left _ hy,hp⟩))];have h2':=B2 h2 fun j _ y hy hj=>step (len+j) y hj fun p hp=>hs p (z8 _ (z6.2 ⟨y,z8 _ hy,hp⟩))
      by_cases hsp:sp a.block=true
      ·simp only[hsp,wk,zq];rw[h2'];rfl
      ·have e0:(ys.length+zs.length)*P.cellsOf e=0:=by
        rcases Nat.eq_zero_or_pos ((ys.length+zs.length)*P.cellsOf e)with h0|h0
        ·exact h0
        ·refine wh (hs (.cell a.block (a.off+0)) (List.mem_append_left _ ?_)) hsp;simp only[MemPlace.row,zz,List.mem_range];exact⟨0,h0,rfl⟩
       have e1:zs=[]:=by
        rcases Nat.mul_eq_zero.1 e0 with h0|h0
        ·exact List.length_eq_zero_iff.1 (by omega)
        ·exact wh h0 hke.2
       subst e1;simp only[hsp,zq];rfl
   ·rw[wc hc]at h;cases h
  case h_9 cs _ _ fs hu=>
   have hke:∀f∈fs.toList,f.type∈L:=by
    rw[hu]at hk;intro f hf;have:=zj.1 hk f hf;simpa using this
   by_cases hc:cs.length=P.cellsOf t
   ·rw[wd hc]at h ⊢;cases h1:fs.toList.mapM (fun f=>zh enc P W 0 (fun _=>true) true fuel f.type ((cs.drop f.offset).take (P.cellsOf f.type)))with
    |none=>rw[h1]at h;cases h
    |some ys=>
     rw[h1]at h;cases h;rw[B2 h1 fun f hfm y hy hf=>ih _ _ y (hke f hfm) hf fun p hp=>hs p (z6.2 ⟨y,hy,hp⟩)];rfl
   ·rw[wc hc]at h;cases h
  case h_10 cs _ _ n e hu=>
   have hke:e∈L:=by rw[hu]at hk;simpa using hk
   by_cases hc:cs.length=P.cellsOf t
   ·rw[wd hc]at h ⊢;cases h1:(yp n).mapM (fun i=>zh enc P W 0 (fun _=>true) true fuel e ((cs.drop (i*P.cellsOf e)).take (P.cellsOf e)))with
    |none=>rw[h1]at h;cases h
    |some ys=>
     rw[h1]at h;cases h;rw[B2 h1 fun f _ y hy hf=>ih _ _ y hke hf fun p hp=>hs p (z6.2 ⟨y,hy,hp⟩)];rfl
   ·rw[wc hc]at h;cases h
  case h_14 k e b hu=>
   have hke:e∈L:=by rw[hu]at hk;simpa using hk
   have hl:b<W.heap.size:=by
    by_cases hh:b<W.heap.size
    ·exact hh
    ·rw[zt (by omega)]at h;cases h
   rw[hb.block _ hl];split at h
   case h_2=>cases h
   rename_i es clock hes;simp only;split at h
   case isFalse=>cases h
   rename_i hcond;rw[wd hcond];cases h1:(es.toList.mapM fun x=>(keyOf P k x.key).bind fun key=>if x.val.formed P e then(zh enc P W 0 (fun _=>true) true fuel e x.val.cells.toList).map fun y=>((key,y.1),y.2)else none)with
   |none=>rw[h1]at h;cases h
   |some ys=>
    rw[h1]at h;simp only[zq]at h;split at h
    case isFalse=>cases h
    rename_i hri;cases h;rw[B2 h1 fun en _ y hy hf=>?_]
    ·simp only[zq];rw[wd hri]
    ·cases hk:keyOf P k en.key with
     |none=>rw[hk]at hf;cases hf
     |some key=>
      rw[hk]at hf;simp only[zq]at hf ⊢;split at hf
      case isFalse=>cases hf
      rename_i hfo;rw[wd hfo];cases htt:zh enc P W 0 (fun _=>true) true fuel e en.val.cells.toList with
      |none=>rw[htt]at hf;cases hf
      |some u=>
       rw[htt]at hf;cases hf;rw[ih _ _ u hke htt fun p hp=>hs p (by simp only[List.mem_cons,z6];exact .inr ⟨_,hy,hp⟩)];rfl
theorem Vq(hb:Below W.heap.size W W'){L:List TypeId}(hz:Kn P L=true){sp:Nat->Bool}{t:TypeId}{v:Value}{d:DataW H}{p:List MemPlace}
  (ht:t∈L) (h:DataW.Trod enc P W 0 (fun _=>true) true t v d p) (hs:∀q∈p,sp q.block=true):DataW.Trod enc P W' 0 sp true t v d p:=by
 obtain⟨fuel,hf⟩:=h;exact⟨fuel,Pj hb hz fuel t _ _ ht hf hs⟩
theorem Gu(hb:Below W.heap.size W W'){L:List TypeId}(hz:Kn P L=true){sp:Nat->Bool}:∀ {ts:List TypeId} {vs:List Value} {ds:List (DataW H)} {p:List MemPlace},(∀t∈ts,t∈L)->
  DataW.TrodAll enc P W 0 (fun _=>true) true ts vs ds p->(∀q∈p,sp q.block=true)->DataW.TrodAll enc P W' 0 sp true ts vs ds p
 |[],vs,ds,p,_,h,_=>by
  obtain⟨rfl,rfl,rfl⟩:=trodAll_nil h;rfl
 |t::ts,vs,ds,p,hl,h,hs=>by
  obtain⟨v,vs1,d,ds1,a,b,rfl,rfl,rfl,h1,h2⟩:=trodAll_cons h;exact⟨a,b,Vq hb hz (hl t (by simp)) h1 (fun q hq=>hs q (by simp[hq])),Gu hb hz (fun u hu=>hl u (by simp[hu])) h2 (fun q hq=>hs q (by simp[hq])),rfl⟩
theorem Zo{f:Func}{s:ChangeSpec}{apart fresh handsOn again:Bool}{args:Array Value}{ds gs:List (DataW H)}{before:List MemPlace}{tb:TypeId}
  (hW:DataW.Whole enc P f.params.toList s.vars apart W args.toList ds gs before) (hv:s.vars=[]) (hr:f.resultTypes= #[tb]) (ht:P.underlying tb=some .bool)
  (hfn:s.fn H ds={ results:=[.lit (.bool true)],args:=ds }) (hb:Below W.heap.size W W') {L:List TypeId} (hz:Kn P L=true) (hl:f.params.toList.all L.contains=true):
  s.post enc P f apart fresh handsOn again W args (.bool true) W':=by
 have hlt:=hW.lt;have hl:∀t∈f.params.toList,t∈L:=fun t ht=>by have:=zj.1 hl t ht;simpa using this
 obtain⟨p,q,hA,hV,rfl,hfz,hnd⟩:=hW;have hV':=hV;rw[hv]at hV';obtain⟨rfl,rfl⟩:=trodVars_none hV';simp only[List.append_nil]at hlt hfz hnd ⊢;have hold:∀x∈p,(fun b=>decide (b<W.heap.size)) x.block=true:=fun x hx=>by simpa using hlt x hx
 have hW0:DataW.Whole enc P f.params.toList s.vars apart W args.toList ds [] p:=⟨p,[],hA,hV,by simp,hfz,hnd⟩;have hres:∀(b:Nat) (sp:Nat->Bool) (hd:Bool),DataW.TrodAll enc P W' b sp hd f.resultTypes.toList ((Value.bool true).resultList f.resultTypes.size) [.lit (.bool true)] []:=by
  intro b sp hd;rw[hr];exact⟨[],[],shut_bool ht true,rfl,rfl⟩
 have hok:∀(j:Nat) (t:TypeId) (r:Value),f.resultTypes[j]?=some t->((Value.bool true).resultList f.resultTypes.size)[j]?=some r->Value.okWide P W' .any 0 t r:=by
  exact ok_one hr rfl (okWide_bool_mk ht true)
 have hvars:∀sp:Nat->Bool,DataW.TrodVars enc P W' sp s.vars [] []:=fun sp=>by rw[hv];rfl
 have hfn:s.fn H (ds++[])={ results:=[.lit (.bool true)],args:=ds }:=by rw[List.append_nil];exact hfn
 refine⟨ds,[],p,[],p,[],hW0,?_,?_,?_,World.keptBut_mono (fun x hx=>⟨hx,.inr (.inl hx)⟩) (hb.frame (· ∈p)),fun _=>?_⟩
 ·rw[hfn];exact hres _ _ _
 ·rw[hfn];exact Gu hb hz hl hA hold
 ·rw[hfn];exact hvars _
 ·refine⟨hok,_,_,([]++p)++[],⟨[]++p,[],trodAll_append (Gu hb hz hl hA (fun _ _=>rfl)) (hres _ _ _),hvars _,rfl,?_,?_⟩,?_⟩
  ·intro b off hp;have hp:MemPlace.cell b off∈p:=by simpa using hp
   rw[hb.frozen (show b<W.heap.size from hlt _ hp)];exact hfz b off hp
  ·intro ha;simpa using hnd ha
  ·intro x hx _;simpa using hx
end
end Go.Det
namespace Go.Det
def NB(k:Nat):Value->V
 | .bool b=>.bool b
 | .int q n=>.int q n
 | .string s=>.str s.data.toList
 | .pointer none=>.nilp
 | .slice none 0 0=>.nils
 | .slice (some _) 0 0=>.es0
 | .slice (some ⟨r,off,none⟩) len cap=>if r<k/\len<=cap then .sl r off len cap 0 else .junk
 | .map none=>.nilm
 | .nilFunc=>.nilf
 | .nilIface=>.nili
 |_=>.junk
def HN(W:World)(r:Nat):Nat:=match W.heap[r]? with
 |some (.cells c _ _)=>c.size
 |_=>0
def pW(W:World):Pl:=(yp W.heap.size).map fun r=>(r,HN W r)
theorem Lz{W:World}{r:Nat}(h:r<W.heap.size):(pW W)[r]?=some (r,HN W r):=by
 simp[pW,h]
def Ox(W:World)(r:Nat):Option O:=match W.heap[r]? with
 |some (.cells c t _)=>if c.size=0 then none else some (.cells (c.toList.map (NB W.heap.size)) t (0,c.size))
 |_=>none
def ZH(W:World):Nat->H
 |0=>⟨.leaf,0⟩
 |n+1=>⟨(ZH W n).m.set n (Ox W n),n+1⟩
theorem lK(W:World):∀n,(ZH W n).nx=n
 |0=>rfl
 |_+1=>rfl
theorem Tz(W:World):∀(n b:Nat),(ZH W n).get b=if b<n then Ox W b else none
 |0,b=>by simp[ZH,H.get]
 |n+1,b=>by
  have ih:=Tz W n b;unfold H.get at ih ⊢;simp only[ZH,PM.CZ];by_cases e:b=n
  ·subst e;simp
  ·rw[wc e,ih];by_cases h:b<n
   ·rw[wd h,wd (by omega)]
   ·rw[wc h,wc (by omega)]
def hW(W:World):H:=ZH W W.heap.size
theorem NM(W:World)(b:Nat):(hW W).get b=Ox W b:=by
 unfold hW;rw[Tz];by_cases h:b<W.heap.size
 ·rw[wd h]
 ·rw[wc h];unfold Ox;rw[zt (by omega)]
theorem Sz{W:World}{v:Value}(h:(NB W.heap.size v).ok=true):Ac (pW W) (NB W.heap.size v) v:=by
 revert h;unfold NB;split<;>intro h
 case h_6=>simp only[Ac];exact⟨_,rfl⟩
 case h_7 r off len cap _=>
  split
  ·rename_i hc;simp only[Ac];exact⟨r,_,cap,Lz hc.1,rfl,hc.2,zy _,fun _=>rfl,fun e=>wh rfl e⟩
  ·rename_i hc;rw[wc hc]at h;cases h
 case h_11=>cases h
 all_goals simp only[Ac]
 all_goals rfl
theorem R_W(W:World):R (pW W) (hW W) W:=by
 refine⟨by simp[pW,hW,lK],fun b o hb=>?_,fun b b' o o' r n n' hb hb' h1 h2=>?_⟩
 ·rw[NM]at hb;unfold Ox at hb;split at hb
  case h_2=>cases hb
  rename_i c t fz hc;split at hb
  case isTrue=>cases hb
  cases hb;have hlt:b<W.heap.size:=(zg.1 hc).1;have hs:HN W b=c.size:=by unfold HN;rw[hc]
  refine⟨b,c.size,_,by rw[Lz hlt,hs],hc,c,fz,rfl,rfl,by simp,⟨by simp,fun i d v hd hv hok=>?_⟩,fun i hi h1 h2=>⟨zl _,hi⟩⟩;rw[List.getElem?_map]at hd;rw[ze,yf (by have:=(List.getElem?_eq_some_iff.1 hv).1;simp at this;simpa using this)]at hv;rw[hv]at hd;cases hd;exact Sz hok
 ·have key:∀b o r n,(hW W).get b=some o->(pW W)[b]?=some (r,n)->r=b:=by
   intro b o r n hb h1;rw[NM]at hb;have hlt:b<W.heap.size:=by
    unfold Ox at hb;by_cases h:b<W.heap.size
    ·exact h
    ·rw[zt (by omega)]at hb;cases hb
   rw[Lz hlt]at h1;cases h1;rfl
  rw[<-key b o r n hb h1, <-key b' o' r n' hb' h2]
theorem lD{W W':World}{p':Pl}{h':H}(he:Ext (pW W) (hW W) W p' h' W'):RowKit.Below W.heap.size W W':=by
 refine⟨he.os,he.tape,he.out,he.size,fun k hk=>?_⟩;by_cases hi:Im (pW W) (hW W) k
 ·obtain⟨b,o,n,h1,h2⟩:=hi;have h1':=h1;rw[NM]at h1';unfold Ox at h1';split at h1'
  case h_2=>cases h1'
  rename_i c t fz hc;split at h1'
  case isTrue=>cases h1'
  rename_i h0;cases h1';have hlt:b<W.heap.size:=(zg.1 hc).1;have hs:HN W b=c.size:=by unfold HN;rw[hc]
  rw[Lz hlt,hs]at h2;cases h2;exact(he.lock _ hk ⟨_,_,_,_,_,h1,by rw[Lz hlt,hs],rfl,zy _,Nat.pos_of_ne_zero h0⟩).1
 ·exact he.same k hk hi
end Go.Det
namespace Go.Pe
open Go.Det
def FW(W:World):Fz:=fun b=>match (hW W).get b with
 |some (.cells cs _ _)=>some cs
 |_=>none
def TR:(s:Sh)->s.T->Prop
 | .int k,x=>k.min<=(x:Int)/\(x:Int)<=k.max
 | .bool,_=>True
 | .str,x=>(x:List UInt8).length<=maxLen
 | .list s,l=>(l:List s.T).length<=maxLen/\∀x∈(l:List s.T),TR s x
 | .pair a b,x=>TR a x.1/\TR b x.2
 | .unit,_=>True
 | .nlist _,_=>True
 | .fnv,_=>True
 | .ptr _,_=>True
def cV(P:Program)(f:TypeId->Option Sh):Nat->List Field->Option Sh
 |_,[]=>some .unit
 |o,[x]=>match f x.type with
  |some s=>bif z7 x.offset o&&z7 (P.cellsOf x.type) s.sz then some s else none
  |none=>none
 |o,x::y::l=>match f x.type with
  |some s=>bif z7 x.offset o&&z7 (P.cellsOf x.type) s.sz then(cV P f (o+s.sz) (y::l)).map (.pair s)else none
  |none=>none
def wT(P:Program):Nat->TypeId->Option Sh
 |0,_=>none
 |f+1,t=>match P.underlying t with
  |some (.int k)=>some (.int k)
  |some .bool=>some .bool
  |some .string=>some .str
  |some (.slice e)=>match wT P f e with
   |some s=>bif z7 (P.cellsOf e) s.sz&&Nat.blt 0 s.sz then some (.list s)else none
   |none=>none
  |some (.struct fs)=>match cV P (wT P f) 0 fs.toList with
   |some s=>bif z7 (P.cellsOf t) s.sz then some s else none
   |none=>none
  |_=>none
section
variable {H:Type}{enc:TypeId×Value->H}{P:Program}{W:World}
theorem dD{r:Nat}{c:Array Value}{t:TypeId}{fz:Nat×Nat}(h:W.heap[r]?=some (.cells c t fz))(h0:c.size≠0):FW W r=some (c.toList.map (NB W.heap.size)):=by
 unfold FW;rw[NM];unfold Ox;rw[h];simp only[wc h0]
theorem Q0{a:Addr}{n:Nat}{cs:List Value}(h:W.cells? 0 a n=some cs)(hn:0<n):
  ∃c t fz,W.heap[a.block]?=some (.cells c t fz)/\a.spot=none/\a.off+n<=c.size/\cs=(c.toList.drop a.off).take n:=by
 unfold World.cells? at h;rw[wd (zl _)]at h;have hl:=mapM_some_length h;have hg:=mapM_some_get h;simp only[List.length_range]at hl;have h0:=hg 0 0 (by simp[hn]);have ha0:a.add 0=a:=by simp[yt]
 rw[ha0]at h0;obtain⟨v0,hv0⟩:∃v,cs[0]?=some v:=⟨cs[0],zf (by omega)⟩;rw[hv0]at h0;unfold yk at h0;split at h0
 case h_2=>cases h0
 rename_i c t fz hb;split at h0
 case isTrue=>cases h0
 rename_i hs;have hs:a.spot=none:=by simpa using hs
 have hc:∀i,i<n->c[a.off+i]?=cs[i]?:=by
  intro i hi;have:=hg i i (by simp[hi]);unfold yk at this;have hb':(a.add i).block=a.block:=by unfold yt;split<;>rfl
  have hs':(a.add i).spot=none:=by unfold yt;split<;>simp[hs]
  have ho':(a.add i).off=a.off+i:=by unfold yt;split<;>simp_all
  rw[hb',hb]at this;simpa [hs',ho']using this
 refine⟨c,t,fz,hb,hs,?_,?_⟩
 ·have:=hc (n-1) (by omega);rw[zf (by omega)]at this;have:=(zg.1 this).1;omega
 ·apply List.ext_getElem?;intro i;by_cases hi:i<n
  ·rw[<-hc i hi,yf hi,List.getElem?_drop];simp
  ·rw[List.getElem?_eq_none (by omega),List.getElem?_eq_none (by simp;omega)]
theorem Xf{α:Type}{p:Nat->α->Prop}:∀n:Nat,(∀i,i<n->∃x,p i x)->∃l:List α,l.length=n/\∀i (h:i<l.length),p i l[i]
 |0,_=>⟨[],rfl,fun i h=>wh h (Nat.not_lt_zero _)⟩
 |n+1,h=>by
  obtain⟨l,h1,h2⟩:=Xf n fun i hi=>h i (by omega)
  obtain⟨x,hx⟩:=h n (by omega);refine⟨l++[x],by simp[h1],fun i hi=>?_⟩;by_cases e:i<l.length
  ·rw[List.getElem_append_left e];exact h2 i e
  ·have:i=n:=by simp at hi;omega
   subst this;rw[List.getElem_append_right (by omega)];simpa [h1]using hx
theorem QV{f:TypeId->Option Sh}{n:Nat}{cs:List Value}
  (ih:∀(t:TypeId) (s:Sh) (cs:List Value) (y:DataW H×List MemPlace),f t=some s->zh enc P W 0 (fun _=>true) true n t cs=some y->∃x:s.T,DC (FW W) s x (cs.map (NB W.heap.size))/\TR s x):
  ∀(fs:List Field) (o:Nat) (s:Sh),cV P f o fs=some s->(∀x∈fs,∃z,zh enc P W 0 (fun _=>true) true n x.type ((cs.drop x.offset).take (P.cellsOf x.type))=some z)->
   ∃x:s.T,DC (FW W) s x (((cs.map (NB W.heap.size)).drop o).take s.sz)/\TR s x
 |[],o,s,hs,_=>by
  cases hs;exact⟨(),by simp[DC,Sh.sz],trivial⟩
 |[x],o,s,hs,hx=>by
  unfold cV at hs;split at hs
  case h_2=>cases hs
  rename_i s' hs';cases hc:(z7 x.offset o&&z7 (P.cellsOf x.type) s'.sz)with
  |false=>rw[hc]at hs;cases hs
  |true=>
  rw[hc]at hs;cases hs;simp only[zd]at hc;obtain⟨z,hz⟩:=hx x (by simp);rw[zi hc.1,zi hc.2]at hz;have:=ih _ _ _ _ hs' hz;simpa [yn,yo]using this
 |x::x'::l,o,s,hs,hx=>by
  unfold cV at hs;split at hs
  case h_2=>cases hs
  rename_i s' hs';cases hc:(z7 x.offset o&&z7 (P.cellsOf x.type) s'.sz)with
  |false=>rw[hc]at hs;cases hs
  |true=>
  rw[hc]at hs;simp only[we,Option.map_eq_some_iff]at hs;obtain⟨s2,h2,rfl⟩:=hs;simp only[zd]at hc;obtain⟨z,hz⟩:=hx x (by simp);rw[zi hc.1,zi hc.2]at hz;obtain⟨a,a1,a2⟩:=ih _ _ _ _ hs' hz;obtain⟨b,b1,b2⟩:=QV ih (x'::l) (o+s'.sz) s2 h2 (fun u hu=>hx u (ya _ hu));refine⟨(a,b),?_,a2,b2⟩;simp only[DC];refine⟨_,_,?_,a1,b1⟩;rw[yn,yo, <-List.drop_drop];exact List.take_add
theorem RP:∀(k fuel:Nat) (t:TypeId) (s:Sh) (cs:List Value) (y:DataW H×List MemPlace),wT P k t=some s->zh enc P W 0 (fun _=>true) true fuel t cs=some y->
  ∃x:s.T,DC (FW W) s x (cs.map (NB W.heap.size))/\TR s x
 |0,_,_,_,_,_,hs,_=>by cases hs
 |k+1,fuel,t,s,cs,y,hs,h=>by
  have ih:=RP k;unfold wT at hs;split at hs
  case h_1 q hu=>
   cases hs;obtain⟨n,rfl,_,hw⟩:=DataW.trod_int hu h;exact⟨(n:Int),by simp[DC,NB],by simpa [TR,Lit.wf]using hw⟩
  case h_2 hu=>
   cases hs;obtain⟨b,rfl,_⟩:=DataW.trod_bool hu h;exact⟨b,by simp[DC,NB],trivial⟩
  case h_3 hu=>
   cases hs;obtain⟨b,rfl,_,hw⟩:=DataW.trod_string hu h;exact⟨b.data.toList,by simp[DC,NB],by show b.data.toList.length<=maxLen;rw[Array.length_toList];exact hw⟩
  case h_4 e hu=>
   split at hs
   case h_2=>cases hs
   rename_i s' hs';cases hc:(z7 (P.cellsOf e) s'.sz&&Nat.blt 0 s'.sz)with
   |false=>rw[hc]at hs;cases hs
   |true=>
   rw[hc]at hs;cases hs;simp only[zd]at hc;have hsz:=zi hc.1;have hpos:=Nat.le_of_ble_eq_true hc.2;rcases DataW.trod_slice hu h with⟨rfl,_⟩|⟨a,len,cap,elems,rest,n,rfl,rfl,_,_,hlc,hcm,hel,he,hr,_⟩
   ·exact⟨[],by simp[DC,NB],by simp[TR]⟩
   ·obtain⟨hrl,hr⟩:=hr rfl;rw[hsz]at he hr;by_cases h0:cap=0
    ·obtain rfl:len=0:=by omega
     subst h0;exact⟨[],by simp[DC,NB],by simp[TR]⟩
    ·
     have all:∀i,i<cap->∃ci z,W.cells? 0 (a.add (i*s'.sz)) s'.sz=some ci/\zh enc P W 0 (fun _=>true) true n e ci=some z:=by
      intro i hi;by_cases hl:i<len
      ·have h1:=he i hl;rw[zf (by omega)]at h1;rw[yh]at h1;obtain⟨ci,h2,h3⟩:=h1;exact⟨ci,_,h2,h3⟩
      ·have h1:=hr (i-len) (by omega);rw[show len+(i-len)=i by omega,zf (by omega)]at h1;rw[yh]at h1;obtain⟨ci,h2,h3⟩:=h1;exact⟨ci,_,h2,h3⟩
     obtain⟨c0,z0,g0,_⟩:=all 0 (by omega);rw[Nat.zero_mul,show a.add 0=a from by simp[yt]]at g0;obtain⟨c,tc,fz,hb,hsp,hoff,_⟩:=Q0 g0 hpos;have hlt:a.block<W.heap.size:=(zg.1 hb).1;have hF:=dD hb (by omega);obtain⟨ab,ao,ax⟩:=a;simp only at hsp hb hoff hlt hF;subst hsp;have cell:∀i,i<cap->ao+i*s'.sz+s'.sz<=c.size/\∃x:s'.T,DC (FW W) s' x (((c.toList.map (NB W.heap.size)).drop (ao+i*s'.sz)).take s'.sz)/\TR s' x:=by
      intro i hi;obtain⟨ci,z,h1,h2⟩:=all i hi;rw[Addr.Hi]at h1;obtain⟨c',tc',fz',hb',_,ho',rfl⟩:=Q0 h1 (by omega);simp only at hb' ho';rw[hb]at hb';cases hb';refine⟨ho',?_⟩;have:=ih _ _ _ _ _ hs' h2;simpa [yn,yo]using this
     obtain⟨l,hl1,hl2⟩:=Xf (p:=fun i (x:s'.T)=>DC (FW W) s' x (((c.toList.map (NB W.heap.size)).drop (ao+i*s'.sz)).take s'.sz)/\TR s' x) len fun i hi=>(cell i (by omega)).2
     refine⟨l,?_,?_⟩
     ·simp only[DC];refine⟨.sl ab ao len cap 0,?_,.inr ⟨ab,ao,cap,0,_,by rw[hl1],by omega,hF,?_,.inl rfl,fun i hi=>(hl2 i hi).1⟩⟩
      ·have:(Value.slice (some ⟨ab,ao,none⟩) len cap)=.slice (some ⟨ab,ao,none⟩) len cap:=rfl;have hne:¬(len=0/\cap=0):=fun h=>h0 h.2
       cases cap with
       |zero=>exact wh rfl h0
       |succ cap=>simp[NB,hlt,hlc]
      ·rw[hl1];have:=(cell (cap-1) (by omega)).1;have h2:len*s'.sz<=cap*s'.sz:=Nat.mul_le_mul_right _ hlc;have h3:cap*s'.sz=(cap-1)*s'.sz+s'.sz:=by rw[<-Nat.succ_mul];congr 1;omega
       simp;omega
     ·simp only[TR];refine⟨by omega,fun x hx=>?_⟩;obtain⟨i,hi,rfl⟩:=List.mem_iff_getElem.1 hx;exact(hl2 i hi).2
  case h_5 fs hu=>
   split at hs
   case h_2=>cases hs
   rename_i s' hs';cases hc:z7 (P.cellsOf t) s'.sz with
   |false=>rw[hc]at hs;cases hs
   |true=>
   rw[hc]at hs;cases hs;have hsz:=zi hc;obtain⟨xs,n,rfl,_,hlen,hxl,hf⟩:=DataW.trod_struct hu h;obtain⟨x,h1,h2⟩:=QV (cs:=cs) (fun t s cs y h1 h2=>ih n t s cs y h1 h2) fs.toList 0 _ hs' (fun f hfm=>by
    obtain⟨i,hi⟩:=List.mem_iff_getElem?.1 hfm;have hi':fs[i]?=some f:=by simpa using hi
    have:=hf i f hi';have hlt:=(zg.1 hi').1;rw[zf (by omega)]at this;exact⟨_,this⟩)
   refine⟨x,?_,h2⟩;rw[List.drop_zero,yi (by simp;omega)]at h1;exact h1
  case h_6=>cases hs
theorem lH{k:Nat}{t:TypeId}{s:Sh}{v:Value}{d:DataW H}{p:List MemPlace}(hs:wT P k t=some s)(hp:s.P6=false)(hc:v.cells.toList=[v])(h:DataW.Trod enc P W 0 (fun _=>true) true t v d p):
  ∃x:s.T,PC (FW W) (B5 s x) (NB W.heap.size v)/\TR s x/\Ac (pW W) (NB W.heap.size v) v:=by
 obtain⟨fuel,hf⟩:=h;rw[hc]at hf;obtain⟨x,h1,h2⟩:=RP k fuel t s [v] (d,p) hs hf;simp only[List.map_cons,List.map_nil]at h1;exact⟨x,(PC.B5 h1).2 hp _ rfl,h2,Sz (h1.ok _ (by simp))⟩
end
end Go.Pe
namespace Go.Pe
open Go.Det Go.RowKit
section
open Go.Proofs.Tryz (prog)
theorem fQ{F':Fz}{v:V}(h:PC F' (.dat .bool true) v):v=.bool true:=by
 have:=h (fun _=>none) 0;simp only[PR,DC]at this;simpa using this
def GW(W:World):Prop:=∀x∈FN,Ox W x.1=some x.2
theorem GW.h{W:World}(h:GW W):Gh (hW W):=fun x hx=>by rw[NM];exact h x hx
theorem GW.p{W:World}(h:GW W):Gp (pW W):=fun x hx=>by
 have h1:=h x hx;unfold Ox at h1;split at h1
 case h_2=>cases h1
 rename_i c t fz hc;split at h1
 case isTrue=>cases h1
 have hlt:x.1<W.heap.size:=(zg.1 hc).1;have hs:HN W x.1=c.size:=by unfold HN;rw[hc]
 rw[Lz hlt,hs];cases hx2:x.2 with
 |cells cs t' fz'=>rw[hx2]at h1;cases h1;simp[osz]
 |_=>rw[hx2]at h1;cases h1
theorem NN{f:FuncId}{sp:Ao}(ok:Ag Bf f sp)(i:(BG sp.ins).T)(hpre:sp.pre i=true){args:List V}{args':Array Value}{W:World}(hgw:GW W)(hP:LX (FW W) (Af sp.ins i) args)
  (ha:As (pW W) args args'.toList) (hres:∀F' v,PC F' (one (Af sp.outs (sp.f i))) v->v=.bool true) (hp:Bf.prim f=none:=by kernel_rfl):
  Calls prog f args' W fun e W'=>e=.returned (.bool true)/\Below W.heap.size W W':=by
 obtain⟨l,M,h1,_,h2⟩:=(ok.zero hp).run (FW W) (hW W) args i (fun b cs h=>by
  unfold FW at h;split at h
  case h_2=>cases h
  rename_i cs' t fz hg;cases h;exact⟨t,fz,hg⟩) (fun b o h=>(R_W W).lt h) hgw.h hP hpre
 refine((Il vK Yu RW M).fn f args (hW W) l (h1 M (zy _)) (pW W) W args' (R_W W) hgw.p ha).mono ?_;rintro e w' ⟨v,h',v',p',hm,rfl,hv,hx⟩;obtain⟨_,_,_,F',_,_,_,hr⟩:=h2 _ hm;obtain rfl:=hres F' v hr;refine⟨?_,lD hx⟩;simp only[Ac]at hv;rw[hv]
end
end Go.Pe
namespace Go.Proofs.YtmcnicakonagdaaGreatDoor
open Go
set_option maxRecDepth 100000
theorem seatTie1:Tryz.prog.laidByTextLater [("math/bits.deBruijn32tab",Rows.laid_math_bits_deBruijn32tab),("math/bits.deBruijn64tab",Rows.laid_math_bits_deBruijn64tab),("internal/strconv.uint64pow10",Rows.laid_internal_strconv_uint64pow10),("unicode/utf8.acceptRanges",Rows.laid_unicode_utf8_acceptRanges),("strconv.ErrRange",Rows.laid_strconv_ErrRange),("strconv.ErrSyntax",Rows.laid_strconv_ErrSyntax)] [.data,.data,.data,.data,.sentinel,.sentinel] true:=
 Program.laidByTextLater_by_one 72 8 65 (by kernel_rfl) (by kernel_rfl) (by kernel_rfl) (by kernel_rfl) (by kernel_rfl) (by kernel_rfl) (fun _ _=>by kernel_rfl)
theorem noOwnUnsafe:Tryz.pinned.checked.prog.headLifts.contains "ownunsafe"=false:=by kernel_rfl
theorem fits1:Tryz.pinned.checked.prog.listedFits Rows.ratingLinesRow.laid=true:=by
 unfold Program.listedFits;rw[noOwnUnsafe];kernel_rfl
theorem ratingLines_row_tie:Rows.ratingLinesRow.laidByTextAt .later Tryz.pinned [.data,.data,.data,.data,.sentinel,.sentinel,.pinned] true:=by
 refine OpenClaim.laidByTextAt_pinned rfl rfl seatTie1 rfl rfl rfl rfl (fun y hy _e=>?_) fits1;simp only[Rows.ratingLinesRow,List.zip_cons_cons,List.zip_nil_right,List.mem_cons,List.mem_nil_iff,or_false]at hy;rcases hy with rfl|rfl|rfl|rfl|rfl|rfl|rfl
 ·cases _e
 ·cases _e
 ·cases _e
 ·cases _e
 ·cases _e
 ·cases _e
 ·exact⟨by kernel_rfl,by kernel_rfl⟩
end Go.Proofs.YtmcnicakonagdaaGreatDoor
