import Derived.Test.YtknhdhchejmpgaaGreatDoorX14
import Derived.Test.YtknhdhchejmpgaaGreatDoorX03
import Derived.ChangeSame
import Derived.Below
import Derived.Test.YtknhdhchejmpgaaGreatDoorX09
import Derived.ChangeShapes
import Derived.OpenShut
import Derived.Test.YtknhdhchejmpgaaGreatDoorRows
import Derived.LaidByTextLater
import Derived.SevenTiedAt
import Derived.LaidSub
import Derived.LaidOnce
/- A part of a proof (no law is stated here). Made by program out of texts by AI agents. -/
noncomputable section
open Go.Pe.Ends renaming tt -> zc, leaf -> ze, ite -> zh, Av -> zk, eq -> zo, ff -> ye
open Bool renaming and_eq_true -> zg, true_and -> yr
open Go.Lib renaming decDigits -> zj, itoa -> qd
open Array renaming getElem?_eq_some_iff -> zl, getElem?_eq_none -> yb
open Go.IntKind renaming wrap -> zm
open Go.DataW renaming trod -> zn, TrodAll -> yt, Trod -> ql
open List renaming length_append -> zp, length_cons -> zq, getElem?_eq_getElem -> zt, length_eq_zero_iff -> zx, getElem?_eq_none -> zy, take_of_length_le -> z8, length_singleton -> yc, getD_eq_getElem?_getD -> yf, mem_flatMap -> yh, map_cons -> yi, mem_append_right -> yp, all_eq_true -> yq, mem_cons -> yy, getElem?_take_of_lt -> yz, length_drop -> y7, map_take -> qi, map_drop -> qj, range -> qk
open Nat renaming eq_of_beq_eq_true -> zr, le_refl -> zu, lt_of_le_of_lt -> yj, beq -> yo, zero_le -> qf
open Go.Pe.Ad renaming of -> zw
open Rat renaming divInt -> zz, floor_def -> yx, num_intCast -> qc
open Option renaming bind_some -> z7, bind_eq_some_iff -> y9
open Int renaming lt_of_lt_of_le -> ya, toNat_natCast -> yd, mul_ne_zero -> yv, natAbs_ediv_le_natAbs -> yw, tdiv_eq_ediv_of_dvd -> y8, natAbs_mul -> qe, le_of_lt -> qm
open Go.Sp renaming rW -> yg, B9 -> yk, rN -> ym, vR -> qh
open Go.Value renaming okWide -> yn
open Go.OpenClaim renaming laidByTextAt_pinned -> yu
open Go.World renaming cell? -> qg
open Go.Addr renaming add -> qn
namespace Go.Sp
theorem Um:∀(f n l:Nat) (acc:List UInt8),(HF f n l acc).length<=acc.length+f
 |0,_,_,acc=>zu _
 |f+1,n,l,acc=>by
  unfold HF;split
  ·omega
  ·have:=Um f (n/10) l (UInt8.ofNat (48+n % 10)::acc);rw[zq]at this;omega
theorem Ov(n l:Int):(HU n l).length<=64:=by
 have:=Um 64 n.toNat l.toNat [];rw[List.length_nil,Nat.zero_add]at this;exact this
theorem S7{v:Int}{k:Nat}(h:v<(B9:Int)^k)(hk:1<=k):(zj v.toNat).length<=9*k:=by
 rw[VD]at h;have h4:((10^(9*k):Nat):Int)=(10:Int)^(9*k):=Int.natCast_pow ..;rw[<-h4]at h;refine DP (k:=9*k) ?_ (by omega);have hp:0<10^(9*k):=Nat.pow_pos (by decide);generalize 10^(9*k)=P at*;omega
end Go.Sp
namespace Go.Pe
open Sp
open Go.Det
theorem tL{s:Sh}(hs:s.sz=1){id n:Nat}{tail:Ob}{fz:Bool}{t:TypeId}{o:List s.T}(hn:n=o.length):Ii ⟨0,.leaf,(id,.arr fz t s o)::tail,0⟩ (.list s) (.sl id 1 0 n none)=some (true,o):=by
 subst hn;have h1:AO ((id,Obj.arr fz t s o)::tail) id=some (.arr fz t s o):=by unfold AO;rw[Nat.beq_refl];rfl
 unfold Ii;have h2:EA ⟨0,.leaf,(id,.arr fz t s o)::tail,0⟩ (PV.cells (.sl id 1 0 o.length none))=some (true,[.dat (.list s) o]):=by
  show(match CD ⟨0,.leaf,(id,.arr fz t s o)::tail,0⟩ (.sl id 1 0 o.length none),some (true,[])with|some (c,x),some (d,xs)=>some (c&&d,x::xs)|_,_=>none)=_;have:CD ⟨0,.leaf,(id,.arr fz t s o)::tail,0⟩ (.sl id 1 0 o.length none)=some (true,.dat (.list s) o):=by
   unfold CD AK.obj;simp only[h1,hs,Nat.beq_refl,we];simp
  rw[this];rfl
 simp only[Kt,Sh.PW];show(match EA ⟨0,.leaf,(id,.arr fz t s o)::tail,0⟩ (PV.cells (.sl id 1 0 o.length none))with|some (c,cs)=>_|none=>none)=_;rw[h2];have:C1 (.list s) [PV.dat (.list s) o]=some o:=by
  unfold C1 Ct nY DU;simp
 simp only[Pu,this,yr]
theorem kH{s:Sh}(hs:s.sz=1){id n:Nat}{tail:Ob}{fz:Bool}{t:TypeId}{o:List s.T}(hn:n=o.length):QO [.list s] (.sl id 1 0 n none) ((id,.arr fz t s o)::tail)=some (true,o):=tL hs hn
theorem Hv(a:List Int)(i:Nat):HR a (i:Int)=a.getD i 0:=by unfold HR;rw[yd]
theorem lI:DM zX:=fun g sp h=>by cases h
theorem T229.ok:Ag Bg 229 Wi:=by
 refine B1 lI (fun(i:List Int×Int) hi=>?_);obtain⟨a,i⟩:=i;have h0:0<=i:=w6 hi;have hq:∀v ob,v=HR a i->Ad Wi (a,i) (.dat i64 v) ob:=fun v ob h=>zw rfl rfl h
 refine zo (T229.Am a i) (zh (fun c=>zc (Aa (w4 h0) c) (ze (hq _ _ rfl))) (fun c=>ze (hq _ _ ?_)));have c:=w7 c;unfold HR;rw[yf,zy (by omega)];rfl
theorem Xp:DM U0:=Ab T229.ok (Ab T227.ok AP)
theorem Qg{x y c:Int}(hx:0<=x/\x<1000000000)(hy:0<=y/\y<1000000000)(hc:0<=c/\c<=1):
  zm .i64 (zm .i64 (x+y)+c)=x+y+c/\Int.tmod (x+y+c) 1000000000=(x+y+c) % 1000000000/\zm .i64 (Int.tdiv (x+y+c) 1000000000)=(x+y+c)/1000000000:=by
 refine⟨?_,Int.tmod_eq_emod_of_nonneg (by omega),?_⟩
 ·rw[wr (x+y) (by omega) (by omega)];exact wr _ (by omega) (by omega)
 ·rw[Int.tdiv_eq_ediv_of_nonneg (by omega)];exact wr _ (by omega) (by omega)
theorem cQ{a b:List Int}(h:iI a b=true):A4 a=true/\A4 b=true/\a.length<=9000/\b.length<=9000:=by
 unfold iI at h;rw[zg,zg,zg,w5,w5]at h;exact⟨h.1.1.1,h.1.1.2,h.1.2,h.2⟩
theorem VS{a b:List Int}(h1:A4 a=true)(h2:A4 b=true)(h3:a.length<=9000)(h4:b.length<=9000):iI a b=true:=by
 unfold iI;rw[h1,h2,w4 h3,w4 h4];rfl
namespace T169
variable {Q:PV->Ob->Prop}
theorem done(a b o:List Int)(i:Nat)(ha:a.length<=i)(hb:b.length<=i)(hq:Q (.sl 0 1 0 o.length none) [(0,.arr false 3 (.int .i64) o)]):Ends U0 (L2 a b o.length 0 i o) Q:=
 zk (AZ ..) (ye (w8 (by omega)) (ye (w8 (by omega)) (ye (by decide) (ze hq))))
set_option maxRecDepth 10000 in
theorem AQ(a b:List Int)(ha:A4 a=true)(hb:A4 b=true)(la:a.length<=9000)(lb:b.length<=9000)(hq:Q (.sl 0 1 0 (Fu a b).length none) [(0,.arr false 3 (.int .i64) (Fu a b))]):∀(k i:Nat) (o:List Int) (c:Int),i+k=max a.length b.length->FB a b i o c->Ends U0 (L2 a b o.length c i o) Q:=by
 have stop:∀(i:Nat) (o:List Int),a.length<=i->b.length<=i->FB a b i o 0->Ends U0 (L2 a b o.length 0 i o) Q:=fun i o h1 h2 h=>by
  have:=h.fin h1 h2;exact done a b o i h1 h2 (by rw[this];exact hq)
 have next:∀(i:Nat) (o:List Int) (c:Int),i<=9000->FB a b i o c->(i<a.length\/i<b.length\/0<c->Ends U0 (L2 a b (o++[(a.getD i 0+b.getD i 0+c) % 1000000000]).length ((a.getD i 0+b.getD i 0+c)/1000000000) ((i+1:Nat):Int) (o++[(a.getD i 0+b.getD i 0+c) % 1000000000])) Q)->Ends U0 (L2 a b o.length c i o) Q:=fun i o c hi h go=>by
  obtain⟨s1,s2,s3⟩:=Qg (Bx ha i) (Bx hb i) h.c01;have e1:zm .i64 ((i:Int)+1)=((i+1:Nat):Int):=by rw[wr _ (by omega) (by omega)];omega
  have hl:=h.len;have cap:(decide ((1:Nat)<=(1:Nat))&&true&&decide (o.length=o.length)&&decide ((2*(o.length+1)+1000)*8<=281474976710656))=true:=by
   rw[w4 (zu 1),w4 (p:=o.length=o.length) rfl,Bool.and_true,yr];exact w4 (by omega)
  have h0:decide ((0:Int)<=(i:Int))=true:=w4 (by omega);rw[zp]at go;by_cases c1:(i:Int)<(a.length:Int)
  ·refine zk (AZ ..) ?_;conv=>zeta
   rw[Hv,Hv,s1,s2,s3,e1];exact zc (w4 c1) (zc h0 (zc h0 (zc rfl (zc cap (zc rfl (go (.inl (by omega))))))))
  ·by_cases c2:(i:Int)<(b.length:Int)
   ·refine zk (AZ ..) ?_;conv=>zeta
    rw[Hv,Hv,s1,s2,s3,e1];exact ye (w8 c1) (zc (w4 c2) (zc h0 (zc h0 (zc rfl (zc cap (zc rfl (go (.inr (.inl (by omega))))))))))
   ·by_cases c3:c>0
    ·refine zk (AZ ..) ?_;conv=>zeta
     rw[Hv,Hv,s1,s2,s3,e1];exact ye (w8 c1) (ye (w8 c2) (zc (w4 c3) (zc h0 (zc h0 (zc rfl (zc cap (zc rfl (go (.inr (.inr c3))))))))))
    ·obtain rfl:c=0:=by have:=h.c01;omega
     exact stop i o (by omega) (by omega) h
 intro k;induction k with
 |zero=>
  intro i o c hi h;refine next i o c (by omega) h (fun hc=>?_);have h2:=h.step ha hb hc;have z1:a.getD i 0=0:=by rw[yf,zy (by omega)];rfl
  have z2:b.getD i 0=0:=by rw[yf,zy (by omega)];rfl
  have hc0:=h.c01;have z3:(a.getD i 0+b.getD i 0+c)/1000000000=0:=by rw[z1,z2];omega
  rw[z3]at h2 ⊢;exact stop (i+1) _ (by omega) (by omega) h2
 |succ k ih=>
  intro i o c hi h;exact next i o c (by omega) h (fun hc=>ih (i+1) _ _ (by omega) (h.step ha hb hc))
set_option maxRecDepth 10000 in
theorem ok:Ag Bg 169 Vp:=by
 refine B1 Xp (fun(i:List Int×List Int) hi=>?_);obtain⟨a,b⟩:=i;obtain⟨ha,hb,la,lb⟩:=cQ hi;obtain⟨s1,s2,s3⟩:=Qg (Bx ha 0) (Bx hb 0) (c:=0) (by decide);have h0:=FB.start a b;have e0:(0:Int)=((0:Nat):Int):=rfl;have go:(0<a.length\/0<b.length)->Ends U0 (L2 a b 1 ((a.getD 0 0+b.getD 0 0+0)/1000000000) ((1:Nat):Int) [(a.getD 0 0+b.getD 0 0+0) % 1000000000]) (Ad Vp (a,b)):=fun hc=>
  AQ a b ha hb la lb (zw (kH rfl rfl) rfl rfl) (max a.length b.length-1) 1 _ _ (by omega) (h0.step ha hb (by rcases hc with h|h<;>omega))
 refine zo (Am a b) (zk (Ar ..) ?_);have d1:HR a 0=a.getD 0 0:=rfl;have d2:HR b 0=b.getD 0 0:=rfl;have e1:zm .i64 ((0:Int)+1)=((1:Nat):Int):=rfl;rw[d1,d2,s1,s2,s3,e1];refine zh (fun c=>?_) (fun c1=>zh (fun c=>?_) (fun c2=>ye rfl (ze (zw (y:=[]) rfl rfl ?_))))
 ·exact zc rfl (zc rfl (zc rfl (zc rfl (zc rfl (go (.inl (by have:=w6 c;omega)))))))
 ·exact zc rfl (zc rfl (zc rfl (zc rfl (zc rfl (go (.inr (by have:=w6 c;omega)))))))
 ·have c1:=w7 c1;have c2:=w7 c2;exact h0.fin (by omega) (by omega)
end T169
namespace T171
variable {Q:PV->Ob->Prop}
theorem G4{x y c:Int}(hx:0<=x/\x<1000000000)(hy:0<=y/\y<1000000000)(hc:0<=c/\c<=1):
  zm .i64 (zm .i64 (x-y)-c)=x-y-c/\zm .i64 (x-y-c+1000000000)=x-y-c+1000000000:=by
 refine⟨?_,wr _ (by omega) (by omega)⟩;rw[wr (x-y) (by omega) (by omega)];exact wr _ (by omega) (by omega)
set_option maxRecDepth 10000 in
theorem AQ(a b:List Int)(ha:A4 a=true)(hb:A4 b=true)(la:a.length<=9000)(hle:Ai b<=Ai a)(hq:∀ob,Q (.dat li (Gy a b)) ob):∀(k i:Nat) (o:List Int) (c:Int),i+k=a.length->GF a b i o c->Ends U0 (L2 a b o.length c i o) Q
 |0,i,o,c,hi,h=>by
  have hi:i=a.length:=by omega
  subst hi;have hl:=h.len;refine zk (AZ ..) (ye (w8 (by omega)) ?_);rw[z8 (zu _)];refine zc (Aa (Aa (w4 (by omega)) rfl) (w4 (by omega))) (ze ?_);rw[h.fin hb hle];exact hq _
 |k+1,i,o,c,hi,h=>by
  obtain⟨s1,s2⟩:=G4 (Bx ha i) (Bx hb i) h.c01;have e1:zm .i64 ((i:Int)+1)=((i+1:Nat):Int):=by rw[wr _ (by omega) (by omega)];omega
  have hl:=h.len;have cap:(decide ((1:Nat)<=(1:Nat))&&true&&decide (o.length=o.length)&&decide ((2*(o.length+1)+1000)*8<=281474976710656))=true:=by
   rw[w4 (zu 1),w4 (p:=o.length=o.length) rfl,Bool.and_true,yr];exact w4 (by omega)
  refine zk (AZ ..) ?_;conv=>zeta
  rw[Hv,yd,s1,s2,e1];refine zc (w4 (by omega)) (zc (Aa (w4 (by omega)) (w4 (by omega))) (zc (w4 (by omega)) (zh (fun d=>zc cap ?_) (fun d=>zc cap ?_))))
  ·have:=AQ a b ha hb la hle hq k (i+1) _ _ (by omega) (h.step ha hb _ 1 (.inl ⟨w6 d,rfl,rfl⟩));rw[zp]at this;exact this
  ·have:=AQ a b ha hb la hle hq k (i+1) _ _ (by omega) (h.step ha hb _ 0 (.inr ⟨w7 d,rfl,rfl⟩));rw[zp]at this;exact this
set_option maxRecDepth 10000 in
theorem ok:Ag Bg 171 Vs:=by
 refine B1 Xp (fun(i:List Int×List Int) hi=>?_);obtain⟨a,b⟩:=i;have hi:(iI a b&&decide (Ai b<=Ai a))=true:=hi;rw[zg,w5]at hi;obtain⟨hi,hle⟩:=hi;obtain⟨ha,hb,la,lb⟩:=cQ hi;have h0:=GF.start a b;have hq:∀ob,Ad Vs (a,b) (.dat li (Gy a b)) ob:=fun ob=>zw rfl rfl rfl
 refine zo (Am a b) (zk (Ar ..) ?_);obtain⟨s1,s2⟩:=G4 (Bx ha 0) (Bx hb 0) (c:=0) (by decide);have d2:HR b 0=b.getD 0 0:=rfl;have e1:zm .i64 ((0:Int)+1)=((1:Nat):Int):=rfl;rw[d2,show Int.toNat 0=0 from rfl,s1,s2,e1];refine zh (fun c=>?_) (fun c=>?_)
 ·have c1:=w6 c;refine zc (Aa rfl c) (zc rfl (zh (fun d=>zc rfl ?_) (fun d=>zc rfl ?_)))
  ·exact AQ a b ha hb la hle hq (a.length-1) 1 _ _ (by omega) (h0.step ha hb _ 1 (.inl ⟨w6 d,rfl,rfl⟩))
  ·exact AQ a b ha hb la hle hq (a.length-1) 1 _ _ (by omega) (h0.step ha hb _ 0 (.inr ⟨w7 d,rfl,rfl⟩))
 ·have c:=w7 c;have hz:a=[]:=zx.1 (by omega);subst hz;refine zc rfl (ze ?_);rw[GF.fin h0 hb hle];exact hq _
end T171
theorem Nb:DM wT:=Ab T168.ok (Ab T169.ok (Ab T170.ok (Ab T171.ok (Ab T172.ok (Ab T164.ok AP)))))
theorem Hb{n:Int}{k:Nat}(h0:0<=n)(h:n<(yk:Int)^k):(By n).length<=k:=Nh h0 h
theorem Jj{a:Bool×List Int}(h:Ci a=true):0<=Ai a.2/\Ai a.2<(yk:Int)^3000:=by
 obtain⟨h1,h2,_⟩:=CY h;refine⟨(Et h).2,ya (Br (b:=yk) (by decide) (Bk h1).2.1) (AH (by decide) h2)⟩
theorem OI{x y:Int}{k:Nat}(h1:x<(yk:Int)^k)(h2:y<(yk:Int)^k):x+y<(yk:Int)^(k+1):=by
 have:(yk:Int)^(k+1)=(yk:Int)^k*1000000000:=Int.pow_succ ..;have hp:=AN (b:=(yk:Int)) (by decide) k;rw[this];omega
theorem T97.ok:Ag Bg 97 bJ:=by
 refine B1 Nb (fun(i:(Bool×List Int)×(Bool×List Int)) hi=>?_);obtain⟨a,b⟩:=i;have hi:(Ci a&&Ci b)=true:=hi;rw[zg]at hi;obtain⟨ha,hb⟩:=hi;obtain⟨a1,a2,_⟩:=CY ha;obtain⟨b1,b2,_⟩:=CY hb;obtain⟨va,wa⟩:=Jj ha;obtain⟨vb,wb⟩:=Jj hb;have pl:=VS a1 b1 (by omega) (by omega);have pl2:=VS b1 a1 (by omega) (by omega);refine zo (T97.Am a b) (zh (fun c=>?_) (fun c=>zc (Aa a1 b1) (zh (fun d=>?_) (fun d=>?_))))
 ·have hl:(Fu a.2 b.2).length<=3001:=Hb (by omega) (OI wa wb);exact zc pl (zc (w4 (by omega)) (ze (zw rfl rfl (ZO ha hb (by simpa using c)))))
 ·have hle:Ai b.2<=Ai a.2:=by
   have d:=w6 d;unfold BZ at d;split at d
   ·omega
   ·omega
  have hl:(Gy a.2 b.2).length<=3000:=Hb (by omega) (by omega);exact zc (Aa pl (w4 hle)) (zc (w4 (by omega)) (ze (zw rfl rfl (XG hb (by simpa using c) hle))))
 ·have hle:Ai a.2<=Ai b.2:=by
   have d:=w7 d;unfold BZ at d;split at d
   ·omega
   ·split at d<;>omega
  have hl:(Gy b.2 a.2).length<=3000:=Hb (by omega) (by omega);exact zc (Aa pl2 (w4 hle)) (zc (w4 (by omega)) (ze (zw rfl rfl (jM ha (by simpa using c) hle))))
theorem T98.ok:Ag Bg 98 Yl:=by
 refine B1 Nb (fun(i:(Bool×List Int)×(Bool×List Int)) hi=>?_);obtain⟨a,b⟩:=i;have hi:(Ci a&&Ci b)=true:=hi;rw[zg]at hi;obtain⟨ha,hb⟩:=hi;obtain⟨a1,a2,_⟩:=CY ha;obtain⟨b1,b2,_⟩:=CY hb;obtain⟨va,wa⟩:=Jj ha;obtain⟨vb,wb⟩:=Jj hb;have hm:Ai a.2*Ai b.2<(yk:Int)^(3000+3000):=by
  rw[Int.pow_add];have hp:(0:Int)<(yk:Int)^3000:=AN (by decide) 3000;exact Int.lt_of_le_of_lt (Int.mul_le_mul_of_nonneg_left (qm wb) va) (Int.mul_lt_mul_of_pos_right wa hp)
 have hl:=Hb (Int.mul_nonneg va vb) hm;exact zo (T98.Am a b) (zc (Aa (QG (by omega) (Bk a1).2.1) (QG (by omega) (Bk b1).2.1)) (zc (w4 (by omega)) (ze (zw rfl rfl (eH ha hb)))))
theorem T166.ok:Ag Bg 166 XR:=by
 refine B1 Nb (fun(a:Bool×List Int) ha=>?_);have ha:Ci a=true:=ha;have:=(CY ha).2.1;exact zo (T166.Am a) (zc (w4 (by omega)) (ze (zw rfl rfl (gG ha))))
theorem T177.ok:Ag Bg 177 X5:=by
 refine B1 Nb (fun(i:(Bool×List Int)×(Bool×List Int)) hi=>?_);obtain⟨a,b⟩:=i;have hi:(Ci a&&Ci b&&decide (0<qh b))=true:=hi;rw[zg,zg,w5]at hi;obtain⟨⟨ha,hb⟩,h0⟩:=hi;obtain⟨a1,a2,_⟩:=CY ha;obtain⟨b1,b2,_⟩:=CY hb;obtain⟨va,wa⟩:=Jj ha;have hv:=(LZ hb h0).2;have hp:0<Ai b.2:=by rw[<-hv];exact h0
 have q0:=Int.ediv_nonneg va (qm hp);have q1:Ai a.2/Ai b.2<(yk:Int)^3000:=Int.lt_of_le_of_lt (Int.ediv_le_self _ va) wa;have r0:=Int.emod_nonneg (Ai a.2) (show Ai b.2≠0 by omega);have hl:=Hb q0 q1;have nq:=(Fm q0 q1 (by decide)).1;have hz:(By (Ai a.2 % Ai b.2)).length=0↔Ai a.2 % Ai b.2=0:=by
  rw[zx];exact aU (b:=yk) (by decide) r0
 refine zo (T177.Am a b) (zc (Aa (Aa (Aa (Aa a1 b1) (w4 (by omega))) (w4 (by omega))) (w4 hp)) (zh (fun c=>zh (fun d=>?_) (fun d=>?_)) (fun c=>?_)))
 ·have d:=w6 d;have hr:Ai a.2 % Ai b.2≠0:=fun e=>by have:=hz.2 e;omega
  have hl2:(Fu (By (Ai a.2/Ai b.2)) [1]).length<=3001:=by
   refine Hb ?_ ?_
   ·rw[(El q0).1];show 0<=_+(1:Int);omega
   ·rw[(El q0).1];exact OI q1 (ya (show(1:Int)<(yk:Int)^1 by decide) (AH (by decide) (by decide)))
  exact zc (VS nq rfl (by omega) (by decide)) (zc (w4 (by omega)) (ze (zw rfl rfl (VK ha hb h0 c hr))))
 ·have d:=w7 d;exact zc (w4 (by omega)) (ze (zw rfl rfl (NP ha hb h0 (.inr (hz.1 (by omega))))))
 ·exact zc (w4 (by omega)) (ze (zw rfl rfl (NP ha hb h0 (.inl c))))
theorem kJ:DM yG:=Ab T109.ok AP
namespace T167
variable {Q:PV->Ob->Prop}
theorem Aj(neg:Bool)(w:List Int)(hw:A4 w=true)(hwl:w.length<=3000)(hq:∀ob,Q (.dat .str (if neg=true then 45::zj (Ai w).toNat else zj (Ai w).toNat)) ob):∀(i:Nat),i<=w.length->0<Sp.val yk (w.drop i)->Ends yG (L1 (zj (Sp.val yk (w.drop i)).toNat) ((i:Int)-1) neg w) Q:=by
 have hlen:∀i,(zj (Sp.val yk (w.drop i)).toNat).length<=27000:=fun i=>by
  have h1:=Br (b:=yk) (by decide) (EB (Bk hw).2.1 i);have h2:(yk:Int)^(w.drop i).length<=(yk:Int)^3000:=AH (by decide) (by rw[y7];omega);exact S7 (k:=3000) (ya h1 h2) (by decide)
 intro i;induction i with
 |zero=>
  intro _ _;have hl:=hlen 0;rw[List.drop_zero]at hl ⊢;have hl:(zj (Ai w).toNat).length<=27000:=hl;refine zk (Ar ..) (ye (by decide) (zh (fun c=>zc (w4 (by show 1+(zj (Ai w).toNat).length<=_;omega)) (ze ?_)) (fun c=>ze ?_)))
  ·rw[wd c]at hq;exact hq _
  ·rw[wc (by rw[c];decide)]at hq;exact hq _
 |succ i ih=>
  intro hi h0;have g:=Bx hw i;have e1:(((i+1:Nat):Int)-1)=(i:Int):=by omega
  have hl:=hlen (i+1);have h9:(HU (w.getD i 0) 9).length<=64:=by
   have:=Ov (w.getD i 0) 9;exact this
  obtain⟨s1,s2⟩:=ZD hw i h0;rw[e1];refine zk (Ar ..) ?_;conv=>zeta
  rw[yd,s1,wr ((i:Int)-1) (by omega) (by omega)];exact zc (w4 (by omega)) (zc (Aa (w4 (by omega)) (w4 (by omega))) (zc (Aa (Aa (Aa (w4 g.1) (w4 (by omega))) rfl) rfl) (zc (w4 (by omega)) (ih (by omega) s2))))
theorem ok:Ag Bg 167 Vm:=by
 refine B1 kJ (fun(a:Bool×List Int) ha=>?_);have ha:Ci a=true:=ha;obtain⟨a1,a2,_⟩:=CY ha;refine zo (Am a) (zh (fun c=>ze (zw rfl rfl (cD ?_))) (fun c=>?_))
 ·exact zx.1 (by have:(a.2.length:Int)=0:=(by simpa using c);omega)
 ·have c:(a.2.length:Int)≠0:=by simpa using c
  obtain⟨i,hi⟩:∃i,a.2.length=i+1:=⟨a.2.length-1,by omega⟩;have g:=Bx a1 i;obtain⟨s1,s2⟩:=VY a1 hi;have e1:zm .i64 ((a.2.length:Int)-1)=(i:Int):=by rw[wr _ (by omega) (by omega)];omega
  have e2:zm .i64 ((a.2.length:Int)-2)=(i:Int)-1:=by rw[wr _ (by omega) (by omega)];omega
  rw[e1,e2,yd,s1];refine zc (Aa (w4 (by omega)) (w4 (by omega))) (zc (Aa (Aa (Aa (w4 g.1) (w4 (by omega))) rfl) rfl) (Aj a.1 a.2 a1 a2 (fun ob=>zw rfl rfl ?_) i (by omega) s2));exact iF ha (by intro h;rw[h]at hi;cases hi)
end T167
end Go.Pe
namespace Go.Sp
theorem bS{a k m:Nat}(h:a<10^k)(hk:k<=m):a<10^m:=Nat.lt_of_lt_of_le h (Nat.pow_le_pow_right (by decide) hk)
theorem bN{a b k:Nat}(h1:a<10^k)(h2:b<10^k):a+b<10^(k+1):=by rw[Nat.pow_succ];omega
theorem JU{n:Int}{k:Nat}(h:n.natAbs<10^k)(hk:k<=27000):Ci (rN n,rW n)=true:=RA (bS (m:=27000) h hk)
theorem GP{m n:Int}(h:Ci (rN n,rW n)=true)(hm:m.natAbs<=n.natAbs):Ci (rN m,rW m)=true:=by
 have:=sO h;rw[EJ]at this;exact RA (yj hm this)
theorem XC{n:Int}(h:CG n=true):Ci (rN n,rW n)=true:=by
 have h:=Go.Pe.Eh h;exact JU (k:=20) (by have:10^20=100000000000000000000:=rfl;omega) (by decide)
theorem TG{n:Int}(h:Ci (rN n,rW n)=true):A4 (rW n)=true/\(rW n).length<=3000/\Ae n<(B9:Int)^3000:=by
 obtain⟨h1,h2,_⟩:=CY h;refine⟨h1,h2,?_⟩;have:=(Go.Pe.Jj h).2;rwa [show Ai (rN n,rW n).2=Ae n from JY n]at this
theorem S3{n:Int}(h:Ci (rN n,rW n)=true):(AU n).length<=27001:=by
 have h1:=(TG h).2.2;have h2:=S7 h1 (by decide);have e:(Ae n).toNat=n.natAbs:=by rw[Ah];omega
 rw[e]at h2;unfold AU qd;split
 ·rw[zq];omega
 ·rw[show n.toNat=n.natAbs by omega];omega
theorem OX(n:Int):HL (rN n,rW n)=AU n:=by unfold HL;rw[EJ]
theorem VB{N D:Int}(hD:0<D):Int.tdiv N (gI (Ae N) D)=(zz N D).num/\Int.tdiv D (gI (Ae N) D)=((zz N D).den:Int):=by
 have hs:D.sign=1:=Int.sign_eq_one_of_pos hD;have eg:gI (Ae N) D=(Int.gcd N D:Int):=by rw[FQ,Ah];rfl
 have d1:(Int.gcd N D:Int)∣N:=Int.gcd_dvd_left ..;have d2:(Int.gcd N D:Int)∣D:=Int.gcd_dvd_right ..;rw[eg,y8 d1,y8 d2];refine⟨?_,(Hm (N:=N) hD).2.2.1▸?_⟩
 ·rw[Rat.num_divInt,hs,Int.one_mul,Int.gcd_comm]
 ·rw[eg]
theorem Qw(x y:Int):Hs (rN x,rW x) (rN y,rW y)=rN (x*y):=by unfold Hs;rw[EJ,EJ]
theorem P9(x y:Int):HD (rN x,rW x) (rN y,rW y)=rW (x*y):=by unfold HD;rw[EJ,EJ]
theorem aZ(x y:Int):Mo (rN x,rW x) (rN y,rW y)=rN (x+y):=by unfold Mo;rw[EJ,EJ]
theorem iT(x y:Int):ME (rN x,rW x) (rN y,rW y)=rW (x+y):=by unfold ME;rw[EJ,EJ]
theorem Ox(x y:Int):HM (rN x,rW x) (rN y,rW y)=CM x y:=by unfold HM;rw[EJ,EJ]
theorem TS{a b:Nat}(h:a<=b):(zj a).length<=(zj b).length:=by
 have h1:=Lib.lt_pow_nDigits b;have h2:1<=(zj b).length:=List.length_pos_iff.2 (RY b);rw[<-Lib.decDigits_length]at h1;exact DP (yj h h1) h2
theorem neg_num(x:Rat):(x.num<0↔x<0)/\(x.num>0↔0<x):=by
 rw[Rat.lt_iff,Rat.lt_iff];have:(0:Rat).num=0:=rfl;have h1:((0:Rat).den:Int)=1:=rfl;rw[this,h1];omega
theorem iB(p q:Rat):PX (p-q).num=if p<q then -1 else if q<p then 1 else 0:=by
 obtain⟨h1,h2⟩:=neg_num (p-q);have h3:p-q<0↔p<q:=by rw[Rat.sub_lt_iff,Rat.zero_add]
 have h4:0<p-q↔q<p:=(Rat.lt_iff_sub_pos q p).symm;unfold PX;simp only[h1,h2,h3,h4]
end Go.Sp
namespace Go.Pe
open Sp
open Go.Det
theorem kB:DM jI:=Ab T166.ok (Ab T92.ok (Ab T164.ok (Ab T168.ok (Ab T167.ok AP))))
namespace T96
variable {Q:PV->Ob->Prop}
theorem Cz(n d:Int)(hn:Ci (ym n,yg n)=true)(hd:Ci (ym d,yg d)=true)(d0:0<=d)(hq:∀ob,Q (.dat .str (AU n++47::AU d)) ob):Ends jI (L3 (By d) (AU n)) Q:=by
 have l1:=S3 hn;have l2:=S3 hd;have e:yg d=By d:=by unfold yg;rw[Ah,Int.natAbs_of_nonneg d0]
 have l3:=(TG hd).2.1;rw[e]at l3;obtain⟨hv,hg⟩:=El d0;have hp:(BK false (By d),Aq (By d))=(ym d,yg d):=J4 hg (by omega) (fun k=>(by cases k)) (fun _=>hv.symm);refine zk (C2 ..) ?_;conv=>zeta
 rw[hp,OX];refine zc (w4 (by omega)) (zc (w4 (by omega)) (zc hd (zc (w4 (by rw[zp,yc];omega)) (ze ?_))));rw[List.append_assoc];exact hq _
theorem AQ(n d:Int)(hn:Ci (ym n,yg n)=true)(hd:Ci (ym d,yg d)=true)(d0:0<d)(hq1:d=1->∀ob,Q (.dat .str (AU n)) ob)(hq:d≠1->∀ob,Q (.dat .str (AU n++47::AU d)) ob):Ends jI (L2 (By d) (AU n)) Q:=by
 have h1:=mP (n:=d) (by omega);by_cases h:d=1
 ·rw[h1.2 h];exact zk (AZ ..) (zc rfl (zc rfl (zc rfl (ze (hq1 h _)))))
 ·have h3:=Cz n d hn hd (by omega) (hq h);refine zk (AZ ..) (zh (fun c=>zc ?_ (zh (fun e=>?_) (fun _=>h3))) (fun _=>h3))
  ·have c:((By d).length:Int)=1:=by simpa using c
   exact w4 (by omega)
  ·exfalso;have c:((By d).length:Int)=1:=by simpa using c
   have e:(By d).getD 0 0=1:=by simpa using e
   refine h (h1.1 ?_);cases hl:By d with
   |nil=>rw[hl]at c;cases c
   |cons x r=>
    rw[hl]at c e;have hr:r=[]:=zx.1 (by have:((r.length+1:Nat):Int)=1:=c;omega);have e:x=1:=e;rw[hr,e]
theorem Aj(N D:Int)(hN:Ci (ym N,yg N)=true)(hD:Ci (ym D,yg D)=true)(h0:0<D)(hq:∀ob,Q (.dat .str (CM N D)) ob):Ends jI (L1 (ym D) (yg D) (ym N) (yg N)) Q:=by
 obtain⟨n1,n2,n3⟩:=TG hN;obtain⟨d1,d2,d3⟩:=TG hD;obtain⟨g0,f1,f2,f3⟩:=Hm (N:=N) h0;have eD:Ae D=D:=by rw[Ah,Int.natAbs_of_nonneg (qm h0)]
 have ec:Cf (yg N) (yg D)=By (Sp.gI (Ae N) D):=by
  unfold Cf;rw[JY,JY,eD]
 have gd:Sp.gI (Ae N) D<=D:=by
  have eg:Sp.gI (Ae N) D=(Int.gcd N D:Int):=by rw[FQ,Ah];rfl
  rw[eg];exact Int.le_of_dvd h0 (Int.gcd_dvd_right ..)
 have fn:=gA h0 (neg:=ym N) rfl;have nn:(zz N D).num.natAbs<=N.natAbs:=(Fl (n:=N) (d:=D) (by omega)).1;have dd:(zz N D).den<=D.natAbs:=(Fl (n:=N) (d:=D) (by omega)).2;have CF:=GP (m:=(zz N D).num) hN nn;have okD:=GP (m:=((zz N D).den:Int)) hD (by rw[Int.natAbs_natCast];exact dd);have lg:Ae (zz N D).num<(yk:Int)^3000:=(TG CF).2.2;have ft:=QZ (N:=N) (D:=D);have dp:=(zz N D).den_pos;have a0:=Ny (zz N D).num;rw[eD]at d3;refine zk (Ar ..) ?_;conv=>zeta
 rw[ec,JY,JY,eD];generalize Sp.gI (Ae N) D=g at*;have fg:=Fm (n:=g) (k:=3000) (by omega) (by omega) (by decide);rw[fg.2.2.1,fn,f1,f2,OX];have ll:=Hb a0 lg;refine zc (Aa (Aa (Aa n1 d1) (w4 (by omega))) (w4 (by omega))) (zc (Aa (Aa (Aa (Aa n1 fg.1) (w4 (by omega))) (w4 (by omega))) (w4 g0)) (zc (Aa (Aa (Aa (Aa d1 fg.1) (w4 (by omega))) (w4 (by omega))) (w4 g0)) (zc (w4 (by omega)) (zc CF (AQ _ _ CF okD (by omega) (fun h ob=>?_) (fun h ob=>?_))))))
 ·have:=hq ob;rw[ft,wd (by omega)]at this;exact this
 ·have:=hq ob;rw[ft,wc (by omega)]at this;exact this
theorem ok:Ag Bg 96 Lv:=by
 refine B1 kB (fun(i:(Bool×List Int)×(Bool×List Int)) hi=>?_);obtain⟨a,b⟩:=i;have hi:(Ci a&&Ci b&&decide (qh b≠0))=true:=hi;rw[zg,zg,w5]at hi;obtain⟨⟨ha,hb⟩,h0⟩:=hi;have ea:=qX ha;have eb:=qX hb;have hq:∀ob,Ad Lv (a,b) (.dat .str (CM (qh a) (qh b))) ob:=fun ob=>zw rfl rfl rfl
 have ha2:=ha;have hb2:=hb;rw[ea]at ha2;rw[eb]at hb2;refine zo (Am a b) (zh (fun c=>zc ha (zc hb ?_)) (fun c=>?_))
 ·have hneg:qh b<0:=by
   have:=OH hb;rw[c]at this;exact w6 this.symm
  have:=Aj (Q:=Ad Lv (a,b)) (-qh a) (-qh b) (GP ha2 (by rw[Int.natAbs_neg];exact zu _)) (GP hb2 (by rw[Int.natAbs_neg];exact zu _)) (by omega) (fun ob=>by rw[US];exact hq ob);exact this
 ·have hpos:0<qh b:=by
   have:=OH hb;rw[c]at this;have:=w7 this.symm;omega
  have:=Aj (Q:=Ad Lv (a,b)) (qh a) (qh b) ha2 hb2 hpos hq;rw[<-OH ha, <-tW ha, <-OH hb, <-tW hb]at this;exact this
end T96
theorem pJ:DM Z1:=Ab T107.ok (Ab T96.ok (Ab T108.ok (Ab T109.ok AP)))
namespace T36
variable {Q:PV->Ob->Prop}
theorem TZ{n:Int}(h1: -9000000000000000000<=n)(h2:n<=9000000000000000000):imax n (zm .i64 (0-n))=Ae n:=by
 rw[wr _ (by omega) (by omega)];unfold imax Ae;split<;>split<;>omega
theorem BQ(n d:Int)(v:List UInt8)(hv:v=AU n)(hl:v.length<=27001)(d0:0<d)(d1:d<9000000000000000000)(hq1:d=1->∀ob,Q (.dat .str (AU n)) ob)(hq:d≠1->∀ob,Q (.dat .str (AU n++47::AU d)) ob):Ends Z1 (L4 d v) Q:=by
 have h9:=Ov d 1;have e:HU d 1=AU d:=by
  rw[NW (by omega) (by omega)];unfold AU qd;rw[wc (by omega)]
 refine zk (DD ..) (zh (fun c=>zc (w4 (by omega)) (zc (Aa (Aa (Aa (w4 (by omega)) (w4 (by omega))) rfl) rfl) (zc (w4 (by rw[zp,yc];omega)) (ze ?_)))) (fun c=>ze ?_))
 ·have c:=w6 c;rw[hv,e,List.append_assoc];exact hq (by omega) _
 ·have c:=w7 c;rw[hv];exact hq1 (by omega) _
theorem Cz(n d:Int)(n1: -9000000000000000000<n)(n2:n<9000000000000000000)(d0:0<d)(d1:d<9000000000000000000)(hq1:d=1->∀ob,Q (.dat .str (AU n)) ob)(hq:d≠1->∀ob,Q (.dat .str (AU n++47::AU d)) ob):Ends Z1 (L3 n d) Q:=by
 have h9:=Ov (Ae n) 1;have ha:=Ah n;have e:HU (Ae n) 1=zj n.natAbs:=by
  rw[NW (by omega) (by omega)];congr 1;omega
 have ei:=Y4 n;refine zk (C2 ..) ?_;conv=>zeta
 rw[TZ (by omega) (by omega)];have hr:(decide (0<=Ae n)&&decide (Ae n<9223372036854775808)&&decide ((0:Int)<=1)&&decide ((1:Int)<=20))=true:=Aa (Aa (Aa (w4 (by omega)) (w4 (by omega))) rfl) rfl;refine zh (fun c=>zc hr (zc (w4 (by omega)) (BQ n d _ ?_ ?_ d0 d1 hq1 hq))) (fun c=>zc hr (zc (w4 (by omega)) (BQ n d _ ?_ ?_ d0 d1 hq1 hq)))
 ·have c:=w6 c;rw[wd c]at ei;rw[e];exact ei.symm
 ·rw[zp,yc];omega
 ·have c:=w7 c;rw[wc c]at ei;rw[e];exact ei.symm
 ·rw[List.nil_append];omega
theorem AQ(n d:Int)(n1: -9000000000000000000<n)(n2:n<9000000000000000000)(d0:0<d)(d1:d<9000000000000000000)(hq:∀ob,Q (.dat .str (CM n d)) ob):Ends Z1 (L2 n d) Q:=by
 obtain⟨g0,_⟩:=Hm (N:=n) d0;obtain⟨q1,q2⟩:=VB (N:=n) d0;obtain⟨l1,l2⟩:=Fl (n:=n) (d:=d) (by omega);have ha:=Ah n;have dp:=(zz n d).den_pos;have ft:=QZ (N:=n) (D:=d);refine zk (AZ ..) ?_;conv=>zeta
 rw[TZ (by omega) (by omega),q1,q2,wr _ (by omega) (by omega),wr _ (by omega) (by omega)];have hg:decide (Sp.gI (Ae n) d≠0)=true:=w4 (by omega);refine zc (Aa (Aa (Aa (w4 (by omega)) (w4 (by omega))) (w4 (by omega))) (w4 (by omega))) (zc hg (zc hg (Cz _ _ (by omega) (by omega) (by omega) (by omega) (fun h ob=>?_) (fun h ob=>?_))))
 ·have:=hq ob;rw[ft,wd (by omega)]at this;exact this
 ·have:=hq ob;rw[ft,wc (by omega)]at this;exact this
theorem ok:Ag Bg 36 X4:=by
 refine B1 pJ (fun(i:Int×Int) hi=>?_);obtain⟨n,d⟩:=i;have hi:(CG n&&CG d&&decide (d≠0))=true:=hi;rw[zg,zg,w5]at hi;obtain⟨⟨hn,hd⟩,h0⟩:=hi;have hq:∀ob,Ad X4 (n,d) (.dat .str (CM n d)) ob:=fun ob=>zw rfl rfl rfl
 have slow:(Ci (ym n,yg n)&&Ci (ym d,yg d)&&decide (qh (ym d,yg d)≠0))=true:=Aa (Aa (XC hn) (XC hd)) (by rw[EJ];exact w4 h0);refine zo (Am n d) ?_;conv=>zeta
 rw[Ox];refine zh (fun _=>zc hn (zc hd (zc slow (ze (hq _))))) (fun c1=>zh (fun _=>zc hn (zc hd (zc slow (ze (hq _))))) (fun c2=>zh (fun _=>zc hn (zc hd (zc slow (ze (hq _))))) (fun c3=>zh (fun _=>zc hn (zc hd (zc slow (ze (hq _))))) (fun c4=>?_))));have c1:=w7 c1;have c2:=w7 c2;have c3:=w7 c3;have c4:=w7 c4;refine zk (Ar ..) (zh (fun c=>?_) (fun c=>?_))
 ·have c:=w6 c;rw[wr (0-n) (by omega) (by omega),wr (0-d) (by omega) (by omega),Int.zero_sub,Int.zero_sub];exact AQ (-n) (-d) (by omega) (by omega) (by omega) (by omega) (fun ob=>by rw[US];exact hq ob)
 ·have c:=w7 c;exact AQ n d (by omega) (by omega) (by omega) (by omega) hq
end T36
namespace T95
theorem yV{Q:PV->Ob->Prop}(s:List UInt8)(neg:Bool)(hl:s.length<=20)(h:9<(Ay s).length\/9<(Sp.AM s).length)(hq:∀ob,Q (.tup [.dat i64 0,.dat i64 0,.bl false]) ob):Ends Na (L3 s neg) Q/\Ends Na (L4 s) Q:=by
 obtain⟨c1,c2,c3⟩:=BG s;have es:AX s=((Ay s).length:Int):=rfl;have hle:=(T77.CZ s).1;have hB:9<(Sp.AM s).length->(s.length:Int)-(Ay s).length>10:=fun h=>by
  cases hc:Bn s with
  |true=>
   have k2:=wi List.length (c2 hc).2;rw[y7]at k2;omega
  |false=>rw[(c3 hc).2]at h;cases h
 refine⟨zk (C2 ..) (zc (w4 (by omega)) (zh (fun _=>ze (hq _)) (fun c=>?_))),zk (DD ..) (zc (w4 (by omega)) (zh (fun _=>ze (hq _)) (fun c=>?_)))⟩
 ·have c:=w7 c;rw[es]at c;have hb:=hB (by omega);refine zc ?_ (ze (hq _));rw[es,wr _ (by omega) (by omega)];exact w4 hb
 ·have c:=w7 c;rw[es]at c;have hb:=hB (by omega);refine zc ?_ (ze (hq _));rw[es,wr _ (by omega) (by omega)];exact w4 hb
theorem okG:Ag Bg 95 M0:=by
 refine B1 lX (fun(a:List UInt8) ha=>?_);obtain⟨_,_,da,db⟩:=NM ha;by_cases hqk:DQ a=true
 ·have hq:∀n ob,n=IF a->Ad M0 a (.tup [.dat i64 n,.dat i64 (if Bn (AY a)=true then AB 0 (Sp.AM (AY a))else 1),.bl true]) ob:=fun n ob h=>zw rfl rfl (by
   show(n,_,true)=(dP a,Uo a,DQ a);unfold dP Uo;rw[wd hqk,wd hqk,hqk,h];rfl)
  unfold DQ at hqk;rw[zg,zg,w5,w5,w5]at hqk;obtain⟨⟨hl,la⟩,lb⟩:=hqk;clear ha;refine zo (Am a) (ye (by simp;omega) ?_);cases a with
  |nil=>exact ye rfl (zk (AZ ..) (BQ [] hl la lb da db (fun n ob h=>hq n ob (by rw[h];rfl))))
  |cons c r=>
   have g0:(c::r).getD 0 0=c:=rfl;rw[g0];refine zc (by simp) (zc (by simp) (zk (Ar ..) (zh (fun d=>zc (by simp) ?_) (fun d=>?_))))
   ·have hc:c=45:=by
     have:(c.toNat:Int)=45:=by simpa using d
     exact UInt8.toNat_inj.1 (by show _=45;omega)
    have ep:AY (c::r)=r:=by unfold AY;rw[g0,wd hc];rfl
    have eb:Sp.preB (c::r)=true:=by unfold Sp.preB;rw[g0];exact w4 hc
    have et:List.take (Nat.sub (c::r).length 1) (List.drop 1 (c::r))=r:=z8 (zu _);unfold IF at hq;rw[ep]at la lb da db hq;rw[eb]at hq;rw[et,d];exact Cz r true (by rw[zq]at hl;omega) la lb da db (fun n ob h=>hq _ ob (by rw[h];try rfl))
   ·have hc:c≠45:=by rintro rfl;exact wh d (by decide)
    have ep:AY (c::r)=c::r:=by unfold AY;rw[g0,wc hc]
    have eb:Sp.preB (c::r)=false:=by unfold Sp.preB;rw[g0];exact w8 hc
    unfold IF at hq;rw[ep]at la lb da db hq;rw[eb]at hq;rw[d];exact Cz (c::r) false hl la lb da db (fun n ob h=>hq _ ob (by rw[h];try rfl))
 ·have hf:DQ a=false:=by simpa using hqk
  have hq:∀ob,Ad M0 a (.tup [.dat i64 0,.dat i64 0,.bl false]) ob:=fun ob=>zw rfl rfl (by
   show((0:Int),(0:Int),false)=(dP a,Uo a,DQ a);unfold dP Uo;rw[wc hqk,wc hqk,hf])
  refine zo (Am a) (zh (fun _=>ze (hq _)) (fun hl=>?_));have hl:a.length<=20:=by have:=w7 hl;omega
  have h9:9<(Ay (AY a)).length\/9<(Sp.AM (AY a)).length:=by
   by_cases h1:(Ay (AY a)).length<=9
   ·by_cases h2:(Sp.AM (AY a)).length<=9
    ·exact wh (by unfold DQ;rw[w4 hl,w4 h1,w4 h2];rfl) hqk
    ·exact .inr (by omega)
   ·exact .inl (by omega)
  cases a with
  |nil=>exact ye rfl (zk (AZ ..) (yV [] false hl h9 hq).2)
  |cons c r=>
   have g0:(c::r).getD 0 0=c:=rfl;rw[g0];refine zc (by simp) (zc (by simp) (zk (Ar ..) (zh (fun d=>zc (by simp) ?_) (fun d=>?_))))
   ·have hc:c=45:=by
     have:(c.toNat:Int)=45:=by simpa using d
     exact UInt8.toNat_inj.1 (by show _=45;omega)
    have ep:AY (c::r)=r:=by unfold AY;rw[g0,wd hc];rfl
    have et:List.take (Nat.sub (c::r).length 1) (List.drop 1 (c::r))=r:=z8 (zu _);rw[ep]at h9;rw[et];exact(yV r _ (by rw[zq]at hl;omega) h9 hq).1
   ·have hc:c≠45:=by rintro rfl;exact wh d (by decide)
    have ep:AY (c::r)=c::r:=by unfold AY;rw[g0,wc hc]
    rw[ep]at h9;exact(yV (c::r) _ hl h9 hq).1
end T95
theorem Sf:DM qR:=Ab T95.okG (Ab T36.ok (Ab (T91.ok) (Ab T97.ok (Ab T98.ok (Ab T96.ok AP)))))
theorem Tv{x y:Int}(h1: -1000000000<x)(h2:x<1000000000)(h3: -1000000000<y)(h4:y<1000000000): -1000000000000000000<=x*y/\x*y<=1000000000000000000:=by
 have h:(x*y).natAbs<=1000000000*1000000000:=by
  rw[qe];exact Nat.mul_le_mul (by omega) (by omega)
 omega
theorem T27.ok:Ag Bg 27 Qv:=by
 refine B1 Sf (fun(i:List UInt8×List UInt8) hi=>?_);obtain⟨a,b⟩:=i;have hi:(Bh a&&Bh b)=true:=hi;rw[zg]at hi;obtain⟨ha,hb⟩:=hi;obtain⟨a1,a2,a3,a4,a5,a6,a7,a8,a9⟩:=Dj ha;obtain⟨b1,b2,b3,b4,b5,b6,b7,b8,b9⟩:=Dj hb;have ad:=(An a).den_pos;have bd:=(An b).den_pos;have eq:=(YM ha hb).2;have hq:∀ob,Ad Qv (a,b) (.dat .str (CM (A9 a*AI b+A9 b*AI a) (AI a*AI b))) ob:=fun ob=>zw rfl rfl eq.symm
 have slow:Ends qR (T27.L1 a b) (Ad Qv (a,b)):=by
  have e1:Bo a=ym (A9 a):=rfl;have e2:Bi a=yg (A9 a):=rfl;have e3:A8 a=ym (AI a):=rfl;have e4:A5 a=yg (AI a):=rfl;have e5:Bo b=ym (A9 b):=rfl;have e6:Bi b=yg (A9 b):=rfl;have e7:A8 b=ym (AI b):=rfl;have e8:A5 b=yg (AI b):=rfl;rw[e1,e2]at a1;rw[e3,e4]at a3;rw[e5,e6]at b1;rw[e7,e8]at b3;refine zk (T27.Ar ..) ?_;conv=>zeta
  simp only[e1,e2,e3,e4,e5,e6,e7,e8,Qw,P9,aZ,iT,Ox,EJ];have m1:=Dt a8 b9;have m2:=Dt b8 a9;have m3:=Dt a9 b9;rw[<-qe]at m1 m2 m3;have m4:=yj (Int.natAbs_add_le (A9 a*AI b) (A9 b*AI a)) (bN (k:=4000+4000) m1 m2);have k1:=JU m1 (by decide);have k2:=JU m2 (by decide);have k3:=JU m3 (by decide);have k4:=JU m4 (by decide);have k5:AI a*AI b≠0:=yv (by omega) (by omega);exact zc a7 (zc b7 (zc (Aa a1 b3) (zc (Aa b1 a3) (zc (Aa k1 k2) (zc (Aa a3 b3) (zc (Aa (Aa k4 k3) (w4 k5)) (ze (hq _))))))))
 refine zo (T27.Am a b) (zc ha (zc hb (zh (fun qa=>zh (fun qb=>?_) (fun _=>slow)) (fun _=>slow))));obtain⟨x1,x2,x3,x4,x5,x6⟩:=Gd ha qa;obtain⟨y1,y2,y3,y4,y5,y6⟩:=Gd hb qb;have p1:=Tv x3 x4 (by omega) y6;have p2:=Tv y3 y4 (by omega) x6;have p3:=Tv (by omega) x6 (by omega) y6;have p4:AI a*AI b≠0:=yv (by omega) (by omega);rw[x1,x2,y1,y2,wr (A9 a*AI b) (by omega) (by omega),wr (A9 b*AI a) (by omega) (by omega),wr (A9 a*AI b+A9 b*AI a) (by omega) (by omega),wr (AI a*AI b) (by omega) (by omega)];exact zc (Aa (Aa (C3 (by omega) (by omega)) (C3 (by omega) (by omega))) (w4 p4)) (ze (hq _))
theorem T29.ok:Ag Bg 29 Qz:=by
 refine B1 Sf (fun(i:List UInt8×List UInt8) hi=>?_);obtain⟨a,b⟩:=i;have hi:(Bh a&&Bh b)=true:=hi;rw[zg]at hi;obtain⟨ha,hb⟩:=hi;obtain⟨a1,a2,a3,a4,a5,a6,a7,a8,a9⟩:=Dj ha;obtain⟨b1,b2,b3,b4,b5,b6,b7,b8,b9⟩:=Dj hb;have ad:=(An a).den_pos;have bd:=(An b).den_pos;have hq:∀ob,Ad Qz (a,b) (.dat .str (CM (A9 a*A9 b) (AI a*AI b))) ob:=fun ob=>zw rfl rfl (ZX).symm
 have slow:Ends qR (T29.L1 a b) (Ad Qz (a,b)):=by
  have e1:Bo a=ym (A9 a):=rfl;have e2:Bi a=yg (A9 a):=rfl;have e3:A8 a=ym (AI a):=rfl;have e4:A5 a=yg (AI a):=rfl;have e5:Bo b=ym (A9 b):=rfl;have e6:Bi b=yg (A9 b):=rfl;have e7:A8 b=ym (AI b):=rfl;have e8:A5 b=yg (AI b):=rfl;rw[e1,e2]at a1;rw[e3,e4]at a3;rw[e5,e6]at b1;rw[e7,e8]at b3;refine zk (T29.Ar ..) ?_;conv=>zeta
  simp only[e1,e2,e3,e4,e5,e6,e7,e8,Qw,P9,Ox,EJ];have m1:=Dt a8 b8;have m3:=Dt a9 b9;rw[<-qe]at m1 m3;have k1:=JU m1 (by decide);have k3:=JU m3 (by decide);have k5:AI a*AI b≠0:=yv (by omega) (by omega);exact zc a7 (zc b7 (zc (Aa a1 b1) (zc (Aa a3 b3) (zc (Aa (Aa k1 k3) (w4 k5)) (ze (hq _))))))
 refine zo (T29.Am a b) (zc ha (zc hb (zh (fun qa=>zh (fun qb=>?_) (fun _=>slow)) (fun _=>slow))));obtain⟨x1,x2,x3,x4,x5,x6⟩:=Gd ha qa;obtain⟨y1,y2,y3,y4,y5,y6⟩:=Gd hb qb;have p1:=Tv x3 x4 y3 y4;have p3:=Tv (by omega) x6 (by omega) y6;have p4:AI a*AI b≠0:=yv (by omega) (by omega);rw[x1,x2,y1,y2,wr _ (by omega) (by omega),wr (AI a*AI b) (by omega) (by omega)];exact zc (Aa (Aa (C3 (by omega) (by omega)) (C3 (by omega) (by omega))) (w4 p4)) (ze (hq _))
theorem T94.ok:Ag Bg 94 qI:=by
 refine B1 Sf (fun(a:List UInt8) hi=>?_);obtain⟨hs,h0⟩:=U2 hi;obtain⟨a1,a2,a3,a4,a5,a6,a7,a8,a9⟩:=Dj (Hu hs).1;refine zo (T94.Am a) (zc a7 (zc (Aa (Aa a3 a1) ?_) (ze (zw rfl rfl ?_))))
 ·rw[a2];exact w4 fun e=>h0 (Rat.num_eq_zero.mp (by rw[a5,e]))
 ·show HM _ _=P8 a;unfold HM;rw[a2,a4];exact Y9.symm
theorem Xg:DM yW:=Ab T94.ok (Ab T29.ok (Ab T27.ok (Ab T99.ok AP)))
theorem cX{s:List UInt8}(h:FI s=true):Bh (KL s)=true/\An (KL s)= -An s:=by
 obtain⟨h1,h2⟩:=Hu h;obtain⟨t,_⟩:=Ff h1;have e:KL s=AW (-An s):=by
  have:=dF (An s);rwa [t]at this
 have r:An (KL s)= -An s:=by rw[e,CC]
 refine⟨?_,r⟩;have hl:(KL s).length<=4000:=by
  unfold KL;split
  ·omega
  ·split
   ·rw[y7];omega
   ·rw[zq];omega
 unfold Bh;rw[r, <-e,w4 rfl,w4 hl];rfl
theorem T28.ok:Ag Bg 28 dM:=by
 refine B1 Xg (fun(i:List UInt8×List UInt8) hi=>?_);obtain⟨a,b⟩:=i;have hi:(Bh a&&FI b)=true:=hi;rw[zg]at hi;obtain⟨ha,hb⟩:=hi;obtain⟨n1,n2⟩:=cX hb;have hl:=(Hu hb).2;refine zo (T28.Am a b) (zc (w4 (by omega)) (zc (Aa ha n1) (ze (zw rfl rfl ?_))));show D0 a (KL b)=HT a b;unfold D0 HT;rw[n2,Rat.sub_eq_add_neg]
theorem bW{s:List UInt8}(h:ZZ s=true):Bh (P8 s)=true:=by
 obtain⟨h1,h0⟩:=U2 h;obtain⟨h1,h2⟩:=Hu h1;obtain⟨t,_⟩:=Ff h1;have hl:(AW (An s)).length<=3000:=by rw[t];exact h2
 unfold P8;generalize An s=q at*;have l1:(zj q.num.natAbs).length<=(qd q.num).length:=by
  unfold qd;split
  ·rw[zq];omega
  ·rw[show q.num.toNat=q.num.natAbs by omega];exact zu _
 have key:(AW q⁻¹).length<=(zj q.num.natAbs).length+(zj q.den).length+2:=by
  have hi:=Rat.inv_def q;have hz:q.num≠0:=fun e=>h0 (Rat.num_eq_zero.mp e)
  have hd:=q.den_pos;have m:=Fl (n:=(q.den:Int)) (d:=q.num) hz;rw[<-hi,Int.natAbs_natCast]at m;have k1:=TS m.1;have k2:=TS m.2;have l2:(qd q⁻¹.num).length<=(zj q⁻¹.num.natAbs).length+1:=by
   unfold qd;split
   ·rw[zq];omega
   ·rw[show q⁻¹.num.toNat=q⁻¹.num.natAbs by omega];omega
  unfold AW;split
  ·omega
  ·rw[zp,zq];omega
 have l3:(zj q.num.natAbs).length+(zj q.den).length<=3001:=by
  unfold AW at hl;split at hl
  ·next c=>rw[c,Lib.decDigits_one (show 1<10 by decide),yc];omega
  ·rw[zp,zq]at hl;omega
 unfold Bh;rw[CC,w4 rfl,w4 (by omega)];rfl
theorem T26.ok:Ag Bg 26 qV:=by
 refine B1 Xg (fun(i:List UInt8×List UInt8) hi=>?_);obtain⟨a,b⟩:=i;have hi:(Bh a&&ZZ b)=true:=hi;rw[zg]at hi;obtain⟨ha,hb⟩:=hi;refine zo (T26.Am a b) (zc hb (zc (Aa ha (bW hb)) (ze (zw rfl rfl ?_))));show Gz a (P8 b)=GK a b;unfold Gz GK P8;rw[CC,Rat.div_def]
theorem RN:DM xY:=Ab T28.ok (Ab T41.ok (Ab T89.ok (Ab T100.ok (Ab T101.ok (Ab T102.ok AP)))))
theorem T30.ok:Ag Bg 30 pK:=by
 refine B1 RN (fun(i:List UInt8×List UInt8) hi=>?_);obtain⟨a,b⟩:=i;have hi:(Bh a&&FI b)=true:=hi;have hi2:=hi;rw[zg]at hi2;obtain⟨ha,hb⟩:=hi2;have z:=(Ro ha).sub (Ro (Hu hb).1);refine zo (T30.Am a b) (zc hi (zc (w4 (Ut z (by decide))) (ze (zw rfl rfl ?_))));show FA (HT a b)=LD a b;unfold HT;rw[Lu,iB];rfl
theorem T43.ok:Ag Bg 43 XH:=by
 refine B1 RN (fun(a:List UInt8) ha=>?_);refine zo (T43.Am a) (zc ha (ze (zw rfl rfl ?_)));show(AX a==(a.length:Int))=PN a;obtain⟨c1,c2,c3⟩:=BG a;have es:AX a=((Ay a).length:Int):=rfl;unfold PN;cases hc:Bn a with
 |false=>rw[es,(c3 hc).1];simp
 |true=>
  obtain⟨k1,k2⟩:=c2 hc;rw[es];simp;omega
theorem T93.ok:Ag Bg 93 Rx:=by
 refine B1 RN (fun(a:List UInt8) ha=>?_);have hl:a.length<=1000000:=w6 ha;have hc:=(T77.CZ a).1;have hq:∀v ob,v=EZ a->Ad Rx a (.dat i64 v) ob:=fun v ob h=>zw rfl rfl h
 unfold EZ at hq;refine zo (T93.Am a) (zc ha (zc (w4 (by omega)) (zh (fun c=>ze (hq _ _ ?_)) (fun c=>zc ha (zh (fun d=>ze (hq _ _ ?_)) (fun d=>ze (hq _ _ ?_)))))))
 ·have c:=w6 c;rw[wd (.inl (by omega))]
 ·have d:=w6 d;rw[wd (.inr (by omega))]
 ·have c:=w7 c;have d:=w7 d;rw[wc (by omega)]
theorem jZ:DM XR9:=Ab T91.ok (Ab T177.ok (Ab T167.ok (Ab T43.ok AP)))
theorem T113.ok:Ag Bg 113 XX:=by
 refine B1 jZ (fun(a:List UInt8) ha=>?_);obtain⟨a1,a2,a3,a4,a5,a6,a7,a8,a9⟩:=Dj ha;obtain⟨t,hl⟩:=Ff ha;have dp:=(An a).den_pos;refine zo (T113.Am a) (zc (w4 (by omega)) (zh (fun c=>ze (zw rfl rfl ?_)) (fun c=>zc a7 (zc (Aa (Aa a1 a3) (by rw[a4];exact w4 (by omega))) (zc ?_ (ze (zw rfl rfl ?_)))))))
 ·show a=AU (An a).floor;have hc:(An a).den=1:=by
   have c3:=(EI (An a)).2.2;rw[t]at c3;unfold PN at c;rw[c3]at c;simpa using c
  rw[yx,hc];have:(An a).num/((1:Nat):Int)=(An a).num:=Int.ediv_one _;rw[this];conv=>lhs;rw[<-t]
  unfold AW;rw[wd hc];rfl
 ·show Ci (IJ _ _,H4 _ _)=true;unfold IJ H4;rw[a2,a4];exact GP a1 (yw _ _)
 ·show HL (IJ _ _,H4 _ _)=AU (An a).floor;unfold IJ H4;rw[a2,a4,OX,yx,a5,a6]
namespace T23
theorem loop{Q:PV->Ob->Prop}(l:List Int)(hl:l.length<=1000000):∀(r:List Int) (i:Nat),l.drop i=r->i<=l.length->(∀ob,Q (.dat i64 (Sp.first r)) ob)->Ends pM (L1 l (i:Int)) Q
 |[],i,h,hi,hq=>by
  have:=drop_nil h hi;exact zk (Ar ..) (ye (w8 (by omega)) (ze (hq _)))
 |x::r,i,h,hi,hq=>by
  obtain⟨g1,g2,g3⟩:=drop_cons (d:=(0:Int)) h;have e1:zm .i64 ((i:Int)+1)=((i+1:Nat):Int):=by rw[wr _ (by omega) (by omega)];omega
  have ef:Sp.first (x::r)=if x≠0 then x else Sp.first r:=rfl
  rw[ef]at hq;have hc:(decide ((0:Int)<=(i:Int))&&decide ((i:Int)<(l.length:Int)))=true:=Aa (w4 (by omega)) (w4 (by omega));refine zk (Ar ..) ?_;conv=>zeta
  rw[yd,g2,e1];refine zc (w4 (by omega)) (zc hc (zh (fun c=>?_) (fun c=>loop l hl r (i+1) g3 g1 ?_)))
  ·have c:x≠0:=by simpa using c
   rw[wd c]at hq;exact zc hc (ze (hq _))
  ·have c:x=0:=by simpa using c
   rw[wc (by rw[c];decide)]at hq;exact hq
theorem ok:Ag Bg 23 Hf:=by
 refine B1 Rm (fun(l:List Int) hl=>?_);exact zo (Am l) (loop l (w6 hl) l 0 rfl (qf _) (fun ob=>zw rfl rfl rfl))
end T23
theorem mN:DM xX:=Ab T93.ok AP
theorem T25.ok:Ag Bg 25 Qo:=by
 refine B1 mN (fun(i:List UInt8×Int×List UInt8×Int) hi=>?_);obtain⟨a,e,w,bad⟩:=i;have hq:∀v ob,v=Gs a e w bad->Ad Qo (a,e,w,bad) (.dat .bool v) ob:=fun v ob h=>zw rfl rfl h
 have hqb:∀v ob,v=Gs a e w bad->Ad Qo (a,e,w,bad) (.bl v) ob:=fun v ob h=>zw rfl rfl h
 have key:∀x:Int,x=(if bad=0 then EZ w else bad)->Gs a e w bad=if x≠0 then decide (a=[])&&decide (e=x)else decide (e=0)&&decide (a=w):=by
  rintro x rfl;rfl
 have yes:∀(x:Int) ob,x=(if bad=0 then EZ w else bad)->x≠0->Ends xX (.ite (a==[]) (.leaf (PV.dat Sh.bool (e==x)) ob) (.leaf (PV.bl false) ob)) (Ad Qo (a,e,w,bad)):=fun x ob h h0=>by
  have k:=key x h;rw[wd h0]at k;refine zh (fun c=>ze (hq _ _ ?_)) (fun c=>ze (hqb _ _ ?_))
  ·have c:a=[]:=by simpa using c
   rw[k,w4 c,yr];rfl
  ·have c:a≠[]:=by simpa using c
   rw[k,w8 c];rfl
 have no:∀(x:Int) ob,x=(if bad=0 then EZ w else bad)->x=0->Ends xX (.ite (e==0) (.leaf (PV.dat Sh.bool (a==w)) ob) (.leaf (PV.bl false) ob)) (Ad Qo (a,e,w,bad)):=fun x ob h h0=>by
  have k:=key x h;rw[wc (by rw[h0];decide)]at k;refine zh (fun c=>ze (hq _ _ ?_)) (fun c=>ze (hqb _ _ ?_))
  ·have c:e=0:=by simpa using c
   rw[k,w4 c,yr];by_cases h:a=w
   ·rw[w4 h];simpa using h
   ·rw[w8 h];simpa using h
  ·have c:e≠0:=by simpa using c
   rw[k,w8 c];rfl
 refine zo (T25.Am a e w bad) (zh (fun c=>zc hi (zh (fun d=>?_) (fun d=>?_))) (fun c=>zh (fun d=>?_) (fun d=>?_)))
 ·have c:bad=0:=by simpa using c
  exact yes _ _ (by rw[wd c]) (by simpa using d)
 ·have c:bad=0:=by simpa using c
  exact no _ _ (by rw[wd c]) (by simpa using d)
 ·have c:bad≠0:=by simpa using c
  exact yes _ _ (by rw[wc c]) c
 ·have c:bad≠0:=by simpa using c
  exact wh (by simpa using d) c
theorem gK{l:List (List UInt8)}(h:(!H7 l)=false):∀s∈l,s.length<=1300:=by
 have h:H7 l=true:=by simpa using h
 unfold H7 at h;rw[yq]at h;exact fun s hs=>w6 (h s hs)
theorem YI(a b:List UInt8):Sp.first [Au a,Au b]=Fx a b:=by
 rw[Mh,Rq]
end Go.Pe
namespace Go.Sp
theorem Nu.D0{i j:Nat}{a b:List UInt8}{p q:Rat}(ha:Nu i a p)(hb:Nu j b q):Nu (i+j+1) (Sp.D0 a b) (p+q):=⟨by unfold Sp.D0;rw[ha.rat,hb.rat],ha.z.add hb.z⟩
theorem Nu.HT{i j:Nat}{a b:List UInt8}{p q:Rat}(ha:Nu i a p)(hb:Nu j b q):Nu (i+j+1) (Sp.HT a b) (p-q):=⟨by unfold Sp.HT;rw[ha.rat,hb.rat],ha.z.sub hb.z⟩
theorem Nu.Gz{i j:Nat}{a b:List UInt8}{p q:Rat}(ha:Nu i a p)(hb:Nu j b q):Nu (i+j) (Sp.Gz a b) (p*q):=⟨by unfold Sp.Gz;rw[ha.rat,hb.rat],ha.z.mul hb.z⟩
theorem Nu.GK{i j:Nat}{a b:List UInt8}{p q:Rat}(ha:Nu i a p)(hb:Nu j b q)(h0:q≠0):Nu (i+j) (Sp.GK a b) (p/q):=⟨by unfold Sp.GK;rw[ha.rat,hb.rat],ha.z.div hb.z h0⟩
theorem Pc{q:Rat}{k:Nat}(h:E1 k q):E1 k (q.floor:Rat):=by
 obtain⟨h1,h2⟩:=h;have h3:=q.den_pos;unfold E1;rw[qc,Rat.den_intCast,yx];refine⟨yj (yw _ _) h1,by omega⟩
end Go.Sp
namespace Go.Pe
open Sp
open Go.Det
theorem Tt:Dz (MV ((1,Cv 1),(1,Cv 1)) ((2,Cv 2),(1,Cv 1))) (1/2):=by
 have z1:=vL 1 (by decide);have z2:=vL 2 (by decide);have h0:((2:Int):Rat)≠0:=by decide+kernel
 exact Dz.div (pY 1 rfl) (pY 2 rfl) (Cs z1 (by decide)) (Cs z2 (by decide)) (Cs (z2.inv h0) (by decide)) h0
theorem VH{n:Int}:PX n<=0↔n<=0:=by
 unfold PX;split
 ·omega
 ·split<;>omega
theorem Y8{f:Az}{q:Rat}(h:Dz f q){k:Nat}(z:E1 k q)(hk:k<=4000):A6 (F6 f.1 f.2)=true/\Sp.vI (F6 f.1 f.2)=q.floor:=by
 have s:=Cs z hk;have hd:=h.den_pos;have hJ:=W1 h.n (by rw[h.vn];exact ya s.1 (AH (by decide) (by decide)));have hv:Sp.vI (F6 f.1 f.2)=q.floor:=by rw[jE hd,h.vn,h.vd,yx]
 refine⟨W1 (Yc hJ hd) ?_,hv⟩;have e:=(Pc z).1;rw[qc]at e;rw[hv];exact ya (Q5 e) (AH (by decide) (by omega))
theorem V4(n:Int):zz n 1=(n:Rat):=by
 have:=Rat.num_divInt_den (n:Rat);rw[qc,Rat.den_intCast]at this;exact this
namespace T40
theorem AQ(a u:List UInt8)(p:uC a u)(n:AS)(j1:A6 n=true)(j2:Sp.vI n=(An a/An u+1/2).floor)(zf:E1 1300 (((An a/An u+1/2).floor:Int):Rat))(e:FY a u=0):Ends Wq (L2 n.1 n.2 (Er u) (Ez u) (D6 u) (Eb u)) (Ad Kg (a,u)):=by
 obtain⟨o1,o2⟩:=RG (n:=1) rfl;have rm:=La j1 o1 (by rw[o2];decide);rw[j2,o2,V4]at rm;have sf:=Cs zf (by decide);have rr:=Dz.mul rm p.rb sf p.sb;have sr:=Cs (zf.mul p.zb) (by decide);have hn:(n.1,n.2)=n:=rfl;have hg:∀ob,Ad Kg (a,u) (.tup [.dat .str (Jr (P5 (Ux n (1,Cv 1)) (MS u))),.dat i64 (Ju (P5 (Ux n (1,Cv 1)) (MS u)))]) ob:=fun ob=>zw rfl rfl (gO rr e)
 refine zk (AZ ..) ?_;conv=>zeta
 have fe:∀s:List UInt8,((Er s,Ez s),(D6 s,Eb s))=MS s:=fun _=>rfl
 simp only[hn,fe];exact zc rfl (zc (Aa (Aa j1 o1) (by rw[o2];rfl)) (zc (Aa (rm.CF sf) (p.rb.CF p.sb)) (zc (rr.Dm sr) (ze (hg _)))))
theorem Aj(a u:List UInt8)(p:uC a u)(he:Fx a u=0):Ends Wq (L1 a u (Er u) (Ez u) (D6 u) (Eb u)) (Ad Kg (a,u)):=by
 have hs:eQ (MS u)=PX (An u).num:=by
  show PX (Sp.vI (MS u).1)=_;rw[p.rb.vn]
 obtain⟨k1,k2⟩:=Sp.neg_num (An u);refine zk (Ar ..) (zc p.rb.n ?_);have fe:∀s:List UInt8,((Er s,Ez s),(D6 s,Eb s))=MS s:=fun _=>rfl
 simp only[fe];by_cases h0:An u<=0
 ·have hn:(An u).num<=0:=by
   rcases Int.lt_or_le 0 (An u).num with x|x
   ·exact wh (k2.1 x) (Rat.not_lt.2 h0)
   ·exact x
  have e:FY a u=3:=by unfold FY;rw[he,wc (by decide),wd h0]
  refine zc (w4 (show eQ (MS u)<=0 by rw[hs];exact VH.2 hn)) (ze (zw rfl rfl ?_));show(([]:List UInt8),(3:Int))=(Vx (FY a u) _,Wm (FY a u) _);rw[e];exact Vf (by decide) _
 ·have hp:0<An u:=Rat.not_le.1 h0;have hn:0<(An u).num:=k2.2 hp;have e:FY a u=0:=by unfold FY;rw[he,wc (by decide),wc h0]
  have hz:=Rat.ne_of_gt hp;have zi:=p.zb.inv hz;have zd:=p.za.div p.zb hz;have za:=zd.add Nj.z;have rd:=Dz.div p.ra p.rb p.sa p.sb (Cs zi (by decide)) hz;have sd:=Cs zd (by decide);have sh:=Cs Nj.z (by decide);have ra:=Dz.add rd Tt sd sh;have sa:=Cs za (by decide);obtain⟨j1,j2⟩:=Y8 ra za (by decide);have l2:=AQ a u p _ j1 j2 ((Pc za).mono (by decide)) e;refine ye (w8 (show ¬eQ (MS u)<=0 by rw[hs,VH];omega)) (zc p.ta (zc (Aa (Aa (p.ra.CF p.sa) (p.rb.CF p.sb)) (p.rb.Hw.trans (w4 hz))) (zc rfl (zc rfl (zc rfl (zc (Aa (rd.CF sd) (Tt.CF sh)) (zc (ra.CF sa) ?_)))))));generalize Li (MV (MS a) (MS u)) (MV ((1,Cv 1),(1,Cv 1)) ((2,Cv 2),(1,Cv 1)))=X at*;exact l2
theorem ok:Ag Bg 40 Kg:=by
 refine B1 eS (fun(i:List UInt8×List UInt8) hi=>?_);obtain⟨a,u⟩:=i;refine zo (Am a u) (zc (nJ hi) (zh (fun c=>ze (zw rfl rfl ?_)) (fun c=>?_)))
 ·have c:CX [a,u]≠0:=by simpa using c
  have c:Fx a u≠0:=c;have e:FY a u=Fx a u:=by unfold FY;rw[wd c]
  show(([]:List UInt8),Fx a u)=(Vx (FY a u) _,Wm (FY a u) _);rw[e];exact Vf c _
 ·have c:CX [a,u]=0:=by simpa using c
  have p:=pF c;exact zc p.tb (Aj a u p c)
end T40
theorem oX:DM XY2:=Ab T26.ok (Ab T27.ok (Ab T113.ok (Ab T29.ok AP)))
theorem T42.ok:Ag Bg 42 XI:=by
 refine B1 oX (fun(i:List UInt8×List UInt8) hi=>?_);obtain⟨a,u⟩:=i;have hi:(Bh a&&ZZ u&&Bh (GK a u)&&Bh (D0 (GK a u) [49,47,50])&&Bh (FT (D0 (GK a u) [49,47,50])))=true:=hi;rw[zg,zg,zg,zg]at hi;obtain⟨⟨⟨⟨h1,h2⟩,h3⟩,h4⟩,h5⟩:=hi;exact zo (T42.Am a u) (zc (Aa h1 h2) (zc (Aa h3 (Nj.num (by decide))) (zc h4 (zc (Aa h5 (Hu (U2 h2).1).1) (ze (zw rfl rfl rfl))))))
abbrev UW:Ap:=U8
theorem kL:DM XW6:=Ab T16.ok (Ab TO (Ab T40.ok (Ab T23.ok (Ab T24.ok (Ab T25.ok (Ab T41.ok (Ab T42.ok AP)))))))
theorem mO{a u:List UInt8}(na:Sp.Nu 600 a (An a))(nu:Sp.Nu 600 u (An u))(h0:An u≠0):nO a u=true/\(kW a u).length<=1000000:=by
 have dv:=na.GK nu h0;have ad:=dv.D0 Nj;have fl:Sp.Nu (600+600+1+1) (FT (D0 (GK a u) [49,47,50])) ((An a/An u+1/2).floor:Rat):=by
  refine⟨?_,Pc ad.z⟩;unfold FT;rw[ad.rat,QH]
 have mu:=fl.Gz nu;refine⟨?_,mu.len (by decide)⟩;unfold nO;rw[na.num (by decide),dv.num (by decide),ad.num (by decide),fl.num (by decide),uS (nu.FI (by decide)) (fun e=>h0 ((nu.KI (by decide)).1 e))];rfl
theorem oU{u:List UInt8}(n:Bh u=true):FA u<=0↔An u<=0:=by
 have t:=(Ff n).1;have h:=Lu (An u);rw[t]at h;rw[h,VH];have k:=(Sp.neg_num (An u)).2;constructor
 ·intro h;exact Rat.not_lt.1 (fun x=>by have:=k.2 x;omega)
 ·intro h;rcases Int.lt_or_le 0 (An u).num with x|x
  ·exact wh (k.1 x) (Rat.not_lt.2 h)
  ·exact x
set_option maxRecDepth 10000 in
theorem T6.ok:Ag Bg 6 U8:=by
 refine B1 kL (fun(i:List UInt8×List UInt8) _=>?_);obtain⟨a,u⟩:=i;have hq:∀ob,Ad U8 (a,u) (.dat .bool true) ob:=fun ob=>zw rfl rfl rfl
 refine zo (T6.Am a u) ?_;conv=>zeta
 rw[YI];refine zc rfl (zh (fun _=>zc rfl (ze (hq _))) (fun c=>?_));have hb:=gK c;have la:a.length<=1300:=hb a (by simp);have lu:u.length<=1300:=hb u (by simp);have ok:wZ a u=true:=Aa (w4 (by omega)) (w4 (by omega));refine zc ok (zc (w4 (by omega)) (zc (w4 (by omega)) (zc rfl (zh (fun e=>?_) (fun e=>?_)))))
 ·have e:Fx a u=0:=by simpa using e
  obtain⟨ca,cu⟩:=Fo e;have na:=Kl ca;have nu:=Kl cu;have sl:=oU (nu.num (by decide));refine zc (w4 (by omega)) (zh (fun s=>?_) (fun s=>?_))
  ·have s:=sl.1 (w6 s);have ee:FY a u=3:=by unfold FY;rw[e,wc (by decide),wd s]
   have t:=TA (e:=FY a u) (by rw[ee];decide) (Y7 a u) [48];have t:Gs (Qa a u) (Q2 a u) [48] 3=true:=by rw[<-ee];exact t
   exact zc rfl (zc rfl (zc t (zc rfl (ze (hq _)))))
  ·have s:¬An u<=0:=fun h=>wh (sl.2 h) (w7 s)
   have ee:FY a u=0:=by unfold FY;rw[e,wc (by decide),wc s]
   obtain⟨p1,p2⟩:=mO na nu (Rat.ne_of_gt (Rat.not_le.1 s));exact ye (by rw[e];rfl) (zc p1 (zc (w4 p2) (zc (bP ee) (zc rfl (ze (hq _))))))
 ·have e:Fx a u≠0:=by simpa using e
  have ee:FY a u=Fx a u:=by unfold FY;rw[wd e]
  have t:=TA (e:=FY a u) (by rw[ee];exact e) (Y7 a u) [48];have t:Gs (Qa a u) (Q2 a u) [48] (Fx a u)=true:=by rw[<-ee];exact t
  exact zc (by simpa using e) (zc rfl (zc t (zc rfl (ze (hq _)))))
end Go.Pe
namespace Go.Det
open Go.ChangeShapes Go.WideShapes Go.RowKit
theorem B0{α β:Type}{f g:α->Option β}:∀ {l:List α} {ys:List β},l.mapM f=some ys->(∀a∈l,∀y∈ys,f a=some y->g a=some y)->l.mapM g=some ys
 |[],ys,h,_=>by simpa using h
 |a::l,ys,h,hg=>by
  rw[List.mapM_cons]at h ⊢;cases hf:f a with
  |none=>rw[hf]at h;cases h
  |some y=>
   rw[hf]at h;cases hl:l.mapM f with
   |none=>rw[hl]at h;cases h
   |some zs=>
    rw[hl]at h;cases h;rw[hg a (by simp) y (by simp) hf,B0 hl (fun b hb z hz hfz=>hg b (by simp[hb]) z (by simp[hz]) hfz)];rfl
def bM(P:Program)(L:List TypeId)(t:TypeId):Bool:=match P.underlying t with
 |some (.pointer e)|some (.array _ e)|some (.map _ e)=>L.contains e
 |some (.slice e)=>L.contains e&&Nat.ble 1 (P.cellsOf e)
 |some (.struct fs)=>fs.toList.all fun f=>L.contains f.type
 |_=>true
def J9(P:Program)(L:List TypeId):Bool:=L.all (bM P L)
section
variable {H:Type}{enc:TypeId×Value->H}{P:Program}{W W':World}
theorem lC{L:List TypeId}(h:J9 P L=true){t:TypeId}(ht:t∈L):bM P L t=true:=yq.1 h t ht
theorem V1(hb:Below W.heap.size W W'){a:Addr}{v:Value}(h:W.cell? a=some v):W'.cell? a=some v:=by
 have hl:a.block<W.heap.size:=by
  unfold qg at h;by_cases hh:a.block<W.heap.size
  ·exact hh
  ·rw[yb (by omega)]at h;cases h
 unfold qg at h ⊢;rw[hb.block _ hl];exact h
theorem T3(hb:Below W.heap.size W W'){a:Addr}{n:Nat}{cs:List Value}(h:W.cells? 0 a n=some cs):W'.cells? 0 a n=some cs:=by
 unfold World.cells? at h ⊢;rw[wd (qf _)]at h ⊢;exact B0 h fun i _ v _ hv=>V1 hb hv
theorem G1(hb:Below W.heap.size W W'){β:Type}{a:Addr}{n:Nat}{f g:List Value->Option β}{y:β}(h:(W.cells? 0 a n).bind f=some y)(hfg:∀cs,f cs=some y->g cs=some y):(W'.cells? 0 a n).bind g=some y:=by
 cases hc:W.cells? 0 a n with
 |none=>rw[hc]at h;cases h
 |some cs=>
  rw[hc]at h;rw[T3 hb hc];exact hfg cs h
theorem NL(hb:Below W.heap.size W W'){L:List TypeId}(hz:J9 P L=true){sp:Nat->Bool}:∀(fuel:Nat) (t:TypeId) (cs:List Value) (x:DataW H×List MemPlace),t∈L->
  zn enc P W 0 (fun _=>true) true fuel t cs=some x->(∀p∈x.2,sp p.block=true)->zn enc P W' 0 sp true fuel t cs=some x
 |0,_,_,_,_,h,_=>by cases h
 |fuel+1,t,cs,x,ht,h,hs=>by
  have ih:=NL hb hz (sp:=sp) fuel;have hk:=lC hz ht;unfold bM at hk;unfold zn at h ⊢;split at h<;>try simp only[reduceCtorEq]at h
  all_goals try exact h
  case h_6 e a hu=>
   have hke:e∈L:=by rw[hu]at hk;simpa using hk
   cases hm:(W.cells? 0 a (P.cellsOf e)).bind (zn enc P W 0 (fun _=>true) true fuel e)with
   |none=>rw[hm]at h;cases h
   |some y=>
    rw[hm]at h;cases h;rw[G1 hb hm (g:=zn enc P W' 0 sp true fuel e) (fun cs hc=>ih e cs y hke hc (fun p hp=>hs p (by simp[hp])))];rfl
  case h_8 e a len cap hu=>
   have hke:e∈L/\P.cellsOf e≠0:=by
    rw[hu]at hk;simp only[zg,List.contains_iff_mem]at hk;have:=Nat.le_of_ble_eq_true hk.2;exact⟨hk.1,by omega⟩
   by_cases hc:0<=a.block/\len<=cap/\cap<=maxLen
   ·rw[wd hc]at h ⊢;have step:∀(i:Nat) (y:DataW H×List MemPlace),(W.cells? 0 (a.add (i*P.cellsOf e)) (P.cellsOf e)).bind (zn enc P W 0 (fun _=>true) true fuel e)=some y->(∀p∈y.2,sp p.block=true)->
      (W'.cells? 0 (a.add (i*P.cellsOf e)) (P.cellsOf e)).bind (zn enc P W' 0 sp true fuel e)=some y:=fun i y hy hp=>G1 hb hy fun cs hc=>ih e cs y hke.1 hc hp
    cases h1:(qk len).mapM (fun i=>(W.cells? 0 (a.add (i*P.cellsOf e)) (P.cellsOf e)).bind (zn enc P W 0 (fun _=>true) true fuel e))with
    |none=>rw[h1]at h;cases h
    |some ys=>
     rw[h1]at h;simp only[wk,z7]at h;cases h2:(qk (cap-len)).mapM (fun j=>(W.cells? 0 (a.add ((len+j)*P.cellsOf e)) (P.cellsOf e)).bind (zn enc P W 0 (fun _=>true) true fuel e))with
     |none=>rw[h2]at h;cases h
     |some zs=>
      rw[h2]at h;cases h;rw[B0 h1 fun i _ y hy hi=>step i y hi fun p hp=>hs p (yp _ (yh.2 ⟨y,List.mem_append_left _ hy,hp⟩))];have h2':=B0 h2 fun j _ y hy hj=>step (len+j) y hj fun p hp=>hs p (yp _ (yh.2 ⟨y,yp _ hy,hp⟩))
      by_cases hsp:sp a.block=true
      ·simp only[hsp,wk,z7];rw[h2'];rfl
      ·have e0:(ys.length+zs.length)*P.cellsOf e=0:=by
        rcases Nat.eq_zero_or_pos ((ys.length+zs.length)*P.cellsOf e)with h0|h0
        ·exact h0
        ·refine wh (hs (.cell a.block (a.off+0)) (List.mem_append_left _ ?_)) hsp;simp only[MemPlace.row,List.mem_map,List.mem_range];exact⟨0,h0,rfl⟩
       have e1:zs=[]:=by
        rcases Nat.mul_eq_zero.1 e0 with h0|h0
        ·exact zx.1 (by omega)
        ·exact wh h0 hke.2
       subst e1;simp only[hsp,z7];rfl
   ·rw[wc hc]at h;cases h
  case h_9 cs _ _ fs hu=>
   have hke:∀f∈fs.toList,f.type∈L:=by
    rw[hu]at hk;intro f hf;have:=yq.1 hk f hf;simpa using this
   by_cases hc:cs.length=P.cellsOf t
   ·rw[wd hc]at h ⊢;cases h1:fs.toList.mapM (fun f=>zn enc P W 0 (fun _=>true) true fuel f.type ((cs.drop f.offset).take (P.cellsOf f.type)))with
    |none=>rw[h1]at h;cases h
    |some ys=>
     rw[h1]at h;cases h;rw[B0 h1 fun f hfm y hy hf=>ih _ _ y (hke f hfm) hf fun p hp=>hs p (yh.2 ⟨y,hy,hp⟩)];rfl
   ·rw[wc hc]at h;cases h
  case h_10 cs _ _ n e hu=>
   have hke:e∈L:=by rw[hu]at hk;simpa using hk
   by_cases hc:cs.length=P.cellsOf t
   ·rw[wd hc]at h ⊢;cases h1:(qk n).mapM (fun i=>zn enc P W 0 (fun _=>true) true fuel e ((cs.drop (i*P.cellsOf e)).take (P.cellsOf e)))with
    |none=>rw[h1]at h;cases h
    |some ys=>
     rw[h1]at h;cases h;rw[B0 h1 fun f _ y hy hf=>ih _ _ y hke hf fun p hp=>hs p (yh.2 ⟨y,hy,hp⟩)];rfl
   ·rw[wc hc]at h;cases h
  case h_14 k e b hu=>
   have hke:e∈L:=by rw[hu]at hk;simpa using hk
   have hl:b<W.heap.size:=by
    by_cases hh:b<W.heap.size
    ·exact hh
    ·rw[yb (by omega)]at h;cases h
   rw[hb.block _ hl];split at h
   case h_2=>cases h
   rename_i es clock hes;simp only;split at h
   case isFalse=>cases h
   rename_i hcond;rw[wd hcond];cases h1:(es.toList.mapM fun x=>(keyOf P k x.key).bind fun key=>if x.val.formed P e then(zn enc P W 0 (fun _=>true) true fuel e x.val.cells.toList).map fun y=>((key,y.1),y.2)else none)with
   |none=>rw[h1]at h;cases h
   |some ys=>
    rw[h1]at h;simp only[z7]at h;split at h
    case isFalse=>cases h
    rename_i hri;cases h;rw[B0 h1 fun en _ y hy hf=>?_]
    ·simp only[z7];rw[wd hri]
    ·cases hk:keyOf P k en.key with
     |none=>rw[hk]at hf;cases hf
     |some key=>
      rw[hk]at hf;simp only[z7]at hf ⊢;split at hf
      case isFalse=>cases hf
      rename_i hfo;rw[wd hfo];cases htt:zn enc P W 0 (fun _=>true) true fuel e en.val.cells.toList with
      |none=>rw[htt]at hf;cases hf
      |some u=>
       rw[htt]at hf;cases hf;rw[ih _ _ u hke htt fun p hp=>hs p (by simp only[yy,yh];exact .inr ⟨_,hy,hp⟩)];rfl
theorem Vb(hb:Below W.heap.size W W'){L:List TypeId}(hz:J9 P L=true){sp:Nat->Bool}{t:TypeId}{v:Value}{d:DataW H}{p:List MemPlace}
  (ht:t∈L) (h:ql enc P W 0 (fun _=>true) true t v d p) (hs:∀q∈p,sp q.block=true):ql enc P W' 0 sp true t v d p:=by
 obtain⟨fuel,hf⟩:=h;exact⟨fuel,NL hb hz fuel t _ _ ht hf hs⟩
theorem Gw(hb:Below W.heap.size W W'){L:List TypeId}(hz:J9 P L=true){sp:Nat->Bool}:∀ {ts:List TypeId} {vs:List Value} {ds:List (DataW H)} {p:List MemPlace},(∀t∈ts,t∈L)->
  yt enc P W 0 (fun _=>true) true ts vs ds p->(∀q∈p,sp q.block=true)->yt enc P W' 0 sp true ts vs ds p
 |[],vs,ds,p,_,h,_=>by
  obtain⟨rfl,rfl,rfl⟩:=trodAll_nil h;rfl
 |t::ts,vs,ds,p,hl,h,hs=>by
  obtain⟨v,vs1,d,ds1,a,b,rfl,rfl,rfl,h1,h2⟩:=trodAll_cons h;exact⟨a,b,Vb hb hz (hl t (by simp)) h1 (fun q hq=>hs q (by simp[hq])),Gw hb hz (fun u hu=>hl u (by simp[hu])) h2 (fun q hq=>hs q (by simp[hq])),rfl⟩
theorem QC{f:Func}{s:ChangeSpec}{apart fresh handsOn again:Bool}{args:Array Value}{ds gs:List (DataW H)}{before:List MemPlace}{tb:TypeId}
  (hW:DataW.Whole enc P f.params.toList s.vars apart W args.toList ds gs before) (hv:s.vars=[]) (hr:f.resultTypes= #[tb]) (ht:P.underlying tb=some .bool)
  (hfn:s.fn H ds={ results:=[.lit (.bool true)],args:=ds }) (hb:Below W.heap.size W W') {L:List TypeId} (hz:J9 P L=true) (hl:f.params.toList.all L.contains=true):
  s.post enc P f apart fresh handsOn again W args (.bool true) W':=by
 have hlt:=hW.lt;have hl:∀t∈f.params.toList,t∈L:=fun t ht=>by have:=yq.1 hl t ht;simpa using this
 obtain⟨p,q,hA,hV,rfl,hfz,hnd⟩:=hW;have hV':=hV;rw[hv]at hV';obtain⟨rfl,rfl⟩:=trodVars_none hV';simp only[List.append_nil]at hlt hfz hnd ⊢;have hold:∀x∈p,(fun b=>decide (b<W.heap.size)) x.block=true:=fun x hx=>by simpa using hlt x hx
 have hW0:DataW.Whole enc P f.params.toList s.vars apart W args.toList ds [] p:=⟨p,[],hA,hV,by simp,hfz,hnd⟩;have hres:∀(b:Nat) (sp:Nat->Bool) (hd:Bool),yt enc P W' b sp hd f.resultTypes.toList ((Value.bool true).resultList f.resultTypes.size) [.lit (.bool true)] []:=by
  intro b sp hd;rw[hr];exact⟨[],[],shut_bool ht true,rfl,rfl⟩
 have hok:∀(j:Nat) (t:TypeId) (r:Value),f.resultTypes[j]?=some t->((Value.bool true).resultList f.resultTypes.size)[j]?=some r->yn P W' .any 0 t r:=by
  exact ok_one hr rfl (okWide_bool_mk ht true)
 have hvars:∀sp:Nat->Bool,DataW.TrodVars enc P W' sp s.vars [] []:=fun sp=>by rw[hv];rfl
 have hfn:s.fn H (ds++[])={ results:=[.lit (.bool true)],args:=ds }:=by rw[List.append_nil];exact hfn
 refine⟨ds,[],p,[],p,[],hW0,?_,?_,?_,World.keptBut_mono (fun x hx=>⟨hx,.inr (.inl hx)⟩) (hb.frame (· ∈p)),fun _=>?_⟩
 ·rw[hfn];exact hres _ _ _
 ·rw[hfn];exact Gw hb hz hl hA hold
 ·rw[hfn];exact hvars _
 ·refine⟨hok,_,_,([]++p)++[],⟨[]++p,[],trodAll_append (Gw hb hz hl hA (fun _ _=>rfl)) (hres _ _ _),hvars _,rfl,?_,?_⟩,?_⟩
  ·intro b off hp;have hp:MemPlace.cell b off∈p:=by simpa using hp
   rw[hb.frozen (show b<W.heap.size from hlt _ hp)];exact hfz b off hp
  ·intro ha;simpa using hnd ha
  ·intro x hx _;simpa using hx
end
end Go.Det
namespace Go.Det
def Nl(k:Nat):Value->V
 | .bool b=>.bool b
 | .int q n=>.int q n
 | .string s=>.str s.data.toList
 | .pointer none=>.nilp
 | .slice none 0 0=>.nils
 | .slice (some _) 0 0=>.es0
 | .slice (some ⟨r,off,none⟩) len cap=>if r<k/\len<=cap then .sl r off len cap 0 else .junk
 | .map none=>.nilm
 | .nilFunc=>.nilf
 | .nilIface=>.nili
 |_=>.junk
def pL(W:World)(r:Nat):Nat:=match W.heap[r]? with
 |some (.cells c _ _)=>c.size
 |_=>0
def pW(W:World):Pl:=(qk W.heap.size).map fun r=>(r,pL W r)
theorem LB{W:World}{r:Nat}(h:r<W.heap.size):(pW W)[r]?=some (r,pL W r):=by
 simp[pW,h]
def N1(W:World)(r:Nat):Option O:=match W.heap[r]? with
 |some (.cells c t _)=>if c.size=0 then none else some (.cells (c.toList.map (Nl W.heap.size)) t (0,c.size))
 |_=>none
def ZV(W:World):Nat->H
 |0=>⟨.leaf,0⟩
 |n+1=>⟨(ZV W n).m.set n (N1 W n),n+1⟩
theorem mS(W:World):∀n,(ZV W n).nx=n
 |0=>rfl
 |_+1=>rfl
theorem Tc(W:World):∀(n b:Nat),(ZV W n).get b=if b<n then N1 W b else none
 |0,b=>by simp[ZV,H.get]
 |n+1,b=>by
  have ih:=Tc W n b;unfold H.get at ih ⊢;simp only[ZV,PM.C0];by_cases e:b=n
  ·subst e;simp
  ·rw[wc e,ih];by_cases h:b<n
   ·rw[wd h,wd (by omega)]
   ·rw[wc h,wc (by omega)]
def hW(W:World):H:=ZV W W.heap.size
theorem OE(W:World)(b:Nat):(hW W).get b=N1 W b:=by
 unfold hW;rw[Tc];by_cases h:b<W.heap.size
 ·rw[wd h]
 ·rw[wc h];unfold N1;rw[yb (by omega)]
theorem Sv{W:World}{v:Value}(h:(Nl W.heap.size v).ok=true):Ac (pW W) (Nl W.heap.size v) v:=by
 revert h;unfold Nl;split<;>intro h
 case h_6=>simp only[Ac];exact⟨_,rfl⟩
 case h_7 r off len cap _=>
  split
  ·rename_i hc;simp only[Ac];exact⟨r,_,cap,LB hc.1,rfl,hc.2,zu _,fun _=>rfl,fun e=>wh rfl e⟩
  ·rename_i hc;rw[wc hc]at h;cases h
 case h_11=>cases h
 all_goals simp only[Ac]
 all_goals rfl
theorem R_W(W:World):R (pW W) (hW W) W:=by
 refine⟨by simp[pW,hW,mS],fun b o hb=>?_,fun b b' o o' r n n' hb hb' h1 h2=>?_⟩
 ·rw[OE]at hb;unfold N1 at hb;split at hb
  case h_2=>cases hb
  rename_i c t fz hc;split at hb
  case isTrue=>cases hb
  cases hb;have hlt:b<W.heap.size:=(zl.1 hc).1;have hs:pL W b=c.size:=by unfold pL;rw[hc]
  refine⟨b,c.size,_,by rw[LB hlt,hs],hc,c,fz,rfl,rfl,by simp,⟨by simp,fun i d v hd hv hok=>?_⟩,fun i hi h1 h2=>⟨qf _,hi⟩⟩;rw[List.getElem?_map]at hd;rw[List.length_map,yz (by have:=(List.getElem?_eq_some_iff.1 hv).1;simp at this;simpa using this)]at hv;rw[hv]at hd;cases hd;exact Sv hok
 ·have key:∀b o r n,(hW W).get b=some o->(pW W)[b]?=some (r,n)->r=b:=by
   intro b o r n hb h1;rw[OE]at hb;have hlt:b<W.heap.size:=by
    unfold N1 at hb;by_cases h:b<W.heap.size
    ·exact h
    ·rw[yb (by omega)]at hb;cases hb
   rw[LB hlt]at h1;cases h1;rfl
  rw[<-key b o r n hb h1, <-key b' o' r n' hb' h2]
theorem kV{W W':World}{p':Pl}{h':H}(he:Ext (pW W) (hW W) W p' h' W'):RowKit.Below W.heap.size W W':=by
 refine⟨he.os,he.tape,he.out,he.size,fun k hk=>?_⟩;by_cases hi:Im (pW W) (hW W) k
 ·obtain⟨b,o,n,h1,h2⟩:=hi;have h1':=h1;rw[OE]at h1';unfold N1 at h1';split at h1'
  case h_2=>cases h1'
  rename_i c t fz hc;split at h1'
  case isTrue=>cases h1'
  rename_i h0;cases h1';have hlt:b<W.heap.size:=(zl.1 hc).1;have hs:pL W b=c.size:=by unfold pL;rw[hc]
  rw[LB hlt,hs]at h2;cases h2;exact(he.lock _ hk ⟨_,_,_,_,_,h1,by rw[LB hlt,hs],rfl,zu _,Nat.pos_of_ne_zero h0⟩).1
 ·exact he.same k hk hi
end Go.Det
namespace Go.Pe
open Go.Det
def FW(W:World):Fz:=fun b=>match (hW W).get b with
 |some (.cells cs _ _)=>some cs
 |_=>none
def UP:(s:Sh)->s.T->Prop
 | .int k,x=>k.min<=(x:Int)/\(x:Int)<=k.max
 | .bool,_=>True
 | .str,x=>(x:List UInt8).length<=maxLen
 | .list s,l=>(l:List s.T).length<=maxLen/\∀x∈(l:List s.T),UP s x
 | .pair a b,x=>UP a x.1/\UP b x.2
 | .unit,_=>True
 | .nlist _,_=>True
 | .fnv,_=>True
def iD(P:Program)(f:TypeId->Option Sh):Nat->List Field->Option Sh
 |_,[]=>some .unit
 |o,[x]=>match f x.type with
  |some s=>bif yo x.offset o&&yo (P.cellsOf x.type) s.sz then some s else none
  |none=>none
 |o,x::y::l=>match f x.type with
  |some s=>bif yo x.offset o&&yo (P.cellsOf x.type) s.sz then(iD P f (o+s.sz) (y::l)).map (.pair s)else none
  |none=>none
def uZ(P:Program):Nat->TypeId->Option Sh
 |0,_=>none
 |f+1,t=>match P.underlying t with
  |some (.int k)=>some (.int k)
  |some .bool=>some .bool
  |some .string=>some .str
  |some (.slice e)=>match uZ P f e with
   |some s=>bif yo (P.cellsOf e) s.sz&&Nat.blt 0 s.sz then some (.list s)else none
   |none=>none
  |some (.struct fs)=>match iD P (uZ P f) 0 fs.toList with
   |some s=>bif yo (P.cellsOf t) s.sz then some s else none
   |none=>none
  |_=>none
section
variable {H:Type}{enc:TypeId×Value->H}{P:Program}{W:World}
theorem dH{r:Nat}{c:Array Value}{t:TypeId}{fz:Nat×Nat}(h:W.heap[r]?=some (.cells c t fz))(h0:c.size≠0):FW W r=some (c.toList.map (Nl W.heap.size)):=by
 unfold FW;rw[OE];unfold N1;rw[h];simp only[wc h0]
theorem Q0{a:Addr}{n:Nat}{cs:List Value}(h:W.cells? 0 a n=some cs)(hn:0<n):
  ∃c t fz,W.heap[a.block]?=some (.cells c t fz)/\a.spot=none/\a.off+n<=c.size/\cs=(c.toList.drop a.off).take n:=by
 unfold World.cells? at h;rw[wd (qf _)]at h;have hl:=mapM_some_length h;have hg:=mapM_some_get h;simp only[List.length_range]at hl;have h0:=hg 0 0 (by simp[hn]);have ha0:a.add 0=a:=by simp[qn]
 rw[ha0]at h0;obtain⟨v0,hv0⟩:∃v,cs[0]?=some v:=⟨cs[0],zt (by omega)⟩;rw[hv0]at h0;unfold qg at h0;split at h0
 case h_2=>cases h0
 rename_i c t fz hb;split at h0
 case isTrue=>cases h0
 rename_i hs;have hs:a.spot=none:=by simpa using hs
 have hc:∀i,i<n->c[a.off+i]?=cs[i]?:=by
  intro i hi;have:=hg i i (by simp[hi]);unfold qg at this;have hb':(a.add i).block=a.block:=by unfold qn;split<;>rfl
  have hs':(a.add i).spot=none:=by unfold qn;split<;>simp[hs]
  have ho':(a.add i).off=a.off+i:=by unfold qn;split<;>simp_all
  rw[hb',hb]at this;simpa [hs',ho']using this
 refine⟨c,t,fz,hb,hs,?_,?_⟩
 ·have:=hc (n-1) (by omega);rw[zt (by omega)]at this;have:=(zl.1 this).1;omega
 ·apply List.ext_getElem?;intro i;by_cases hi:i<n
  ·rw[<-hc i hi,yz hi,List.getElem?_drop];simp
  ·rw[zy (by omega),zy (by simp;omega)]
theorem Yu{α:Type}{p:Nat->α->Prop}:∀n:Nat,(∀i,i<n->∃x,p i x)->∃l:List α,l.length=n/\∀i (h:i<l.length),p i l[i]
 |0,_=>⟨[],rfl,fun i h=>wh h (Nat.not_lt_zero _)⟩
 |n+1,h=>by
  obtain⟨l,h1,h2⟩:=Yu n fun i hi=>h i (by omega)
  obtain⟨x,hx⟩:=h n (by omega);refine⟨l++[x],by simp[h1],fun i hi=>?_⟩;by_cases e:i<l.length
  ·rw[List.getElem_append_left e];exact h2 i e
  ·have:i=n:=by simp at hi;omega
   subst this;rw[List.getElem_append_right (by omega)];simpa [h1]using hx
theorem Qk{f:TypeId->Option Sh}{n:Nat}{cs:List Value}
  (ih:∀(t:TypeId) (s:Sh) (cs:List Value) (y:DataW H×List MemPlace),f t=some s->zn enc P W 0 (fun _=>true) true n t cs=some y->∃x:s.T,DC (FW W) s x (cs.map (Nl W.heap.size))/\UP s x):
  ∀(fs:List Field) (o:Nat) (s:Sh),iD P f o fs=some s->(∀x∈fs,∃z,zn enc P W 0 (fun _=>true) true n x.type ((cs.drop x.offset).take (P.cellsOf x.type))=some z)->
   ∃x:s.T,DC (FW W) s x (((cs.map (Nl W.heap.size)).drop o).take s.sz)/\UP s x
 |[],o,s,hs,_=>by
  cases hs;exact⟨(),by simp[DC,Sh.sz],trivial⟩
 |[x],o,s,hs,hx=>by
  unfold iD at hs;split at hs
  case h_2=>cases hs
  rename_i s' hs';cases hc:(yo x.offset o&&yo (P.cellsOf x.type) s'.sz)with
  |false=>rw[hc]at hs;cases hs
  |true=>
  rw[hc]at hs;cases hs;simp only[zg]at hc;obtain⟨z,hz⟩:=hx x (by simp);rw[zr hc.1,zr hc.2]at hz;have:=ih _ _ _ _ hs' hz;simpa [qi,qj]using this
 |x::x'::l,o,s,hs,hx=>by
  unfold iD at hs;split at hs
  case h_2=>cases hs
  rename_i s' hs';cases hc:(yo x.offset o&&yo (P.cellsOf x.type) s'.sz)with
  |false=>rw[hc]at hs;cases hs
  |true=>
  rw[hc]at hs;simp only[we,Option.map_eq_some_iff]at hs;obtain⟨s2,h2,rfl⟩:=hs;simp only[zg]at hc;obtain⟨z,hz⟩:=hx x (by simp);rw[zr hc.1,zr hc.2]at hz;obtain⟨a,a1,a2⟩:=ih _ _ _ _ hs' hz;obtain⟨b,b1,b2⟩:=Qk ih (x'::l) (o+s'.sz) s2 h2 (fun u hu=>hx u (List.mem_cons_of_mem _ hu));refine⟨(a,b),?_,a2,b2⟩;simp only[DC];refine⟨_,_,?_,a1,b1⟩;rw[qi,qj, <-List.drop_drop];exact List.take_add
theorem Ry:∀(k fuel:Nat) (t:TypeId) (s:Sh) (cs:List Value) (y:DataW H×List MemPlace),uZ P k t=some s->zn enc P W 0 (fun _=>true) true fuel t cs=some y->
  ∃x:s.T,DC (FW W) s x (cs.map (Nl W.heap.size))/\UP s x
 |0,_,_,_,_,_,hs,_=>by cases hs
 |k+1,fuel,t,s,cs,y,hs,h=>by
  have ih:=Ry k;unfold uZ at hs;split at hs
  case h_1 q hu=>
   cases hs;obtain⟨n,rfl,_,hw⟩:=DataW.trod_int hu h;exact⟨(n:Int),by simp[DC,Nl],by simpa [UP,Lit.wf]using hw⟩
  case h_2 hu=>
   cases hs;obtain⟨b,rfl,_⟩:=DataW.trod_bool hu h;exact⟨b,by simp[DC,Nl],trivial⟩
  case h_3 hu=>
   cases hs;obtain⟨b,rfl,_,hw⟩:=DataW.trod_string hu h;exact⟨b.data.toList,by simp[DC,Nl],by show b.data.toList.length<=maxLen;rw[Array.length_toList];exact hw⟩
  case h_4 e hu=>
   split at hs
   case h_2=>cases hs
   rename_i s' hs';cases hc:(yo (P.cellsOf e) s'.sz&&Nat.blt 0 s'.sz)with
   |false=>rw[hc]at hs;cases hs
   |true=>
   rw[hc]at hs;cases hs;simp only[zg]at hc;have hsz:=zr hc.1;have hpos:=Nat.le_of_ble_eq_true hc.2;rcases DataW.trod_slice hu h with⟨rfl,_⟩|⟨a,len,cap,elems,rest,n,rfl,rfl,_,_,hlc,hcm,hel,he,hr,_⟩
   ·exact⟨[],by simp[DC,Nl],by simp[UP]⟩
   ·obtain⟨hrl,hr⟩:=hr rfl;rw[hsz]at he hr;by_cases h0:cap=0
    ·obtain rfl:len=0:=by omega
     subst h0;exact⟨[],by simp[DC,Nl],by simp[UP]⟩
    ·
     have all:∀i,i<cap->∃ci z,W.cells? 0 (a.add (i*s'.sz)) s'.sz=some ci/\zn enc P W 0 (fun _=>true) true n e ci=some z:=by
      intro i hi;by_cases hl:i<len
      ·have h1:=he i hl;rw[zt (by omega)]at h1;rw[y9]at h1;obtain⟨ci,h2,h3⟩:=h1;exact⟨ci,_,h2,h3⟩
      ·have h1:=hr (i-len) (by omega);rw[show len+(i-len)=i by omega,zt (by omega)]at h1;rw[y9]at h1;obtain⟨ci,h2,h3⟩:=h1;exact⟨ci,_,h2,h3⟩
     obtain⟨c0,z0,g0,_⟩:=all 0 (by omega);rw[Nat.zero_mul,show a.add 0=a from by simp[qn]]at g0;obtain⟨c,tc,fz,hb,hsp,hoff,_⟩:=Q0 g0 hpos;have hlt:a.block<W.heap.size:=(zl.1 hb).1;have hF:=dH hb (by omega);obtain⟨ab,ao,ax⟩:=a;simp only at hsp hb hoff hlt hF;subst hsp;have cell:∀i,i<cap->ao+i*s'.sz+s'.sz<=c.size/\∃x:s'.T,DC (FW W) s' x (((c.toList.map (Nl W.heap.size)).drop (ao+i*s'.sz)).take s'.sz)/\UP s' x:=by
      intro i hi;obtain⟨ci,z,h1,h2⟩:=all i hi;rw[Addr.Hi]at h1;obtain⟨c',tc',fz',hb',_,ho',rfl⟩:=Q0 h1 (by omega);simp only at hb' ho';rw[hb]at hb';cases hb';refine⟨ho',?_⟩;have:=ih _ _ _ _ _ hs' h2;simpa [qi,qj]using this
     obtain⟨l,hl1,hl2⟩:=Yu (p:=fun i (x:s'.T)=>DC (FW W) s' x (((c.toList.map (Nl W.heap.size)).drop (ao+i*s'.sz)).take s'.sz)/\UP s' x) len fun i hi=>(cell i (by omega)).2
     refine⟨l,?_,?_⟩
     ·simp only[DC];refine⟨.sl ab ao len cap 0,?_,.inr ⟨ab,ao,cap,0,_,by rw[hl1],by omega,hF,?_,.inl rfl,fun i hi=>(hl2 i hi).1⟩⟩
      ·have:(Value.slice (some ⟨ab,ao,none⟩) len cap)=.slice (some ⟨ab,ao,none⟩) len cap:=rfl;have hne:¬(len=0/\cap=0):=fun h=>h0 h.2
       cases cap with
       |zero=>exact wh rfl h0
       |succ cap=>simp[Nl,hlt,hlc]
      ·rw[hl1];have:=(cell (cap-1) (by omega)).1;have h2:len*s'.sz<=cap*s'.sz:=Nat.mul_le_mul_right _ hlc;have h3:cap*s'.sz=(cap-1)*s'.sz+s'.sz:=by rw[<-Nat.succ_mul];congr 1;omega
       simp;omega
     ·simp only[UP];refine⟨by omega,fun x hx=>?_⟩;obtain⟨i,hi,rfl⟩:=List.mem_iff_getElem.1 hx;exact(hl2 i hi).2
  case h_5 fs hu=>
   split at hs
   case h_2=>cases hs
   rename_i s' hs';cases hc:yo (P.cellsOf t) s'.sz with
   |false=>rw[hc]at hs;cases hs
   |true=>
   rw[hc]at hs;cases hs;have hsz:=zr hc;obtain⟨xs,n,rfl,_,hlen,hxl,hf⟩:=DataW.trod_struct hu h;obtain⟨x,h1,h2⟩:=Qk (cs:=cs) (fun t s cs y h1 h2=>ih n t s cs y h1 h2) fs.toList 0 _ hs' (fun f hfm=>by
    obtain⟨i,hi⟩:=List.mem_iff_getElem?.1 hfm;have hi':fs[i]?=some f:=by simpa using hi
    have:=hf i f hi';have hlt:=(zl.1 hi').1;rw[zt (by omega)]at this;exact⟨_,this⟩)
   refine⟨x,?_,h2⟩;rw[List.drop_zero,z8 (by simp;omega)]at h1;exact h1
  case h_6=>cases hs
theorem mX{k:Nat}{t:TypeId}{s:Sh}{v:Value}{d:DataW H}{p:List MemPlace}(hs:uZ P k t=some s)(hp:s.PW=false)(hc:v.cells.toList=[v])(h:ql enc P W 0 (fun _=>true) true t v d p):
  ∃x:s.T,PC (FW W) (Cb s x) (Nl W.heap.size v)/\UP s x/\Ac (pW W) (Nl W.heap.size v) v:=by
 obtain⟨fuel,hf⟩:=h;rw[hc]at hf;obtain⟨x,h1,h2⟩:=Ry k fuel t s [v] (d,p) hs hf;simp only[yi,List.map_nil]at h1;exact⟨x,(PC.Cb h1).2 hp _ rfl,h2,Sv (h1.ok _ (by simp))⟩
end
end Go.Pe
namespace Go.Pe
open Go.Det Go.RowKit
section
open Go.Proofs.Tryz (prog)
theorem TC{F':Fz}{v:V}(h:PC F' (.dat .bool true) v):v=.bool true:=by
 have:=h (fun _=>none) 0;simp only[PR,DC]at this;simpa using this
def GW(W:World):Prop:=∀x∈F4,N1 W x.1=some x.2
theorem GW.h{W:World}(h:GW W):Gh (hW W):=fun x hx=>by rw[OE];exact h x hx
theorem GW.p{W:World}(h:GW W):Gp (pW W):=fun x hx=>by
 have h1:=h x hx;unfold N1 at h1;split at h1
 case h_2=>cases h1
 rename_i c t fz hc;split at h1
 case isTrue=>cases h1
 have hlt:x.1<W.heap.size:=(zl.1 hc).1;have hs:pL W x.1=c.size:=by unfold pL;rw[hc]
 rw[LB hlt,hs];cases hx2:x.2 with
 |cells cs t' fz'=>rw[hx2]at h1;cases h1;simp[zV]
 |_=>rw[hx2]at h1;cases h1
theorem H9{f:FuncId}{sp:Ap}(ok:Ag Bg f sp)(i:(BC sp.ins).T)(hpre:sp.pre i=true){args:List V}{args':Array Value}{W:World}(hgw:GW W)(hP:LQ (FW W) (Af sp.ins i) args)
  (ha:As (pW W) args args'.toList) (hres:∀F' v,PC F' (one (Af sp.outs (sp.f i))) v->v=.bool true) (hp:Bg.prim f=none:=by kernel_rfl):
  Calls prog f args' W fun e W'=>e=.returned (.bool true)/\Below W.heap.size W W':=by
 obtain⟨l,M,h1,_,h2⟩:=(ok.zero hp).run (FW W) (hW W) args i (fun b cs h=>by
  unfold FW at h;split at h
  case h_2=>cases h
  rename_i cs' t fz hg;cases h;exact⟨t,fz,hg⟩) (fun b o h=>(R_W W).lt h) hgw.h hP hpre
 refine((Il rL Zl Sb M).fn f args (hW W) l (h1 M (zu _)) (pW W) W args' (R_W W) hgw.p ha).mono ?_;rintro e w' ⟨v,h',v',p',hm,rfl,hv,hx⟩;obtain⟨_,_,_,F',_,_,_,hr⟩:=h2 _ hm;obtain rfl:=hres F' v hr;refine⟨?_,kV hx⟩;simp only[Ac]at hv;rw[hv]
end
end Go.Pe
namespace Go.Pe
open Go.Det Go.RowKit Go.ChangeShapes
def PY(k:Nat):Value->V
 | .agg cs=>.agg (cs.toList.map (Nl k))
 |v=>Nl k v
def cH(P:Program)(k:Nat)(t:TypeId):Option Sh:=
 match uZ P k t with
 |some s=>match P.underlying t with
  |some (.struct _)=>bif s.PW then some s else none
  |some (.int _)|some .bool|some .string|some (.slice _)=>bif s.PW then none else some s
  |_=>none
 |none=>none
def N0(P:Program)(k:Nat):List TypeId->Option (List Sh)
 |[]=>some []
 |t::ts=>match cH P k t,N0 P k ts with
  |some s,some ss=>some (s::ss)
  |_,_=>none
def zA:(l:List Sh)->(BC l).T->Prop
 |[],_=>True
 |[a],x=>UP a x
 |a::b::l,x=>UP a x.1/\zA (b::l) x.2
section
variable {H:Type}{enc:TypeId×Value->H}{P:Program}{W:World}{base:Nat}
theorem one_cell{t:TypeId}{v:Value}(ht:(∃k,P.underlying t=some (.int k))\/P.underlying t=some .bool\/P.underlying t=some .string\/∃e,P.underlying t=some (.slice e))(h:yn P W .any base t v):v.cells.toList=[v]/\∀cs,v≠ .agg cs:=by
 rcases ht with⟨k,ht⟩|ht|ht|⟨e,ht⟩<;>
 (simp only[yn,ht]at h
  unfold Cell.okWide at h;simp only[ht]at h;unfold Cell.ok at h;simp only[ht]at h;cases v<;>first|(exact⟨rfl,fun _ e=>by cases e⟩)|(exfalso;exact h))
theorem kK{k:Nat}{t:TypeId}{s:Sh}{v:Value}{d:DataW H}{p:List MemPlace}(hs:cH P k t=some s)(ho:yn P W .any base t v)(h:ql enc P W 0 (fun _=>true) true t v d p):
  ∃x:s.T,PC (FW W) (Cb s x) (PY W.heap.size v)/\UP s x/\Ac (pW W) (PY W.heap.size v) v:=by
 unfold cH at hs;split at hs
 case h_2=>cases hs
 rename_i s' hs';have plain:((∃k,P.underlying t=some (.int k))\/P.underlying t=some .bool\/P.underlying t=some .string\/∃e,P.underlying t=some (.slice e))->(bif s'.PW then none else some s')=some s->∃x:s.T,PC (FW W) (Cb s x) (PY W.heap.size v)/\UP s x/\Ac (pW W) (PY W.heap.size v) v:=by
  intro ht hb;cases hp:s'.PW with
  |true=>rw[hp]at hb;cases hb
  |false=>
   rw[hp]at hb;cases hb;obtain⟨h1,h2⟩:=one_cell ht ho;have e:PY W.heap.size v=Nl W.heap.size v:=by
    unfold PY;split
    ·rename_i cs;exact wh rfl (h2 cs)
    ·rfl
   rw[e];exact mX hs' hp h1 h
 split at hs
 case h_1=>
  rename_i fs hu;cases hp:s'.PW with
  |false=>rw[hp]at hs;cases hs
  |true=>
   rw[hp]at hs;cases hs;simp only[yn,hu]at ho;obtain⟨cs,rfl,_,_⟩:=ho;obtain⟨fuel,hf⟩:=h;obtain⟨x,h1,h2⟩:=Ry k fuel t s _ (d,p) hs' hf;refine⟨x,(PC.Cb h1).1 hp,h2,?_⟩;simp only[PY,Ac];refine⟨cs,rfl,?_⟩;have hok:=h1.ok;have e:(Value.agg cs).cells.toList=cs.toList:=rfl;rw[e]at hok;generalize cs.toList=l at hok;induction l with
   |nil=>simp
   |cons a l ih=>
    simp only[yi,Bd];exact⟨Sv (hok _ (by simp)),ih fun v hv=>hok v (by simp only[yi,yy];exact .inr hv)⟩
 case h_2=>rename_i k hu;exact plain (.inl ⟨k,hu⟩) hs
 case h_3=>rename_i hu;exact plain (.inr (.inl hu)) hs
 case h_4=>rename_i hu;exact plain (.inr (.inr (.inl hu))) hs
 case h_5=>rename_i e hu;exact plain (.inr (.inr (.inr ⟨e,hu⟩))) hs
 case h_6=>cases hs
theorem Ik:∀ {ts:List TypeId} {args:List Value} {ds:List (DataW H)} {p:List MemPlace},yt enc P W 0 (fun _=>true) true ts args ds p->ds.length=ts.length
 |[],_,_,_,h=>by obtain⟨_,rfl,_⟩:=trodAll_nil h;rfl
 |t::ts,_,_,_,h=>by
  obtain⟨v0,vs0,d0,ds0,p0,q0,rfl,rfl,rfl,h0,r0⟩:=trodAll_cons h;simp[Ik r0]
theorem wF{α:Type}{l:List α}(h:l.length=2):∃a b,l=[a,b]:=by
 match l,h with
 |[a,b],_=>exact⟨a,b,rfl⟩
theorem vS{α:Type}{l:List α}(h:l.length=3):∃a b c,l=[a,b,c]:=by
 match l,h with
 |[a,b,c],_=>exact⟨a,b,c,rfl⟩
theorem Pz{k:Nat}:∀ {ts:List TypeId} {ss:List Sh} {args:List Value} {ds:List (DataW H)} {p:List MemPlace},N0 P k ts=some ss->(∀(j:Nat) t v,ts[j]?=some t->args[j]?=some v->yn P W .any base t v)->
  yt enc P W 0 (fun _=>true) true ts args ds p->∃x:(BC ss).T,LQ (FW W) (Af ss x) (args.map (PY W.heap.size))/\zA ss x/\As (pW W) (args.map (PY W.heap.size)) args
 |[],ss,args,ds,p,hs,_,h=>by
  cases hs;obtain⟨rfl,rfl,rfl⟩:=trodAll_nil h;exact⟨(),fun ρ N=>by simp[Af],trivial,by simp⟩
 |t::ts,ss,args,ds,p,hs,hv,h=>by
  unfold N0 at hs;split at hs
  case h_2=>cases hs
  rename_i s ss' h1 h2;cases hs;obtain⟨v0,vs0,d0,ds0,p0,q0,rfl,rfl,rfl,h0,r0⟩:=trodAll_cons h;obtain⟨x,a1,a2,a3⟩:=kK h1 (hv 0 t v0 rfl rfl) h0;obtain⟨y,b1,b2,b3⟩:=Pz h2 (fun j t v ht hv'=>hv (j+1) t v ht hv') r0;have hr:As (pW W) ((v0::vs0).map (PY W.heap.size)) (v0::vs0):=by simp only[yi,Bd];exact⟨a3,b3⟩
  cases ss' with
  |nil=>exact⟨x,fun ρ N=>by
    have:=b1 ρ N;simp only[Af,B3]at this;simp only[yi,Af,this,A2,B3,wn];exact a1 ρ N,a2,hr⟩
  |cons s2 ss2=>exact⟨(x,y),fun ρ N=>by
    simp only[yi,Af,A2];exact⟨a1 ρ N,b1 ρ N⟩,⟨a2,b2⟩,hr⟩
end
end Go.Pe
namespace Go.Proofs.YtknhdhchejmpgaaGreatDoor
open Go
set_option maxRecDepth 100000
theorem seatTie1 : Tryz.prog.laidByTextLater [("math/bits.deBruijn32tab", Rows.laid_math_bits_deBruijn32tab), ("math/bits.deBruijn64tab", Rows.laid_math_bits_deBruijn64tab), ("internal/strconv.uint64pow10", Rows.laid_internal_strconv_uint64pow10), ("unicode/utf8.acceptRanges", Rows.laid_unicode_utf8_acceptRanges), ("strconv.ErrRange", Rows.laid_strconv_ErrRange), ("strconv.ErrSyntax", Rows.laid_strconv_ErrSyntax)] [.data, .data, .data, .data, .sentinel, .sentinel] true :=
 Program.laidByTextLater_by_one 72 8 65 (by kernel_rfl) (by kernel_rfl) (by kernel_rfl) (by kernel_rfl) (by kernel_rfl) (by kernel_rfl) (fun _ _=>by kernel_rfl)
theorem pin_laid_unicode_utf8_first : Tryz.pinned.checked.prog.pinnedFits "unicode/utf8.first" = true := by kernel_rfl
theorem noOwnUnsafe : Tryz.pinned.checked.prog.headLifts.contains "ownunsafe" = false := by kernel_rfl
theorem fits1 : Tryz.pinned.checked.prog.listedFits [("math/bits.deBruijn32tab", Rows.laid_math_bits_deBruijn32tab), ("math/bits.deBruijn64tab", Rows.laid_math_bits_deBruijn64tab), ("internal/strconv.uint64pow10", Rows.laid_internal_strconv_uint64pow10), ("unicode/utf8.acceptRanges", Rows.laid_unicode_utf8_acceptRanges), ("strconv.ErrRange", Rows.laid_strconv_ErrRange), ("strconv.ErrSyntax", Rows.laid_strconv_ErrSyntax), ("unicode/utf8.first", Rows.laid_unicode_utf8_first)] = true := by
 unfold Program.listedFits;rw[noOwnUnsafe];kernel_rfl
theorem tie : Tryz.prog.laidByTextLater [("math/bits.deBruijn32tab", Rows.laid_math_bits_deBruijn32tab), ("math/bits.deBruijn64tab", Rows.laid_math_bits_deBruijn64tab), ("internal/strconv.uint64pow10", Rows.laid_internal_strconv_uint64pow10), ("unicode/utf8.acceptRanges", Rows.laid_unicode_utf8_acceptRanges), ("strconv.ErrRange", Rows.laid_strconv_ErrRange), ("strconv.ErrSyntax", Rows.laid_strconv_ErrSyntax)] [.data, .data, .data, .data, .sentinel, .sentinel] true :=
 Program.laidByTextLater.sub seatTie1 ["math/bits.deBruijn32tab", "math/bits.deBruijn64tab", "internal/strconv.uint64pow10", "unicode/utf8.acceptRanges", "strconv.ErrRange", "strconv.ErrSyntax"] (by kernel_rfl) (by kernel_rfl)
theorem cardRounds_row_tie:Rows.cardRoundsRow.laidByTextAt .later Tryz.pinned [.data,.data,.data,.data,.sentinel,.sentinel,.pinned] true:=by
 refine yu rfl rfl tie rfl rfl rfl rfl (fun y hy _e=>?_) fits1;simp only[Rows.cardRoundsRow,List.zip_cons_cons,List.zip_nil_right,yy,List.mem_nil_iff,or_false]at hy;rcases hy with rfl|rfl|rfl|rfl|rfl|rfl|rfl
 ·cases _e
 ·cases _e
 ·cases _e
 ·cases _e
 ·cases _e
 ·cases _e
 ·exact⟨pin_laid_unicode_utf8_first,by kernel_rfl⟩
theorem cardBetween_row_tie:Rows.cardBetweenRow.laidByTextAt .later Tryz.pinned [.data,.data,.data,.data,.sentinel,.sentinel,.pinned] true:=by
 refine yu rfl rfl tie rfl rfl rfl rfl (fun y hy _e=>?_) fits1;simp only[Rows.cardBetweenRow,List.zip_cons_cons,List.zip_nil_right,yy,List.mem_nil_iff,or_false]at hy;rcases hy with rfl|rfl|rfl|rfl|rfl|rfl|rfl
 ·cases _e
 ·cases _e
 ·cases _e
 ·cases _e
 ·cases _e
 ·cases _e
 ·exact⟨pin_laid_unicode_utf8_first,by kernel_rfl⟩
end Go.Proofs.YtknhdhchejmpgaaGreatDoor
