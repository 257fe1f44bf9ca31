import Derived.Test.YtmcnicakonagdaaGreatDoorX15
import Derived.Test.YtmcnicakonagdaaGreatDoorX14
import Derived.Test.YtmcnicakonagdaaGreatDoorX03
import Derived.ChangeSame
import Derived.Below
import Derived.Test.YtmcnicakonagdaaGreatDoorX09
import Derived.ChangeShapes
import Derived.OpenShut
import Derived.Test.YtmcnicakonagdaaGreatDoorRows
import Derived.LaidByTextLater
import Derived.SevenTiedAt
import Derived.LaidSub
import Derived.LaidOnce
/- A part of a proof (no law is stated here). Made by program out of texts by AI agents. -/
noncomputable section
open Go.Pe.Ends renaming tt -> zc, leaf -> zj, Aq -> zn, ff -> zr, ite -> z8, eq -> yv
open Bool renaming and_eq_true -> zd, or_eq_true -> qg, or_true -> qo
open Go.Pe.Sh renaming str -> ze, list -> zz, pair -> yw
open Go.IntKind renaming wrap -> zf
open List renaming length_map -> zg, mem_cons_self -> zh, getElem?_eq_getElem -> zi, all_eq_true -> zk, take_length -> zm, mem_of_mem_drop -> zo, mem_map -> zt, getD_eq_getElem?_getD -> zu, map_cons -> zy, map_append -> z7, mem_append_right -> yc, mem_cons_of_mem -> ye, mem_flatMap -> yf, take_of_length_le -> yj, mem_append_left -> yt, length_pos_iff -> yu, mem_singleton -> yx, map_drop -> y7, mem_cons -> y8, getElem?_take_of_lt -> y9, all -> qd, length_take -> qe, length -> qh, take_zero -> qi, map_take -> qk, range -> ql
open Int renaming toNat_natCast -> zl
open Array renaming getElem?_eq_some_iff -> zp, getElem?_eq_none -> yb
open Go.DataW renaming trod -> zq, TrodAll -> yq, Trod -> qm
open Prod renaming fst -> zw, snd -> yd
open Nat renaming eq_of_beq_eq_true -> zx, zero_le -> z6, beq -> yn, le_of_ble_eq_true -> yo, le_refl -> yr, add -> yz
open Option renaming bind_some -> ya, bind_eq_some_iff -> qf
open Rat renaming add_zero -> yg, zero_add -> yh, add_assoc -> yp, intCast_eq_zero_iff -> qc
open Go.Sp renaming Nu -> yi, IM -> qn
open Go.Value renaming okWide -> yk
open Go.Pe.Ad renaming of -> yy
open Go.World renaming cell? -> qj
open Go.Addr renaming add -> qp
namespace Go.Sp
theorem oY(l:List BI):Cp (l.map fun p=>Ar p.1)=Cp ((AH l).map zw):=by rw[X1]
theorem qB(l:List BI):Cp (l.map fun p=>Ar p.2)=Cp ((AH l).map yd):=by rw[XL]
theorem TW(a:Rat):∀l:List BI,Cp (l.map fun p=>(Ar p.1-a)*(Ar p.1-a))=B7 a (AH l)
 |[]=>rfl
 |p::l=>by
  show _+Cp (l.map fun p=>(Ar p.1-a)*(Ar p.1-a))=_+B7 a (AH l);rw[TW a l]
theorem U5(a b:Rat):∀l:List BI,Cp (l.map fun p=>(Ar p.1-a)*(Ar p.2-b))=Fj a b (AH l)
 |[]=>rfl
 |p::l=>by
  show _+Cp (l.map fun p=>(Ar p.1-a)*(Ar p.2-b))=_+Fj a b (AH l);rw[U5 a b l]
theorem EO(l:List BI):(AH l).length=l.length:=by unfold AH;exact zg ..
end Go.Sp
namespace Go.Pe
open Sp
open Go.Det
theorem He:Ey V2:=Ab T59.ok (Ab T71.ok (Ab T63.ok (Ab T64.ok AU)))
theorem T58.ok:Ag Bi 58 cXa:=by
 refine Cc He (fun(p:BI) hp=>?_);exact yv (T58.An p) (zc hp (zj (yy rfl rfl rfl)))
theorem T61.ok:Ag Bi 61 cXb:=by
 refine Cc He (fun(p:BI) hp=>?_);exact yv (T61.An p) (zc hp (zj (yy rfl rfl rfl)))
theorem T62.ok:Ag Bi 62 cWd:=by
 refine Cc He (fun(i:BI×Al) hi=>?_);obtain⟨p,x⟩:=i;have hi:Sp.okW p x=true:=hi;unfold Sp.okW at hi;rw[zd,zd,zd]at hi;obtain⟨⟨⟨h1,h2⟩,h3⟩,h4⟩:=hi;exact yv (T62.An p x) (zc h1 (zc (Aa h2 h3) (zc (Aa h4 h4) (zj (yy rfl rfl rfl)))))
theorem T66.ok:Ag Bi 66 cBt:=by
 refine Cc He (fun(i:BI×Al×Al) hi=>?_);obtain⟨p,x,y⟩:=i;have hi:Sp.okB p x y=true:=hi;unfold Sp.okB at hi;rw[zd,zd,zd,zd,zd,zd,zd]at hi;obtain⟨⟨⟨⟨⟨⟨⟨h1,h2⟩,h3⟩,h4⟩,h5⟩,h6⟩,h7⟩,h8⟩:=hi;exact yv (T66.An p x y) (zc h1 (zc (Aa h3 h5) (zc h2 (zc (Aa h4 h6) (zc (Aa h7 h8) (zj (yy rfl rfl rfl)))))))
theorem T70.ok:Ag Bi 70 cMs:=by
 refine Cc He (fun(i:BI×Al×Al) hi=>?_);obtain⟨p,a,b⟩:=i;have hi:Sp.okM p a b=true:=hi;unfold Sp.okM at hi;rw[zd,zd,zd,zd,zd,zd,zd,zd]at hi;obtain⟨⟨⟨⟨⟨⟨⟨⟨h1,h2⟩,h3⟩,h4⟩,h5⟩,h6⟩,h7⟩,h8⟩,h9⟩:=hi;exact yv (T70.An p a b) (zc h2 (zc h1 (zc (Aa h5 h3) (zc (Aa h7 h6) (zc (Aa h4 h8) (zc (Aa h9 h9) (zj (yy rfl rfl rfl))))))))
theorem T150.ok:Ag Bi 150 iO:=by
 refine Cc He (fun(a:Al) _=>?_);exact yv (T150.An a) (zj (yy rfl rfl rfl))
theorem OH:Ey CN:=Ab T55.ok (Ab T76.ok (Ab T68.ok (Ab T69.ok (Ab T59.ok (Ab T56.ok (Ab T71.ok (Ab T63.ok (Ab T64.ok (Ab T60.ok (Ab T65.ok (Ab T67.ok (Ab T58.ok (Ab T61.ok (Ab T62.ok (Ab T66.ok (Ab T70.ok (Ab T150.ok AU)))))))))))))))))
structure PtR(p:BI):Prop where
 bx:Da p.1=true
 by':Da p.2=true
 x:RS 10 (Fc p.1) (Ar p.1)
 y:RS 10 (Fc p.2) (Ar p.2)
theorem Sw{l:List BI}(h:CY l=0)(k:J3 l=true):∀p∈l,PtR p:=fun p hp=>by
 obtain⟨c1,c2⟩:=(CL h).2.2 p hp;obtain⟨s1,s2⟩:=(Fs k).2 p hp;exact⟨(PN c1).2,(PN c2).2,(Iw c1).mono s1,(Iw c2).mono s2⟩
namespace T11
variable {Q:PV->Ob->Prop}
theorem zF(l:List BI)(hl:l.length<=10)(v0:List BI)(v6:Al)(o0 o0_1:Int)(hp:∀p∈l,Da p.1=true/\RS 10 (Fc p.1) (Ar p.1)):∀(r:List BI) (i K:Nat) (f:Al) (s:Rat),l.drop i=r->i<=l.length->RS K f s->K+11*r.length<=4000->(∀g,RS (K+11*r.length) g (s+Cp (r.map fun p=>Ar p.1))->Ends CN (L2 v0 v6 l (l.length:Int) (l.length:Int) g.1.1 g.1.2 g.2.1 g.2.2 o0 o0_1) Q)->Ends CN (L2 v0 v6 l (l.length:Int) (i:Int) f.1.1 f.1.2 f.2.1 f.2.2 o0 o0_1) Q
 |[],i,K,f,s,h,hi,hf,hk,hq=>by
  have e:i=l.length:=drop_nil h hi;subst e;refine hq f ?_;show RS K f (s+0);rw[yg];exact hf
 |p::r,i,K,f,s,h,hi,hf,hk,hq=>by
  obtain⟨g1,g2,g3⟩:=drop_cons (d:=(([],[]):BI)) h;obtain⟨p1,p2⟩:=hp p (zo (by rw[h];exact zh ..));have e1:zf .i64 ((i:Int)+1)=((i+1:Nat):Int):=by rw[wr _ (by omega) (by omega)];omega
  have hlen:(p::r).length=r.length+1:=rfl;rw[hlen]at hk hq;have ha:=hf.add p2 (by omega) (by decide);refine zn (AV ..) ?_;conv=>zeta
  rw[zl,g2,e1];refine zc (w4 (by omega)) (zc (Aa (w4 (by omega)) (w4 (by omega))) (zc p1 (zc (hf.mP p2 (by omega) (by decide)) ?_)));refine zF l hl v0 v6 o0 o0_1 hp r (i+1) _ (Ge f (Fc p.1)) _ g3 g1 ha (by omega) fun g hg=>hq g ?_
  have e2:s+Cp ((p::r).map fun p=>Ar p.1)=s+(Ar p.1)+Cp (r.map fun p=>Ar p.1):=by
   rw[zy,Cp,yp]
  rw[e2];exact hg.mono (by omega)
theorem Aaq(l:List BI)(hl:l.length<=10)(v0:List BI)(v6:Al)(v9:List BI)(v10 v11:Int)(u:Al)(o0 o0_1 o3 o3_1:Int)(w x y:Al)(hp:∀p∈l,Da p.2=true/\RS 10 (Fc p.2) (Ar p.2)):∀(r:List BI) (i K:Nat) (f:Al) (s:Rat),l.drop i=r->i<=l.length->RS K f s->K+11*r.length<=4000->(∀g,RS (K+11*r.length) g (s+Cp (r.map fun p=>Ar p.2))->Ends CN (L3 v0 v6 v9 v10 v11 u.1.1 u.1.2 u.2.1 u.2.2 o0 o0_1 l (l.length:Int) (l.length:Int) g.1.1 g.1.2 g.2.1 g.2.2 o3 o3_1 w.1.1 w.1.2 w.2.1 w.2.2 x.1.1 x.1.2 x.2.1 x.2.2 y.1.1 y.1.2 y.2.1 y.2.2) Q)->Ends CN (L3 v0 v6 v9 v10 v11 u.1.1 u.1.2 u.2.1 u.2.2 o0 o0_1 l (l.length:Int) (i:Int) f.1.1 f.1.2 f.2.1 f.2.2 o3 o3_1 w.1.1 w.1.2 w.2.1 w.2.2 x.1.1 x.1.2 x.2.1 x.2.2 y.1.1 y.1.2 y.2.1 y.2.2) Q
 |[],i,K,f,s,h,hi,hf,hk,hq=>by
  have e:i=l.length:=drop_nil h hi;subst e;refine hq f ?_;show RS K f (s+0);rw[yg];exact hf
 |p::r,i,K,f,s,h,hi,hf,hk,hq=>by
  obtain⟨g1,g2,g3⟩:=drop_cons (d:=(([],[]):BI)) h;obtain⟨p1,p2⟩:=hp p (zo (by rw[h];exact zh ..));have e1:zf .i64 ((i:Int)+1)=((i+1:Nat):Int):=by rw[wr _ (by omega) (by omega)];omega
  have hlen:(p::r).length=r.length+1:=rfl;rw[hlen]at hk hq;have ha:=hf.add p2 (by omega) (by decide);refine zn (C5 ..) ?_;conv=>zeta
  rw[zl,g2,e1];refine zc (w4 (by omega)) (zc (Aa (w4 (by omega)) (w4 (by omega))) (zc p1 (zc (hf.mP p2 (by omega) (by decide)) ?_)));refine Aaq l hl v0 v6 v9 v10 v11 u o0 o0_1 o3 o3_1 w x y hp r (i+1) _ (Ge f (Fc p.2)) _ g3 g1 ha (by omega) fun g hg=>hq g ?_
  have e2:s+Cp ((p::r).map fun p=>Ar p.2)=s+(Ar p.2)+Cp (r.map fun p=>Ar p.2):=by
   rw[zy,Cp,yp]
  rw[e2];exact hg.mono (by omega)
theorem Aaz(l:List BI)(hl:l.length<=10)(v0:List BI)(v7:Al)(w:Al)(xm:Al)(X:Rat)(o1 o1_1:Int)(y:Al)(hp:∀p∈l,Sp.okW p xm=true/\RS 246 (xS p xm) ((Ar p.1-X)*(Ar p.1-X))):∀(r:List BI) (i K:Nat) (f:Al) (s:Rat),l.drop i=r->i<=l.length->RS K f s->K+247*r.length<=4000->(∀g,RS (K+247*r.length) g (s+Cp (r.map fun p=>(Ar p.1-X)*(Ar p.1-X)))->Ends CN (L5 v0 v7 w.1.1 w.1.2 w.2.1 w.2.2 xm l (l.length:Int) (l.length:Int) g.1.1 g.1.2 g.2.1 g.2.2 o1 o1_1 y.1.1 y.1.2 y.2.1 y.2.2) Q)->Ends CN (L5 v0 v7 w.1.1 w.1.2 w.2.1 w.2.2 xm l (l.length:Int) (i:Int) f.1.1 f.1.2 f.2.1 f.2.2 o1 o1_1 y.1.1 y.1.2 y.2.1 y.2.2) Q
 |[],i,K,f,s,h,hi,hf,hk,hq=>by
  have e:i=l.length:=drop_nil h hi;subst e;refine hq f ?_;show RS K f (s+0);rw[yg];exact hf
 |p::r,i,K,f,s,h,hi,hf,hk,hq=>by
  obtain⟨g1,g2,g3⟩:=drop_cons (d:=(([],[]):BI)) h;obtain⟨p1,p2⟩:=hp p (zo (by rw[h];exact zh ..));have e1:zf .i64 ((i:Int)+1)=((i+1:Nat):Int):=by rw[wr _ (by omega) (by omega)];omega
  have hlen:(p::r).length=r.length+1:=rfl;rw[hlen]at hk hq;have ha:=hf.add p2 (by omega) (by decide);refine zn (Es ..) ?_;conv=>zeta
  rw[zl,g2,e1];refine zc (w4 (by omega)) (zc (Aa (w4 (by omega)) (w4 (by omega))) (zc p1 (zc (hf.mP p2 (by omega) (by decide)) ?_)));refine Aaz l hl v0 v7 w xm X o1 o1_1 y hp r (i+1) _ (Ge f (xS p xm)) _ g3 g1 ha (by omega) fun g hg=>hq g ?_
  have e2:s+Cp ((p::r).map fun p=>(Ar p.1-X)*(Ar p.1-X))=s+((Ar p.1-X)*(Ar p.1-X))+Cp (r.map fun p=>(Ar p.1-X)*(Ar p.1-X)):=by
   rw[zy,Cp,yp]
  rw[e2];exact hg.mono (by omega)
theorem AaQ(l:List BI)(hl:l.length<=10)(v0:List BI)(v7 v8:Al)(w:Al)(xm ym:Al)(X Y:Rat)(o1 o1_1:Int)(y:Al)(hp:∀p∈l,Sp.okB p xm ym=true/\RS 246 (xM p xm ym) ((Ar p.1-X)*(Ar p.2-Y))):∀(r:List BI) (i K:Nat) (f:Al) (s:Rat),l.drop i=r->i<=l.length->RS K f s->K+247*r.length<=4000->(∀g,RS (K+247*r.length) g (s+Cp (r.map fun p=>(Ar p.1-X)*(Ar p.2-Y)))->Ends CN (L7 v0 v7 v8 w.1.1 w.1.2 w.2.1 w.2.2 xm ym l (l.length:Int) (l.length:Int) g.1.1 g.1.2 g.2.1 g.2.2 o1 o1_1 y.1.1 y.1.2 y.2.1 y.2.2) Q)->Ends CN (L7 v0 v7 v8 w.1.1 w.1.2 w.2.1 w.2.2 xm ym l (l.length:Int) (i:Int) f.1.1 f.1.2 f.2.1 f.2.2 o1 o1_1 y.1.1 y.1.2 y.2.1 y.2.2) Q
 |[],i,K,f,s,h,hi,hf,hk,hq=>by
  have e:i=l.length:=drop_nil h hi;subst e;refine hq f ?_;show RS K f (s+0);rw[yg];exact hf
 |p::r,i,K,f,s,h,hi,hf,hk,hq=>by
  obtain⟨g1,g2,g3⟩:=drop_cons (d:=(([],[]):BI)) h;obtain⟨p1,p2⟩:=hp p (zo (by rw[h];exact zh ..));have e1:zf .i64 ((i:Int)+1)=((i+1:Nat):Int):=by rw[wr _ (by omega) (by omega)];omega
  have hlen:(p::r).length=r.length+1:=rfl;rw[hlen]at hk hq;have ha:=hf.add p2 (by omega) (by decide);refine zn (Ew ..) ?_;conv=>zeta
  rw[zl,g2,e1];refine zc (w4 (by omega)) (zc (Aa (w4 (by omega)) (w4 (by omega))) (zc p1 (zc (hf.mP p2 (by omega) (by decide)) ?_)));refine AaQ l hl v0 v7 v8 w xm ym X Y o1 o1_1 y hp r (i+1) _ (Ge f (xM p xm ym)) _ g3 g1 ha (by omega) fun g hg=>hq g ?_
  have e2:s+Cp ((p::r).map fun p=>(Ar p.1-X)*(Ar p.2-Y))=s+((Ar p.1-X)*(Ar p.2-Y))+Cp (r.map fun p=>(Ar p.1-X)*(Ar p.2-Y)):=by
   rw[zy,Cp,yp]
  rw[e2];exact hg.mono (by omega)
theorem zA(l:List BI)(c:CY l=0)(hw:J3 l=true)(FX FY w:Al)(X Y:Rat)(hX:X=Ba ((AH l).map zw))(hY:Y=Ba ((AH l).map yd))(xm:RS 112 FX X)(ym:RS 112 FY Y)(wr':RS 225 w (E8 l))(z:E8 l≠0):Ends CN (L6 l FX FY w.1.1 w.1.2 w.2.1 w.2.2) (Ad kY l):=by
 obtain⟨n10,_⟩:=Fs hw;have pr:=Sw c hw;have ln:RF 10 10 (AH l):=S6 c n10 (Fs hw).2;have hq:E8 l=B7 X (AH l):=by rw[hX];rfl
 have es:Bm (AH l)=Fj X Y (AH l)/E8 l:=by rw[hX,hY];rfl
 have eo:DS (AH l)=Y-Bm (AH l)*X:=by rw[hX,hY];rfl
 have ps:=(cN ln Ra Xz (AH l).length).1;rw[zm, <-hX, <-hY]at ps;have ss:=O1 ln Ra Xz z;have os':=jZ ln Ra Xz z;refine zn (Fi ..) (zc rfl ?_);refine AaQ l n10 l FX FY w FX FY X Y 0 0 w (fun p hp=>?_) l 0 1 ((0,Ca 0),(1,Ca 1)) 0 rfl (z6 _) Js (by omega) fun b hb=>?_
 ·have d:=(pr p hp).x.sub xm (by decide) (by decide);have d':=(pr p hp).y.sub ym (by decide) (by decide);exact⟨Aa (Aa (Aa (Aa (Aa (Aa (Aa (pr p hp).bx (pr p hp).by') ((pr p hp).x.BL (by decide))) ((pr p hp).y.BL (by decide))) (xm.BL (by decide))) (ym.BL (by decide))) (d.BL (by decide))) (d'.BL (by decide)),(d.mul d' (by decide) (by decide)).mono (by decide)⟩
 rw[yh,U5]at hb;have br:RS 225 b (Fj X Y (AH l)):=⟨hb.r,ps⟩;have sr:RS 326 (HJ b w) (Bm (AH l)):=⟨by rw[es];exact(br.div wr' (by decide) (by decide) z).r,ss⟩;have tr:=sr.mul xm (by decide) (by decide);have or':RS 551 (Gc FY (Ha (HJ b w) FX)) (DS (AH l)):=⟨by rw[eo];exact(ym.sub tr (by decide) (by decide)).r,os'⟩;have s1:=Yt sr (e:=0) rfl;have o1:=Yt or' (e:=0) rfl;have s2:=WR sr.z (by decide);have o2:=WR or'.z (by decide);rw[s2.1,s2.2,Prod.mk.injEq]at s1;rw[o2.1,o2.2,Prod.mk.injEq]at o1;have n1:=br.ok3 wr' (by decide) (by decide) z;have n2:=sr.EZ (by decide);have n3:=sr.mP xm (by decide) (by decide);have n4:=ym.mP tr (by decide) (by decide);have n5:=or'.EZ (by decide);refine zn (Ew ..) (zr (w8 (by omega)) (zc n1 (zc n2 (zc n3 (zc n4 (zc n5 (zc rfl (zr ?_ (zj (yy rfl rfl ?_))))))))))
 ·show(Sp.first [Hd (HJ b w),Hd (Gc FY (Ha (HJ b w) FX))] !=0)=false;rw[s1.2,o1.2];rfl
 ·have e:EB l=0:=by unfold EB;rw[wc (by rw[c];decide),wc z]
  show(JB (HJ b w),JB (Gc FY (Ha (HJ b w) FX)),(0:Int))=(BR l,BS l,EB l);unfold BR BS;rw[e,wd rfl,wd rfl,s1.1,o1.1]
theorem Aai(l:List BI)(c:CY l=0)(hw:J3 l=true)(FX FY:Al)(X Y:Rat)(hX:X=Ba ((AH l).map zw))(hY:Y=Ba ((AH l).map yd))(xm:RS 112 FX X)(ym:RS 112 FY Y):Ends CN (L4 l FX FY.1.1 FY.1.2 FY.2.1 FY.2.2) (Ad kY l):=by
 obtain⟨n10,_⟩:=Fs hw;have pr:=Sw c hw;have ln:RF 10 10 (AH l):=S6 c n10 (Fs hw).2;have hq:E8 l=B7 X (AH l):=by rw[hX];rfl
 have ps:=(cN ln Ra Xz (AH l).length).2;rw[zm, <-hX, <-hq]at ps;refine zn (CT ..) (zc rfl ?_);refine Aaz l n10 l FX FY FX X 0 0 FY (fun p hp=>?_) l 0 1 ((0,Ca 0),(1,Ca 1)) 0 rfl (z6 _) Js (by omega) fun w hw0=>?_
 ·have d:=(pr p hp).x.sub xm (by decide) (by decide);exact⟨Aa (Aa (Aa (pr p hp).bx ((pr p hp).x.BL (by decide))) (xm.BL (by decide))) (d.BL (by decide)),(d.mul d (by decide) (by decide)).mono (by decide)⟩
 rw[yh,TW, <-hq]at hw0;have wr':RS 225 w (E8 l):=⟨hw0.r,ps⟩;refine zn (Es ..) (zr (w8 (by omega)) (zc wr'.Dp (z8 (fun z=>zj (yy rfl rfl ?_)) (fun z=>?_))))
 ·have z:Qm w=0:=by
   have z:(Qm w==0)=true:=z;simpa using z
  have z:=wr'.Ou.2.1 z;have e:EB l=14:=by unfold EB;rw[wc (by rw[c];decide),wd z]
  show(([]:List UInt8),([]:List UInt8),(14:Int))=(BR l,BS l,EB l);unfold BR BS;rw[e,wc (by decide),wc (by decide)]
 ·have z:Qm w≠0:=by
   have z:(Qm w==0)=false:=z;simpa using z
  exact zA l c hw FX FY w X Y hX hY xm ym wr' fun x=>z (wr'.Ou.2.2 x)
theorem Aab(l:List BI)(c:CY l=0)(hw:J3 l=true):Ends CN (L1 l (((l.length:Int),[]),((1:Int),[]))) (Ad kY l):=by
 obtain⟨n10,_⟩:=Fs hw;have hpos:0<l.length:=yu.2 (CL c).1;have pr:=Sw c hw;have ln:RF 10 10 (AH l):=S6 c n10 (Fs hw).2;have hlq:=EO l;have lfx:((AH l).map zw).length=l.length:=by rw[zg,hlq]
 have lfy:((AH l).map yd).length=l.length:=by rw[zg,hlq]
 have rn:RS 2 (((l.length:Int),[]),((1:Int),[])) ((l.length:Int):Rat):=VL (k:=2) (by omega) (by decide) (by decide);have n0:((l.length:Int):Rat)≠0:=fun x=>by have:=qc.1 x;omega
 have mem1:∀q∈(AH l).map zw,C0 10 q:=fun q hq=>by obtain⟨p,hp,rfl⟩:=zt.1 hq;exact(ln.sz p hp).1
 have mem2:∀q∈(AH l).map yd,C0 10 q:=fun q hq=>by obtain⟨p,hp,rfl⟩:=zt.1 hq;exact(ln.sz p hp).2
 have mx:=G9 (n:=10) (by rw[lfx];exact hpos) (by rw[lfx];exact n10) mem1 Ra;have my:=G9 (n:=10) (by rw[lfy];exact hpos) (by rw[lfy];exact n10) mem2 Ra;generalize (((l.length:Int),[]),((1:Int),[]))=NF at*;refine zn (Au ..) (zc rfl ?_);refine zF l n10 l NF 0 0 (fun p hp=>⟨(pr p hp).bx,(pr p hp).x⟩) l 0 1 ((0,Ca 0),(1,Ca 1)) 0 rfl (z6 _) Js (by omega) fun f hf=>?_
 rw[yh,oY]at hf;have d1:=hf.div rn (by omega) (by decide) n0;have ex:Cp ((AH l).map zw)/((l.length:Int):Rat)=Ba ((AH l).map zw):=by unfold Ba;rw[lfx]
 rw[ex]at d1;have xm:RS 112 (HJ f NF) (Ba ((AH l).map zw)):=⟨d1.r,mx⟩;refine zn (AV ..) (zr (w8 (by omega)) (zc (hf.ok3 rn (by omega) (by decide) n0) (zc rfl ?_)));refine Aaq l n10 l NF l (l.length:Int) (l.length:Int) f 0 0 0 0 (HJ f NF) f f (fun p hp=>⟨(pr p hp).by',(pr p hp).y⟩) l 0 1 ((0,Ca 0),(1,Ca 1)) 0 rfl (z6 _) Js (by omega) fun g hg=>?_
 rw[yh,qB]at hg;have d2:=hg.div rn (by omega) (by decide) n0;have ey:Cp ((AH l).map yd)/((l.length:Int):Rat)=Ba ((AH l).map yd):=by unfold Ba;rw[lfy]
 rw[ey]at d2;have ym:RS 112 (HJ g NF) (Ba ((AH l).map yd)):=⟨d2.r,my⟩;refine zn (C5 ..) (zr (w8 (by omega)) (zc (hg.ok3 rn (by omega) (by decide) n0) ?_));exact Aai l c hw (HJ f NF) (HJ g NF) _ _ rfl rfl xm ym
theorem ok:Ag Bi 11 kY:=by
 refine Cc OH (fun(l:List BI) hi=>?_);obtain⟨h1,h2,h3⟩:=lI hi;have pl:(decide (l.length<=1000000)&&Hw 1000000 l)=true:=by
  have hi:qn l=true:=hi;unfold qn at hi;rw[zd]at hi;exact hi.1
 refine yv (An l) (zc pl (z8 (fun c=>zj (yy rfl rfl ?_)) (fun c=>zc rfl ?_)))
 ·have c:CY l≠0:=by simpa using c
  have e:EB l=CY l:=by unfold EB;rw[wd c]
  show(([]:List UInt8),([]:List UInt8),CY l)=(BR l,BS l,EB l);unfold BR BS;rw[e,wc c,wc c]
 ·have c:CY l=0:=by simpa using c
  exact Aab l c (h3 c)
end T11
theorem rT{a b:Rat}{q:List (Rat×Rat)}(h:Qs a b q=true){i:Nat}(hi:i<=q.length):C0 3000 (J5 a b (q.take i)):=by
 unfold Qs at h;rw[zk]at h;have h:=h i (List.mem_range.2 (by omega));unfold E9 at h;rw[zd,w5]at h;have:=(wU h.1 h.2 (by decide)).z;rwa [Du]at this
theorem rF{l:List BI}{a b:List UInt8}(h:Mm l a b=true):(l.length<=1000000/\Hw 1000000 l=true)/\(a.length<=1000000/\b.length<=1000000)/\(ZI l a b=0->J3 l=true/\Sp.H7 a<=350/\Sp.H7 b<=560/\Qs (Ar a) (Ar b) (AH l)=true):=by
 unfold Mm at h;rw[zd,zd,zd,zd,qg,w5,w5,w5,w5]at h;obtain⟨⟨⟨⟨h1,h2⟩,h3⟩,h4⟩,h5⟩:=h;refine⟨⟨h1,h2⟩,⟨h3,h4⟩,fun k=>?_⟩;have h5:=h5.resolve_left fun x=>x k
 unfold uY at h5;rw[zd,zd,zd,w5,w5]at h5;exact⟨h5.1.1.1,h5.1.1.2,h5.1.2,h5.2⟩
theorem Z0(l:List BI)(a b:List UInt8):Sp.first [CY l,Az a,Az b]=ZI l a b:=by
 unfold ZI;rw[U1, <-QO]
theorem eR{l:List BI}{a b:List UInt8}(h:ZI l a b=0):CY l=0/\Az a=0/\Az b=0:=by
 unfold ZI at h;split at h
 ·next k=>exact wh h k
 ·next k=>exact⟨Classical.not_not.1 k,Rr h⟩
theorem O7{l r:List BI}{p:BI}{i:Nat}(h:l.drop i=p::r):(AH l).take (i+1)=(AH l).take i++[(Ar p.1,Ar p.2)]:=by
 refine D9 (r:=AH r) ?_;unfold AH;rw[<-y7,h];rfl
namespace T12
variable {Q:PV->Ob->Prop}
theorem loop(l:List BI)(A B:List UInt8)(hl:l.length<=10)(pr:∀p∈l,PtR p)(ra:RS 350 (Fc A) (Ar A))(rb:RS 560 (Fc B) (Ar B))(hs:Qs (Ar A) (Ar B) (AH l)=true)(o0 o0_1:Int)
  (hq:∀f ob,RS 3000 f (zC l A B)->Q (.tup [.dat .str (JB f),.dat i64 (Hd f)]) ob):∀(r:List BI) (i:Nat) (f:Al),l.drop i=r->i<=l.length->RS 3000 f (J5 (Ar A) (Ar B) ((AH l).take i))->Ends CN (L2 l (Fc A) (Fc B) (Fc A) (Fc B) l (l.length:Int) (i:Int) f.1.1 f.1.2 f.2.1 f.2.2 o0 o0_1) Q
 |[],i,f,h,hi,hf=>by
  have e:i=l.length:=drop_nil h hi;subst e;rw[show(AH l).take l.length=AH l by rw[<-EO l,zm]]at hf;exact zn (AV ..) (zr (w8 (by omega)) (zc (hf.EZ (by decide)) (zj (hq f _ hf))))
 |p::r,i,f,h,hi,hf=>by
  obtain⟨g1,g2,g3⟩:=drop_cons (d:=(([],[]):BI)) h;have k:=pr p (zo (by rw[h];exact zh ..));have e1:zf .i64 ((i:Int)+1)=((i+1:Nat):Int):=by rw[wr _ (by omega) (by omega)];omega
  have m:=ra.mul k.x (by decide) (by decide);have s:=m.add rb (by decide) (by decide);have d:=k.y.sub s (by decide) (by decide);have q:=d.mul d (by decide) (by decide);have ok:Sp.okM p (Fc A) (Fc B)=true:=Aa (Aa (Aa (Aa (Aa (Aa (Aa (Aa k.bx k.by') (k.x.BL (by decide))) (k.y.BL (by decide))) (ra.BL (by decide))) (rb.BL (by decide))) (m.BL (by decide))) (s.BL (by decide))) (d.BL (by decide));have a:=hf.add q (by decide) (by decide);have z:=rT hs (i:=i+1) (by rw[EO];omega);have e2:=O7 h;have e3:J5 (Ar A) (Ar B) ((AH l).take (i+1))=J5 (Ar A) (Ar B) ((AH l).take i)+(Ar p.2-(Ar A*Ar p.1+Ar B))*(Ar p.2-(Ar A*Ar p.1+Ar B)):=by rw[e2,qG]
  have fin:RS 3000 (Ge f (uK p (Fc A) (Fc B))) (J5 (Ar A) (Ar B) ((AH l).take (i+1))):=⟨by rw[e3];exact a.r,z⟩;refine zn (AV ..) ?_;conv=>zeta
  rw[zl,g2,e1];exact zc (w4 (by omega)) (zc (Aa (w4 (by omega)) (w4 (by omega))) (zc ok (zc (hf.mP q (by decide) (by decide)) (loop l A B hl pr ra rb hs o0 o0_1 hq r (i+1) (Ge f (uK p (Fc A) (Fc B))) g3 g1 fin))))
theorem ok:Ag Bi 12 cSq:=by
 refine Cc OH (fun(i:List BI×List UInt8×List UInt8) hi=>?_);obtain⟨l,a,b⟩:=i;obtain⟨⟨h1,h2⟩,⟨h3,h4⟩,h5⟩:=rF hi;refine yv (An l a b) ?_;conv=>zeta
 rw[Z0];refine zc (Aa (w4 h1) h2) (zc (w4 h3) (zc (w4 h4) (zc rfl (z8 (fun c=>zj (yy rfl rfl (fG (by simpa using c) _))) (fun c=>?_)))));have c:ZI l a b=0:=by simpa using c
 obtain⟨c1,c2,c3⟩:=eR c;obtain⟨k1,k2,k3,k4⟩:=h5 c;refine zc (PN c2).2 (zc (PN c3).2 ?_);show Ends CN (L1 l (Fc a) (Fc b)) _;refine zn (Au ..) (zc rfl ?_);exact loop l a b (Fs k1).1 (Sw c1 k1) ((Iw c2).mono k2) ((Iw c3).mono k3) k4 0 0 (fun f ob hf=>yy rfl rfl (Yt hf c)) l 0 ((0,Ca 0),(1,Ca 1)) rfl (z6 _) (Js.mono (by decide))
end T12
theorem qX{l:List (List UInt8)}(h:LX l=true):(l.length<=1000000/\∀s∈l,s.length<=1000000)/\(FJ l=0->Qo l<=1900):=by
 unfold LX at h;rw[zd,zd,qg,w5,w5,w5,zk]at h;exact⟨⟨h.1.1,fun s hs=>w6 (h.1.2 s hs)⟩,fun k=>h.2.resolve_left fun x=>x k⟩
theorem Na:∀ {l:List (List UInt8)},Cn l=0->∀s∈l,Az s=0
 |[],_,s,hs=>by cases hs
 |x::l,h,s,hs=>by
  rw[Gf]at h;split at h
  ·next k=>exact wh h k
  ·next k=>
   rcases y8.1 hs with rfl|hs
   ·exact Classical.not_not.1 k
   ·exact Na h s hs
theorem V9{l:List (List UInt8)}(h:FJ l=0):l≠[]/\l.length<=256/\∀s∈l,Az s=0:=by
 unfold FJ at h;split at h
 ·exact wh h (by decide)
 ·next k=>
  split at h
  ·exact wh h (by decide)
  ·exact⟨k,by omega,Na h⟩
theorem ZL{s:List UInt8}(h:Az s=0)(l:List (List UInt8)):Qo (s::l)=Sp.H7 s+1+Qo l:=by rw[Qo,wd h]
theorem gP{α:Type}(o:List α)(i j:Nat)(x d:α)(h:i<o.length):(o.set i x).getD j d=if i=j then x else o.getD j d:=by
 rw[zu,List.getElem?_set,zu];by_cases e:i=j
 ·rw[wd e,wd e,wd h];rfl
 ·rw[wc e,wc e]
namespace T17
variable {Q:PV->Ob->Prop}
theorem fill(l:List (List UInt8))(hl:l.length<=256)(hr:∀s∈l,Da s=true)(hq:∀o:List Al,o.length=l.length->(∀j,j<l.length->o.getD j (((0:Int),[]),(0:Int),[])=Fc (l.getD j []))->Ends CN (L1 l l.length l (l.length:Int) (l.length:Int) o) Q):∀(r:List (List UInt8)) (i:Nat) (o:List Al),l.drop i=r->i<=l.length->o.length=l.length->(∀j,j<i->o.getD j (((0:Int),[]),(0:Int),[])=Fc (l.getD j []))->Ends CN (L1 l l.length l (l.length:Int) (i:Int) o) Q
 |[],i,o,h,hi,ho,hj=>by
  have e:i=l.length:=drop_nil h hi;subst e;exact hq o ho hj
 |s::r,i,o,h,hi,ho,hj=>by
  obtain⟨g1,g2,g3⟩:=drop_cons (d:=([]:List UInt8)) h;have e1:zf .i64 ((i:Int)+1)=((i+1:Nat):Int):=by rw[wr _ (by omega) (by omega)];omega
  have bd:(decide ((0:Int)<=(i:Int))&&decide ((i:Int)<(l.length:Int)))=true:=Aa (w4 (by omega)) (w4 (by omega));refine zn (Au ..) ?_;conv=>zeta
  rw[zl,g2,e1];refine zc (w4 (by omega)) (zc bd (zc (hr s (zo (by rw[h];exact zh ..))) (zc bd (zc (w4 (by omega)) (fill l hl hr hq r (i+1) _ g3 g1 (by rw[List.length_set];exact ho) fun j hj'=>?_)))));rw[gP o i j _ _ (by omega)];by_cases e:i=j
  ·subst e;rw[wd rfl,g2]
  ·rw[wc e];exact hj j (by omega)
theorem sum(l:List (List UInt8))(o o9:List Al)(v9:List (List UInt8))(v10 v11 o2 o2_1 o1 o1_1:Int)(hl:l.length<=256)(ho:o.length=l.length)(hj:∀j,j<l.length->o.getD j (((0:Int),[]),(0:Int),[])=Fc (l.getD j []))(hc:∀s∈l,Az s=0):∀(r:List (List UInt8)) (i K:Nat) (f:Al) (s:Rat),l.drop i=r->i<=l.length->RS K f s->K+Qo r<=3000->(∀g,RS (K+Qo r) g (s+Cp (KN r))->Ends CN (L2 l l.length v9 v10 v11 o9 l.length (l.length:Int) (l.length:Int) g.1.1 g.1.2 g.2.1 g.2.2 o2 o2_1 o1 o1_1 o) Q)->Ends CN (L2 l l.length v9 v10 v11 o9 l.length (l.length:Int) (i:Int) f.1.1 f.1.2 f.2.1 f.2.2 o2 o2_1 o1 o1_1 o) Q
 |[],i,K,f,s,h,hi,hf,hk,hq=>by
  have e:i=l.length:=drop_nil h hi;subst e;refine hq f ?_;show RS K f (s+0);rw[yg];exact hf
 |x::r,i,K,f,s,h,hi,hf,hk,hq=>by
  obtain⟨g1,g2,g3⟩:=drop_cons (d:=([]:List UInt8)) h;have cx:=hc x (zo (by rw[h];exact zh ..));have e1:zf .i64 ((i:Int)+1)=((i+1:Nat):Int):=by rw[wr _ (by omega) (by omega)];omega
  have p2:=Iw cx;rw[ZL cx]at hk hq;have hx:=hj i g1;rw[g2]at hx;refine zn (AV ..) ?_;conv=>zeta
  rw[zl,hx,e1];refine zc (w4 (by omega)) (zc (Aa (w4 (by omega)) (w4 (by omega))) (zc (w4 (by omega)) (zc rfl (zc (hf.mP p2 (by omega) (by omega)) ?_))));refine sum l o o9 v9 v10 v11 o2 o2_1 o1 o1_1 hl ho hj hc r (i+1) _ (Ge f (Fc x)) _ g3 g1 (hf.add p2 (by omega) (by omega)) (by omega) fun g hg=>hq g ?_
  have e2:s+Cp (KN (x::r))=s+Ar x+Cp (KN r):=by
   show s+(Ar x+Cp (KN r))=_;rw[yp]
  rw[e2];exact hg.mono (by omega)
theorem ok:Ag Bi 17 cMn:=by
 refine Cc OH (fun(l:List (List UInt8)) hi=>?_);obtain⟨⟨h1,h2⟩,h3⟩:=qX hi;refine yv (An l) (zc (Aa (w4 h1) (zk.2 fun s hs=>w4 (h2 s hs))) (z8 (fun c=>zj (yy rfl rfl (fG (by simpa using c) _))) (fun c=>?_)));have c:FJ l=0:=by simpa using c
 obtain⟨k1,k2,k3⟩:=V9 c;have hpos:0<l.length:=yu.2 k1;have ht:=h3 c;rw[zl];refine zc (Aa (Aa (Aa (w4 (by omega)) (w4 rfl)) (w4 (by omega))) (w4 (by omega))) ?_;refine fill l k2 (fun s hs=>(PN (k3 s hs)).2) (fun o ho hj=>?_) l 0 _ rfl (z6 _) (List.length_replicate ..) (fun j hj=>wh hj (Nat.not_lt_zero _));refine zn (Au ..) (zr (w8 (by omega)) (zc rfl ?_));refine sum l o o l (l.length:Int) (l.length:Int) 0 0 0 0 k2 ho hj k3 l 0 1 ((0,Ca 0),(1,Ca 1)) 0 rfl (z6 _) Js (by omega) fun g hg=>?_
 rw[yh]at hg;have rn:RS 3 (((l.length:Int),Ca (l.length:Int)),((1:Int),Ca 1)) ((l.length:Int):Rat):=VL (k:=3) (by omega) (by decide) (by decide);have n0:((l.length:Int):Rat)≠0:=fun x=>by have:=qc.1 x;omega
 have d:=hg.div rn (by omega) (by decide) n0;have ev:Cp (KN l)/((l.length:Int):Rat)=sR l:=by
  unfold sR Ba KN;rw[zg]
 rw[ev]at d;exact zn (AV ..) (zr (w8 (by omega)) (zc rfl (zc (hg.ok3 rn (by omega) (by decide) n0) (zc (d.EZ (by omega)) (zj (yy rfl rfl (Yt d c)))))))
end T17
end Go.Pe
namespace Go.Sp
theorem mC:Nu 1 [48] 0:=by
 refine⟨by decide+kernel,?_⟩;unfold C0;decide+kernel
theorem Q9{k:Nat}{q:Rat}(h:C0 k q):Nu k (AW q) q:=⟨rfl,h⟩
theorem Vf{k:Nat}:∀ {l:List (List UInt8)},(∀s∈l,H7 s<=k)->Qo l<=(k+1)*l.length
 |[],_=>z6 _
 |s::l,h=>by
  have h1:=Vf (l:=l) fun x hx=>h x (ye _ hx)
  have h2:=h s (zh ..);have e:(k+1)*(s::l).length=(k+1)*l.length+(k+1):=Nat.mul_succ ..;rw[e,Qo];split<;>omega
theorem HO:∀ {l:List (List UInt8)},(∀s∈l,Az s=0)->Cn l=0
 |[],_=>rfl
 |s::l,h=>by
  rw[Gf,wc (by rw[h s (zh ..)];decide)];exact HO fun x hx=>h x (ye _ hx)
theorem eE{l:List BI}(f:BI->List UInt8)(h:CY l=0)(hw:J3 l=true)(hf:∀p∈l,Az (f p)=0/\H7 (f p)<=10/\(f p).length<=1000000):(LX (l.map f)&&decide (FJ (l.map f)=0))=true:=by
 obtain⟨h1,h2,_⟩:=CL h;have h3:=(Fs hw).1;have e:FJ (l.map f)=0:=by
  unfold FJ;rw[wc (by simpa using h1),wc (by rw[zg];omega)];exact HO fun s hs=>by obtain⟨p,hp,rfl⟩:=zt.1 hs;exact(hf p hp).1
 have t:=Vf (k:=10) (l:=l.map f) fun s hs=>by obtain⟨p,hp,rfl⟩:=zt.1 hs;exact(hf p hp).2.1
 rw[zg]at t;unfold LX;rw[zd,zd,zd,qg,w5,w5,w5,w5,zk];refine⟨⟨⟨by rw[zg];omega,fun s hs=>by obtain⟨p,hp,rfl⟩:=zt.1 hs;exact w4 (hf p hp).2.2⟩,.inr (by omega)⟩,e⟩
theorem qW(l:List BI):sR (l.map fun p=>p.1)=Ba ((AH l).map zw):=by
 unfold sR KN;rw[X1,List.map_map];rfl
theorem pJ(l:List BI):sR (l.map fun p=>p.2)=Ba ((AH l).map yd):=by
 unfold sR KN;rw[XL,List.map_map];rfl
end Go.Sp
namespace Go.Pe
open Go.Det
theorem get_map'{β:Type}(l:List Sp.BI)(f:Sp.BI->β)(i:Nat)(p:Sp.BI)(d:β)(h:i<l.length)(hp:l.getD i ([],[])=p):(l.map f).getD i d=f p:=by
 rw[zu,List.getElem?_map];rw[zu,zi h]at hp;rw[zi h];have hp:l[i]=p:=hp;rw[hp];rfl
open Sp
section
open List Int Prod
namespace T4
def T(l:List (List UInt8×List UInt8))(a b:List UInt8):Tr:=tree EA false 9 4 (Af ([zz (yw ze ze),ze,ze]) (l,a,b))
def L1(v0:List (List UInt8×List UInt8))(v1 v2:List UInt8)(v52 v53:Int):Tr:=re ((T [] [] []).L.R.R.L.R.L.R.L.R) (AF 238 [(0,.dat (zz (yw ze ze)) v0),(1,.dat ze v1),(2,.dat ze v2),(7,.nil),(8,.nil),(9,.bl true),(52,.dat i64 v52),(53,.dat i64 v53)] [] 0)
theorem An(l:List (List UInt8×List UInt8))(a b:List UInt8):T l a b=let a':Tr:=.ite true (.leaf (.dat Sh.bool true) []) .fail;let b':=decide (0<=3)&&decide (3<=1000);.ite true (.ite false a' (.ite (decide ((length l:Int)>8)) a' (.ite (decide (length l<=1000000)&&Hw 9223372036854775807 l) (.ite (CY l !=0) a' (.ite b' (.ite (!C9 a 3) a' (.ite b' (.ite (!C9 b 3) a' (L1 l a b ((length l:Int)) 0)) .fail)) .fail)) .fail))) .fail:=by kernel_rfl
def L2(v0:List (List UInt8×List UInt8))(v1 v2:List UInt8)(v7n v8n:Nat)(v9:Bool)(v52 v53:Int)(o1:List (List UInt8))(o0:List (List UInt8)):Tr:=re ((stepT EA (L1 [] [] [] 0 0)).L.L.L.R.L.L.R.L.L.L.L.L.L) (AF 238 [(0,.dat (zz (yw ze ze)) v0),(1,.dat ze v1),(2,.dat ze v2),(7,.sl 0 1 0 v7n none),(8,.sl 1 1 0 v8n none),(9,.dat Sh.bool v9),(52,.dat i64 v52),(53,.dat i64 v53)] [(1,.arr false 23 ze o1),(0,.arr false 23 ze o0)] 2)
def L3(v0:List (List UInt8×List UInt8))(v1 v2:List UInt8)(v7:List (List UInt8))(v8:List (List UInt8)):Tr:=re ((stepT EA (L1 [] [] [] 0 0)).R) (AF 238 [(0,.dat (zz (yw ze ze)) v0),(1,.dat ze v1),(2,.dat ze v2),(7,.dat (zz ze) v7),(8,.dat (zz ze) v8),(9,.bl true)] [] 0)
theorem Au(v0:List (List UInt8×List UInt8))(v1 v2:List UInt8)(v52 v53:Int):stepT EA (L1 v0 v1 v2 v52 v53)=let a':=decide (0<=v53)&&decide (v53<(length v0:Int));let b':=getD v0 (toNat v53) ([],[]);let c':=decide (1<=1)&&decide (0<1)&&decide ((2*1+1000)*16<=281474976710656);let d':=decide (0<=3)&&decide (3<=1000);.ite (decide (v53<v52)) (.ite a' (.ite d' (.ite (!C9 (fst b') 3) (.leaf (.bl true) []) (.ite a' (.ite d' (.ite (!C9 (snd b') 3) (.leaf (.bl true) []) (.ite a' (.ite a' (.ite c' (.ite c' (.ite a' (.ite (decide (0<(length v0:Int))) (L2 v0 v1 v2 1 1 (fst b'==fst (getD v0 0 ([],[]))) v52 (zf .i64 (v53+1)) ([snd b']) ([fst b'])) .fail) .fail) .fail) .fail) .fail) .fail)) .fail) .fail)) .fail) .fail) (L3 v0 v1 v2 [] []):=by kernel_rfl
def L4(v0:List (List UInt8×List UInt8))(v1 v2:List UInt8)(v7n v8n:Nat)(v52 v53:Int)(o1:List (List UInt8))(o0:List (List UInt8)):Tr:=re ((stepT EA (L2 [] [] [] 0 0 false 0 0 [] [])).L.L.L.R.L.L.R.L.L.L.L.R) (AF 238 [(0,.dat (zz (yw ze ze)) v0),(1,.dat ze v1),(2,.dat ze v2),(7,.sl 0 1 0 v7n none),(8,.sl 1 1 0 v8n none),(9,.bl false),(52,.dat i64 v52),(53,.dat i64 v53)] [(1,.arr false 23 ze o1),(0,.arr false 23 ze o0)] 2)
def L5(v0:List (List UInt8×List UInt8))(v1 v2:List UInt8)(v7:List (List UInt8))(v8:List (List UInt8))(v9:Bool):Tr:=re ((stepT EA (L2 [] [] [] 0 0 false 0 0 [] [])).R) (AF 238 [(0,.dat (zz (yw ze ze)) v0),(1,.dat ze v1),(2,.dat ze v2),(7,.dat (zz ze) v7),(8,.dat (zz ze) v8),(9,.dat Sh.bool v9)] [] 0)
theorem AV(v0:List (List UInt8×List UInt8))(v1 v2:List UInt8)(v7n v8n:Nat)(v9:Bool)(v52 v53:Int)(o1:List (List UInt8))(o0:List (List UInt8)):stepT EA (L2 v0 v1 v2 v7n v8n v9 v52 v53 o1 o0)=let a':=decide (0<=v53)&&decide (v53<(length v0:Int));let b':=getD v0 (toNat v53) ([],[]);let c':Tr:=.leaf (.bl true) ([(1,.arr false 23 ze o1),(0,.arr false 23 ze o0)]);let d':=decide (0<=3)&&decide (3<=1000);let e':=zf .i64 (v53+1);.ite (decide (v53<v52)) (.ite a' (.ite d' (.ite (!C9 (fst b') 3) c' (.ite a' (.ite d' (.ite (!C9 (snd b') 3) c' (.ite a' (.ite a' (.ite (decide (1<=1)&&true&&decide (v7n=length o0)&&decide ((2*(v7n+1)+1000)*16<=281474976710656)) (.ite (decide (1<=1)&&true&&decide (v8n=length o1)&&decide ((2*(v8n+1)+1000)*16<=281474976710656)) (.ite v9 (.ite a' (.ite (decide (0<(length v0:Int))) (L2 v0 v1 v2 (yz v7n 1) (yz v8n 1) (fst b'==fst (getD v0 0 ([],[]))) v52 e' (o1++[snd b']) (o0++[fst b'])) .fail) .fail) (L4 v0 v1 v2 (yz v7n 1) (yz v8n 1) v52 e' (o1++[snd b']) (o0++[fst b']))) .fail) .fail) .fail) .fail)) .fail) .fail)) .fail) .fail) (L5 v0 v1 v2 (take v7n o0) (take v8n o1) v9):=by kernel_rfl
def L6(v0:List (List UInt8×List UInt8))(v1 v2:List UInt8)(v7:List (List UInt8))(v8:List (List UInt8)):Tr:=re ((stepT EA (L4 [] [] [] 0 0 0 0 [] [])).R) (AF 238 [(0,.dat (zz (yw ze ze)) v0),(1,.dat ze v1),(2,.dat ze v2),(7,.dat (zz ze) v7),(8,.dat (zz ze) v8),(9,.bl false)] [] 0)
theorem CT(v0:List (List UInt8×List UInt8))(v1 v2:List UInt8)(v7n v8n:Nat)(v52 v53:Int)(o1:List (List UInt8))(o0:List (List UInt8)):stepT EA (L4 v0 v1 v2 v7n v8n v52 v53 o1 o0)=let a':=decide (0<=v53)&&decide (v53<(length v0:Int));let b':=getD v0 (toNat v53) ([],[]);let c':Tr:=.leaf (.bl true) ([(1,.arr false 23 ze o1),(0,.arr false 23 ze o0)]);let d':=decide (0<=3)&&decide (3<=1000);.ite (decide (v53<v52)) (.ite a' (.ite d' (.ite (!C9 (fst b') 3) c' (.ite a' (.ite d' (.ite (!C9 (snd b') 3) c' (.ite a' (.ite a' (.ite (decide (1<=1)&&true&&decide (v7n=length o0)&&decide ((2*(v7n+1)+1000)*16<=281474976710656)) (.ite (decide (1<=1)&&true&&decide (v8n=length o1)&&decide ((2*(v8n+1)+1000)*16<=281474976710656)) (L4 v0 v1 v2 (yz v7n 1) (yz v8n 1) v52 (zf .i64 (v53+1)) (o1++[snd b']) (o0++[fst b'])) .fail) .fail) .fail) .fail)) .fail) .fail)) .fail) .fail) (L6 v0 v1 v2 (take v7n o0) (take v8n o1)):=by kernel_rfl
def L7(v0:List (List UInt8×List UInt8))(v1 v2:List UInt8)(v7:List (List UInt8))(v8:List (List UInt8))(v11 v12:List UInt8):Tr:=re ((stepT EA (L5 [] [] [] [] [] false)).L.R.R.L.R.L.L.L.L.R.L.R.L.R.L.L.R) (AF 238 [(0,.dat (zz (yw ze ze)) v0),(1,.dat ze v1),(2,.dat ze v2),(7,.dat (zz ze) v7),(8,.dat (zz ze) v8),(11,.dat ze v11),(12,.dat ze v12)] [] 0)
theorem Es(v0:List (List UInt8×List UInt8))(v1 v2:List UInt8)(v7:List (List UInt8))(v8:List (List UInt8))(v9:Bool):stepT EA (L5 v0 v1 v2 v7 v8 v9)=let a':Tr:=.leaf (.bl false) ([(yz 0 1,.arr false 23 ze [Kk v0 (BR v0) (BS v0),Kk v0 v1 v2,JX v7,JX v8]),(0,.arr false 23 ze [BR v0,BS v0])]);let b':Tr:=.leaf (.bl false) ([(0,.arr false 23 ze [BR v0,BS v0])]);let c':=Kk v0 (BR v0) (BS v0);let d':=Eb (BR v0) (JX v7);.ite (qn v0) (.ite (EB v0 !=0) (.ite (EB v0==14) (.leaf (.dat Sh.bool v9) []) (.leaf (.bl false) [])) (.ite v9 (.leaf (.bl false) []) (.ite (decide (2<=2)&&true&&(decide (2<=1000000)&&qd [BR v0,BS v0] fun s=>decide (length s<=9223372036854775807))) (.ite (Cn [BR v0,BS v0] !=0) b' (.ite (Mm v0 (BR v0) (BS v0)) (.ite (Mm v0 v1 v2) (.ite (LX v7) (.ite (LX v8) (.ite (zf .i64 (zf .i64 (zf .i64 (lD v0 (BR v0) (BS v0)+lD v0 v1 v2)+fZ v7)+fZ v8) !=0) b' (.ite (decide (4<=4)&&true&&(decide (4<=1000000)&&qd [Kk v0 (BR v0) (BS v0),Kk v0 v1 v2,JX v7,JX v8] fun s=>decide (length s<=9223372036854775807))) (.ite (Cn [Kk v0 (BR v0) (BS v0),Kk v0 v1 v2,JX v7,JX v8] !=0) a' (.ite (Bk c'&&E9 (Kk v0 v1 v2)) (.ite (decide (Xd c' (Kk v0 v1 v2)>0)) a' (.ite (Bk (BR v0)&&Bk (JX v7)) (.ite (Bk d'&&Bk (BS v0)) (.ite (!Df d' (BS v0)==JX v8) a' (L7 v0 v1 v2 v7 v8 (BR v0) (BS v0))) .fail) .fail)) .fail)) .fail)) .fail) .fail) .fail) .fail)) .fail))) .fail:=by kernel_rfl
theorem Fi(v0:List (List UInt8×List UInt8))(v1 v2:List UInt8)(v7:List (List UInt8))(v8:List (List UInt8)):stepT EA (L6 v0 v1 v2 v7 v8)=let a':Tr:=.leaf (.bl false) ([(yz 0 1,.arr false 23 ze [Kk v0 (BR v0) (BS v0),Kk v0 v1 v2,JX v7,JX v8]),(0,.arr false 23 ze [BR v0,BS v0])]);let b':Tr:=.leaf (.bl false) ([(0,.arr false 23 ze [BR v0,BS v0])]);let c':=Kk v0 (BR v0) (BS v0);let d':=Eb (BR v0) (JX v7);.ite (qn v0) (.ite (EB v0 !=0) (.ite (EB v0==14) (.leaf (.bl false) []) (.leaf (.bl false) [])) (.ite (decide (2<=2)&&true&&(decide (2<=1000000)&&qd [BR v0,BS v0] fun s=>decide (length s<=9223372036854775807))) (.ite (Cn [BR v0,BS v0] !=0) b' (.ite (Mm v0 (BR v0) (BS v0)) (.ite (Mm v0 v1 v2) (.ite (LX v7) (.ite (LX v8) (.ite (zf .i64 (zf .i64 (zf .i64 (lD v0 (BR v0) (BS v0)+lD v0 v1 v2)+fZ v7)+fZ v8) !=0) b' (.ite (decide (4<=4)&&true&&(decide (4<=1000000)&&qd [Kk v0 (BR v0) (BS v0),Kk v0 v1 v2,JX v7,JX v8] fun s=>decide (length s<=9223372036854775807))) (.ite (Cn [Kk v0 (BR v0) (BS v0),Kk v0 v1 v2,JX v7,JX v8] !=0) a' (.ite (Bk c'&&E9 (Kk v0 v1 v2)) (.ite (decide (Xd c' (Kk v0 v1 v2)>0)) a' (.ite (Bk (BR v0)&&Bk (JX v7)) (.ite (Bk d'&&Bk (BS v0)) (.ite (!Df d' (BS v0)==JX v8) a' (L7 v0 v1 v2 v7 v8 (BR v0) (BS v0))) .fail) .fail)) .fail)) .fail)) .fail) .fail) .fail) .fail)) .fail)) .fail:=by kernel_rfl
def L8(v1 v2:List UInt8)(v7:List (List UInt8))(v8:List (List UInt8))(v11 v12 v22:List UInt8)(v180 v181:Int):Tr:=re ((stepT EA (L7 [] [] [] [] [] [] []))) (AF 238 [(1,.dat ze v1),(2,.dat ze v2),(7,.dat (zz ze) v7),(8,.dat (zz ze) v8),(11,.dat ze v11),(12,.dat ze v12),(22,.dat ze v22),(23,.nil),(180,.dat i64 v180),(181,.dat i64 v181)] [] 0)
theorem Ew(v0:List (List UInt8×List UInt8))(v1 v2:List UInt8)(v7:List (List UInt8))(v8:List (List UInt8))(v11 v12:List UInt8):stepT EA (L7 v0 v1 v2 v7 v8 v11 v12)=L8 v1 v2 v7 v8 v11 v12 ([(48:UInt8)]) ((length v0:Int)) 0:=by kernel_rfl
def L9(v1 v2:List UInt8)(v7:List (List UInt8))(v8:List (List UInt8))(v11 v12 v22:List UInt8)(v23n:Nat)(v180 v181:Int)(o0:List (List UInt8×List UInt8)):Tr:=re ((stepT EA (L8 [] [] [] [] [] [] [] 0 0)).L.L.L.L.L.L.L.L.L.L.L.L) (AF 238 [(1,.dat ze v1),(2,.dat ze v2),(7,.dat (zz ze) v7),(8,.dat (zz ze) v8),(11,.dat ze v11),(12,.dat ze v12),(22,.dat ze v22),(23,.sl 0 2 0 v23n none),(180,.dat i64 v180),(181,.dat i64 v181)] [(0,.arr false 26 (yw ze ze) o0)] 1)
theorem HX(v1 v2:List UInt8)(v7:List (List UInt8))(v8:List (List UInt8))(v11 v12 v22:List UInt8)(v180 v181:Int):stepT EA (L8 v1 v2 v7 v8 v11 v12 v22 v180 v181)=let a':=getD v7 (toNat v181) [];let b':=decide (0<=v181)&&decide (v181<(length v7:Int));let d':Tr:=.leaf (.bl false) [];let f':=getD v8 (toNat v181) [];let e':=Eb v11 a';let c':=Kz f' (Df e' v12);.ite (decide (v181<v180)) (.ite (decide (0<=v181)&&decide (v181<(length v8:Int))) (.ite b' (.ite (Bk v11&&Bk a') (.ite (Bk e'&&Bk v12) (.ite (Bk f'&&E9 (Df e' v12)) (.ite (Bk v22&&Bk c') (.ite b' (.ite b' (.ite (Bk v1&&Bk a') (.ite (Bk (Eb v1 a')&&Bk v2) (.ite (decide (1<=1)&&decide (0<1)&&decide ((2*1+1000)*32<=281474976710656)) (L9 v1 v2 v7 v8 v11 v12 (Df v22 c') 1 v180 (zf .i64 (v181+1)) ([(getD v7 (toNat v181) [],Df (Eb v1 a') v2)])) .fail) .fail) .fail) .fail) .fail) .fail) .fail) .fail) .fail) .fail) .fail) (.ite true (.ite (v22==[(48:UInt8)]) (.ite false (.ite (BR []==v1) (.leaf (.dat Sh.bool (BS []==v2)) []) d') d') d') .fail):=by kernel_rfl
theorem YU(v1 v2:List UInt8)(v7:List (List UInt8))(v8:List (List UInt8))(v11 v12 v22:List UInt8)(v23n:Nat)(v180 v181:Int)(o0:List (List UInt8×List UInt8)):stepT EA (L9 v1 v2 v7 v8 v11 v12 v22 v23n v180 v181 o0)=let a':=getD v7 (toNat v181) [];let b':=[(0,.arr false 26 (yw ze ze) o0)];let c':=decide (0<=v181)&&decide (v181<(length v7:Int));let f':=take v23n o0;let h':=getD v8 (toNat v181) [];let e':Tr:=.leaf (.bl false) b';let g':=Eb v11 a';let d':=Kz h' (Df g' v12);.ite (decide (v181<v180)) (.ite (decide (0<=v181)&&decide (v181<(length v8:Int))) (.ite c' (.ite (Bk v11&&Bk a') (.ite (Bk g'&&Bk v12) (.ite (Bk h'&&E9 (Df g' v12)) (.ite (Bk v22&&Bk d') (.ite c' (.ite c' (.ite (Bk v1&&Bk a') (.ite (Bk (Eb v1 a')&&Bk v2) (.ite (decide (1<=1)&&true&&decide (v23n=length o0)&&decide ((2*(v23n+1)+1000)*32<=281474976710656)) (L9 v1 v2 v7 v8 v11 v12 (Df v22 d') (yz v23n 1) v180 (zf .i64 (v181+1)) (o0++[(getD v7 (toNat v181) [],Df (Eb v1 a') v2)])) .fail) .fail) .fail) .fail) .fail) .fail) .fail) .fail) .fail) .fail) .fail) (.ite (decide (0+v23n<=length o0)&&true&&qn f') (.ite (v22==[(48:UInt8)]) (.ite (EB f'==0) (.ite (BR f'==v1) (.leaf (.dat Sh.bool (BS f'==v2)) b') e') e') e') .fail):=by kernel_rfl
end T4
end
end Go.Pe
namespace Go.Sp
theorem UY{s:List UInt8}{n:Nat}(h:C9 s (n:Int)=true):H7 s<=n:=by
 unfold C9 at h;rw[zd,zd,zd,w5,w5,w5,w5]at h;obtain⟨⟨_,f3⟩,f4⟩:=h;unfold H7;omega
theorem Yb{l:List BI}{k:Nat}(h0:l.length<=10)(hk:k<=10)(h:∀p∈l,H7 p.1<=k/\H7 p.2<=k):J3 l=true:=by
 unfold J3;rw[zd,w5,zk];refine⟨h0,fun p hp=>?_⟩;have:=h p hp;exact Go.Pe.Aa (w4 (by omega)) (w4 (by omega))
theorem RV{l:List BI}{k:Nat}(h:∀p∈l,p.1.length<=k/\p.2.length<=k):Hw k l=true:=by
 unfold Hw;rw[zk];intro p hp;exact Go.Pe.Aa (w4 (h p hp).1) (w4 (h p hp).2)
theorem Wg{l:List BI}{a b:List UInt8}{k j:Nat}(h0:l.length<=10)(ha:C0 j (Ar a))(hb:C0 j (Ar b))(h:∀p∈l,C0 k (Ar p.1)/\C0 k (Ar p.2))(hs:(2*(2*k+2*j+2)+1)*10+1<=1400):Qs (Ar a) (Ar b) (AH l)=true:=by
 unfold Qs;rw[zk];intro i _;have z:=P0 (a:=Ar a) (b:=Ar b) (k:=k) ha hb (l:=(AH l).take i) fun p hp=>by
  have hp:=List.mem_of_mem_take hp;unfold AH at hp;obtain⟨q,hq,rfl⟩:=zt.1 hp;exact h q hq
 have hl:((AH l).take i).length<=10:=by rw[qe,EO];omega
 have hm:(2*(2*k+2*j+2)+1)*((AH l).take i).length<=(2*(2*k+2*j+2)+1)*10:=Nat.mul_le_mul_left _ hl;exact(Q9 (z.mono (show _<=1400 by omega))).E9 (yr _)
end Go.Sp
namespace Go.Pe
open Go.Det
theorem Zp{a b:List UInt8}(ha:a.length<=1000000)(hb:b.length<=1000000):(decide ((2:Nat)<=2)&&true&&(decide ((2:Nat)<=1000000)&&qd [a,b] fun s=>decide (qh s<=9223372036854775807)))=true:=by
 show(decide (a.length<=9223372036854775807)&&(decide (b.length<=9223372036854775807)&&true))=true;rw[w4 (show a.length<=9223372036854775807 by omega),w4 (show b.length<=9223372036854775807 by omega)];rfl
end Go.Pe
namespace Go.Sp
theorem Wr{k:Nat}{q:Rat}(h:C0 k q)(hk:1<=k):H7 (AW q)<=k:=by
 rw[U4];have h1:=Dl h.1 hk;have h2:=Dl h.2 hk;omega
theorem TO(a b:Rat):∀l k:List (Rat×Rat),HC a b (l++k)=HC a b l+HC a b k
 |[],k=>(yh _).symm
 |p::l,k=>by
  rw[List.cons_append,HC,HC,TO a b l k];grind
theorem Rq(a b:Rat)(l:List (Rat×Rat))(p:Rat×Rat):HC a b (l++[p])=HC a b l+(p.2-(a*p.1+b)):=by
 rw[TO];show _+(_+0)=_;rw[yg]
theorem NM{e:Int}{q:Rat}{k:Nat}(he:e=0)(h:C0 k q)(hk:k<=600):jT e q=AW q/\iR e q=0:=by
 subst he;exact WR h hk
theorem dZ{α:Type}{l:List α}{i:Nat}{d:α}(h:i<l.length):l.getD i d∈l:=by
 rw[zu,zi h];exact List.getElem_mem h
def CD(a b:List UInt8)(l:List BI):List BI:=l.map fun p=>(p.1,Df (Eb a p.1) b)
theorem TN(a b:List UInt8):∀l:List BI,AH (CD a b l)=((AH l).map zw).map fun v=>(v,Ar a*v+Ar b)
 |[]=>rfl
 |p::l=>by
  have e:=TN a b l;have e2:Ar (Df (Eb a p.1) b)=Ar a*Ar p.1+Ar b:=by
   unfold Df Eb;rw[Du,Du]
  show(Ar p.1,Ar (Df (Eb a p.1) b))::AH (CD a b l)=(Ar p.1,Ar a*Ar p.1+Ar b)::_;rw[e,e2];rfl
theorem Xx:∀ {l:List BI},(∀p∈l,Az p.1=0/\Az p.2=0)->lF l=0
 |[],_=>rfl
 |p::l,h=>by
  obtain⟨h1,h2⟩:=h p (zh ..);rw[LG,Kp,h1,h2,wc (by decide)];exact Xx fun x hx=>h x (ye _ hx)
end Go.Sp
namespace Go.Pe
open Sp
open Go.Det
theorem dJ:Ey EA:=Ab jP (Ab T9.ok (Ab T10.ok (Ab T11.ok (Ab T12.ok (Ab T17.ok (Ab T15.ok (Ab T18.ok (Ab T19.ok (Ab T20.ok (Ab T21.ok AU))))))))))
abbrev IS:Ap:=J4
namespace T4
variable {Q:PV->Ob->Prop}
structure In(l:List BI)(a b:List UInt8):Prop where
 c:CY l=0
 n:l.length<=8
 pos:0<l.length
 sz:∀p∈l,Sp.H7 p.1<=3/\Sp.H7 p.2<=3
 len:∀p∈l,p.1.length<=1000000/\p.2.length<=1000000
 na:yi 3 a (Ar a)
 nb:yi 3 b (Ar b)
 ca:Az a=0
 cb:Az b=0
structure Mid(l:List BI)(a b A B S T M N:List UInt8):Prop where
 nA:yi 84 A (Bm (AH l))
 nB:yi 143 B (DS (AH l))
 pS:Mm l A B=true
 pT:Mm l a b=true
 px:LX (l.map fun p=>p.1)=true
 py:LX (l.map fun p=>p.2)=true
 nS:yi 448 S (J5 (Bm (AH l)) (DS (AH l)) (AH l))
 nT:yi 233 T (J5 (Ar a) (Ar b) (AH l))
 nM:yi 29 M (Ba ((AH l).map zw))
 nN:yi 29 N (Ba ((AH l).map yd))
 eS:Kk l A B=S/\lD l A B=0
 eT:Kk l a b=T/\lD l a b=0
 eM:JX (l.map fun p=>p.1)=M/\fZ (l.map fun p=>p.1)=0
 eN:JX (l.map fun p=>p.2)=N/\fZ (l.map fun p=>p.2)=0
variable {l:List BI}{a b:List UInt8}
theorem In.sT(h:In l a b):J3 l=true:=Yb (by have:=h.n;omega) (by decide) h.sz
theorem In.ln(h:In l a b):RF 3 8 (AH l):=S6 h.c h.n h.sz
theorem In.IM(h:In l a b):qn l=true:=by
 unfold qn;exact Aa (Aa (w4 (by have:=h.n;omega)) (RV h.len)) (by rw[h.sT,qo])
theorem Xp(h:In l a b){A B:List UInt8}{i j:Nat}(hA:yi i A (Ar A))(hB:yi j B (Ar B))(hi:1<=i/\i<=350)(hj:1<=j/\j<=560)(hs:Qs (Ar A) (Ar B) (AH l)=true):Mm l A B=true:=by
 have w1:=Wr hA.z hi.1;have w2:=Wr hB.z hj.1;rw[<-hA.t]at w1;rw[<-hB.t]at w2;unfold Mm;refine Aa (Aa (Aa (Aa (w4 (by have:=h.n;omega)) (RV h.len)) (w4 (hA.len (by omega)))) (w4 (hB.len (by omega)))) ?_;have:uY l A B=true:=Aa (Aa (Aa h.sT (w4 (by omega))) (w4 (by omega))) hs;rw[this,qo]
theorem wE(h:In l a b)(w:E8 l≠0):∃S T M N,Mid l a b (BR l) (BS l) S T M N:=by
 have ln:=h.ln;have sT:=h.sT;have e:EB l=0:=by unfold EB;rw[wc (by rw[h.c];decide),wc w]
 have ea:BR l=AW (Bm (AH l)):=by unfold BR;rw[wd e]
 have eb:BS l=AW (DS (AH l)):=by unfold BS;rw[wd e]
 have ss:=O1 ln LA XW w;have os':=jZ ln LA XW w;have hlq:=EO l;have lfx:((AH l).map zw).length=l.length:=by rw[zg,hlq]
 have lfy:((AH l).map yd).length=l.length:=by rw[zg,hlq]
 have mem1:∀q∈(AH l).map zw,C0 3 q:=fun q hq=>by obtain⟨p,hp,rfl⟩:=zt.1 hq;exact(ln.sz p hp).1
 have mem2:∀q∈(AH l).map yd,C0 3 q:=fun q hq=>by obtain⟨p,hp,rfl⟩:=zt.1 hq;exact(ln.sz p hp).2
 have mx:=G9 (n:=8) (by rw[lfx];exact h.pos) (by rw[lfx];exact h.n) mem1 LA;have my:=G9 (n:=8) (by rw[lfy];exact h.pos) (by rw[lfy];exact h.n) mem2 LA;have nA:yi 84 (BR l) (Bm (AH l)):=⟨ea,ss⟩;have nB:yi 143 (BS l) (DS (AH l)):=⟨eb,os'⟩;have rA:=nA.rat;have rB:=nB.rat;have cA:=nA.check (by decide);have cB:=nB.check (by decide);have sq:=fun i=>ZP ln (by decide) LA ss i
 have sqL:=sq (AH l).length;rw[zm]at sqL;have s1:Qs (Ar (BR l)) (Ar (BS l)) (AH l)=true:=by
  rw[rA,rB];unfold Qs;rw[zk];intro i _;exact(Q9 (sq i)).E9 (by decide)
 have hsz:∀p∈l,C0 3 (Ar p.1)/\C0 3 (Ar p.2):=fun p hp=>by
  obtain⟨d1,d2⟩:=(CL h.c).2.2 p hp;obtain⟨d3,d4⟩:=h.sz p hp;exact⟨(FU d1).z.mono d3,(FU d2).z.mono d4⟩
 have s2:=Wg (k:=3) (j:=3) (by have:=h.n;omega) h.na.z h.nb.z hsz (by decide);have sn:=P0 (k:=3) h.na.z h.nb.z (l:=AH l) ln.sz;have sn:C0 233 (J5 (Ar a) (Ar b) (AH l)):=sn.mono (by have:=h.n;rw[hlq];omega);have hck:=(CL h.c).2.2;have p1:=eE (fun p=>p.1) h.c sT fun p hp=>⟨(hck p hp).1,by have:=(h.sz p hp).1;omega,(h.len p hp).1⟩
 have p2:=eE (fun p=>p.2) h.c sT fun p hp=>⟨(hck p hp).2,by have:=(h.sz p hp).2;omega,(h.len p hp).2⟩
 rw[zd,w5]at p1 p2;have q0:ZI l (BR l) (BS l)=0:=by unfold ZI;rw[wc (by rw[h.c];decide),Kp,cA,cB,wc (by decide)]
 have q1:ZI l a b=0:=by unfold ZI;rw[wc (by rw[h.c];decide),Kp,h.ca,h.cb,wc (by decide)]
 have v0:zC l (BR l) (BS l)=J5 (Bm (AH l)) (DS (AH l)) (AH l):=by unfold zC;rw[rA,rB]
 have m1:=qW l;have m2:=pJ l;refine⟨_,_,_,_,nA,nB,Xp h (by rw[rA];exact nA) (by rw[rB];exact nB) (by decide) (by decide) s1,Xp h h.na h.nb (by decide) (by decide) s2,p1.1,p2.1,Q9 sqL,Q9 sn,Q9 mx,Q9 my,?_,?_,?_,?_⟩
 ·unfold Kk lD;rw[v0];exact NM q0 sqL (by decide)
 ·exact NM q1 sn (by decide)
 ·unfold JX fZ;rw[m1];exact NM p1.2 mx (by decide)
 ·unfold JX fZ;rw[m2];exact NM p2.2 my (by decide)
theorem Ph(a b:List UInt8){l r:List BI}{p:BI}{i:Nat}(h:l.drop i=p::r):CD a b (l.take (i+1))=CD a b (l.take i)++[(p.1,Df (Eb a p.1) b)]:=by
 rw[D9 h];unfold CD;rw[z7];rfl
theorem fin(h:In l a b)(w:E8 l≠0):qn (CD a b l)=true/\EB (CD a b l)=0/\BR (CD a b l)=a/\BS (CD a b l)=b:=by
 have hll:(CD a b l).length=l.length:=by unfold CD;exact zg ..
 have hck:=(CL h.c).2.2;have pt:∀p∈l,yi 3 p.1 (Ar p.1):=fun p hp=>(FU (hck p hp).1).mono (h.sz p hp).1
 have ny:∀p∈l,yi 10 (Df (Eb a p.1) b) (Ar a*Ar p.1+Ar b):=fun p hp=>(h.na.Eb (pt p hp)).Df h.nb
 have mem:∀q∈CD a b l,∃p∈l,q=(p.1,Df (Eb a p.1) b):=fun q hq=>by
  unfold CD at hq;obtain⟨p,hp,rfl⟩:=zt.1 hq;exact⟨p,hp,rfl⟩
 have c:CY (CD a b l)=0:=by
  unfold CY;have hne:CD a b l≠[]:=fun x=>by
   have x:=wi qh x;rw[hll]at x;exact wh (show l.length=0 from x) (by have:=h.pos;omega)
  rw[wc hne,wc (by rw[hll];have:=h.n;omega)];exact Xx fun q hq=>by
   obtain⟨p,hp,rfl⟩:=mem q hq;exact⟨(hck p hp).1,(ny p hp).check (by decide)⟩
 have sT:J3 (CD a b l)=true:=Yb (k:=10) (by rw[hll];have:=h.n;omega) (by decide) fun q hq=>by
  obtain⟨p,hp,rfl⟩:=mem q hq;have s1:=(h.sz p hp).1;have s2:=Wr (ny p hp).z (by decide);rw[<-(ny p hp).t]at s2;exact⟨show Sp.H7 p.1<=10 by omega,s2⟩
 have pF:qn (CD a b l)=true:=by
  unfold qn;refine Aa (Aa (w4 (by rw[hll];have:=h.n;omega)) (RV fun q hq=>?_)) (by rw[sT,qo]);obtain⟨p,hp,rfl⟩:=mem q hq;exact⟨(h.len p hp).1,(ny p hp).len (by decide)⟩
 have e1:=TN a b l;have hf:((AH (CD a b l)).map zw)=(AH l).map zw:=by rw[e1];exact P6 (fun v=>Ar a*v+Ar b) _
 have hw:B7 (Ba ((AH l).map zw)) (((AH l).map zw).map fun v=>(v,Ar a*v+Ar b))≠0:=by
  rw[T0];exact w
 have w2:E8 (CD a b l)≠0:=by
  unfold E8;rw[hf,e1];exact hw
 obtain⟨f1,f2⟩:=gD (by rw[zg,EO];exact h.pos) hw;rw[<-e1]at f1 f2;have e:EB (CD a b l)=0:=by unfold EB;rw[wc (by rw[c];decide),wc w2]
 refine⟨pF,e,?_,?_⟩
 ·unfold BR;rw[wd e,f1];exact h.na.t.symm
 ·unfold BS;rw[wd e,f2];exact h.nb.t.symm
theorem tI(h:In l a b)(w:E8 l≠0){A B:List UInt8}(nA:yi 84 A (Bm (AH l)))(nB:yi 143 B (DS (AH l)))(hq:∀ob,Q (.dat .bool true) ob):∀(r:List BI) (i:Nat) (v:List UInt8),l.drop i=r->i<=l.length->yi (1+236*i) v (HC (Bm (AH l)) (DS (AH l)) ((AH l).take i))->Ends EA (L9 a b (l.map fun p=>p.1) (l.map fun p=>p.2) A B v i (l.length:Int) (i:Int) (CD a b (l.take i))) Q
 |[],i,v,hd,hi,hv=>by
  have e:i=l.length:=drop_nil hd hi;subst e;obtain⟨f1,f2,f3,f4⟩:=fin h w;have hll:(CD a b l).length=l.length:=by unfold CD;exact zg ..
  have z:=Qz (l:=AH l) (by rw[EO];exact h.pos);rw[show(AH l).take l.length=AH l by rw[<-EO l,zm],z]at hv;have hv0:v=[48]:=(hv.NW (by have:=h.n;omega)).2 rfl;refine zn (YU ..) (zr (w8 (by omega)) ?_);rw[zm,show(CD a b l).take l.length=CD a b l by rw[<-hll,zm],f2,f3,f4,hv0];have ha:(a==a)=true:=by simp
  have hb:(b==b)=true:=by simp
  refine zc (Aa (Aa (w4 (by omega)) rfl) f1) (zc rfl (zc rfl (zc ha (zj ?_))));rw[hb];exact hq _
 |p::r,i,v,hd,hi,hv=>by
  obtain⟨g1,g2,g3⟩:=drop_cons (d:=(([],[]):BI)) hd;have hm:=zo (show p∈l.drop i by rw[hd];exact zh ..);have hck:=(CL h.c).2.2 p hm;have n8:=h.n;have nx:=(FU hck.1).mono (h.sz p hm).1;have ny:=(FU hck.2).mono (h.sz p hm).2;have e1:zf .i64 ((i:Int)+1)=((i+1:Nat):Int):=by rw[wr _ (by omega) (by omega)];omega
  have b1:(decide ((0:Int)<=(i:Int))&&decide ((i:Int)<((l.map fun p=>p.1).length:Int)))=true:=Aa (w4 (by omega)) (w4 (by rw[zg];omega));have b2:(decide ((0:Int)<=(i:Int))&&decide ((i:Int)<((l.map fun p=>p.2).length:Int)))=true:=Aa (w4 (by omega)) (w4 (by rw[zg];omega));have m:=nA.Eb nx;have s:=m.Df nB;have d:=ny.Kz s;have mi:=hv.Df d;have m2:=h.na.Eb nx;have et:=O7 hd;have er:HC (Bm (AH l)) (DS (AH l)) ((AH l).take (i+1))=HC (Bm (AH l)) (DS (AH l)) ((AH l).take i)+(Ar p.2-(Bm (AH l)*Ar p.1+DS (AH l))):=by rw[et,Rq]
  have nx2:=tI h w nA nB hq r (i+1) _ g3 g1 (by rw[er];exact mi.mono (by omega));rw[Ph a b hd]at nx2;have ll:(CD a b (l.take i)).length=i:=by unfold CD;rw[zg,qe];omega
  have ap:(decide ((1:Nat)<=1)&&true&&decide (i=(CD a b (l.take i)).length)&&decide (((2:Nat)*(i+1)+1000)*32<=281474976710656))=true:=by
   rw[ll];exact Aa (Aa rfl (w4 rfl)) (w4 (by omega))
  refine zn (YU ..) ?_;conv=>zeta
  rw[zl,get_map' l (fun p=>p.1) i p [] g1 g2,get_map' l (fun p=>p.2) i p [] g1 g2,e1];exact zc (w4 (by omega)) (zc b2 (zc b1 (zc (Aa (nA.num (by decide)) (nx.num (by decide))) (zc (Aa (m.num (by decide)) (nB.num (by decide))) (zc (Aa (ny.num (by decide)) (s.E9 (by decide))) (zc (Aa (hv.num (by omega)) (d.num (by decide))) (zc b1 (zc b1 (zc (Aa (h.na.num (by decide)) (nx.num (by decide))) (zc (Aa (m2.num (by decide)) (h.nb.num (by decide))) (zc ap nx2)))))))))))
theorem Aao(h:In l a b)(w:E8 l≠0){A B:List UInt8}(nA:yi 84 A (Bm (AH l)))(nB:yi 143 B (DS (AH l)))(hq:∀ob,Q (.dat .bool true) ob):Ends EA (L8 a b (l.map fun p=>p.1) (l.map fun p=>p.2) A B [48] (l.length:Int) 0) Q:=by
 obtain⟨p,r,hpr⟩:∃p r,l=p::r:=by
  cases l with
  |nil=>exact wh h.pos (by decide)
  |cons p r=>exact⟨p,r,rfl⟩
 have hd:l.drop 0=p::r:=hpr;obtain⟨g1,g2,g3⟩:=drop_cons (d:=(([],[]):BI)) hd;have hm:p∈l:=by rw[hpr];exact zh ..
 have hck:=(CL h.c).2.2 p hm;have n8:=h.n;have nx:=(FU hck.1).mono (h.sz p hm).1;have ny:=(FU hck.2).mono (h.sz p hm).2;have b1:(decide ((0:Int)<=0)&&decide ((0:Int)<((l.map fun p=>p.1).length:Int)))=true:=Aa rfl (w4 (by rw[zg];omega));have b2:(decide ((0:Int)<=0)&&decide ((0:Int)<((l.map fun p=>p.2).length:Int)))=true:=Aa rfl (w4 (by rw[zg];omega));have m:=nA.Eb nx;have s:=m.Df nB;have d:=ny.Kz s;have hv:=mC;have mi:=hv.Df d;have m2:=h.na.Eb nx;have et:=O7 hd;have er:HC (Bm (AH l)) (DS (AH l)) ((AH l).take (0+1))=0+(Ar p.2-(Bm (AH l)*Ar p.1+DS (AH l))):=by rw[et,Rq];rfl
 have nx2:=tI h w nA nB hq r (0+1) _ g3 g1 (by rw[er];exact mi.mono (by decide));rw[Ph a b hd]at nx2;refine zn (HX ..) ?_;conv=>zeta
 rw[show Int.toNat 0=0 from rfl,get_map' l (fun p=>p.1) 0 p [] g1 g2,get_map' l (fun p=>p.2) 0 p [] g1 g2];exact zc (w4 (by omega)) (zc b2 (zc b1 (zc (Aa (nA.num (by decide)) (nx.num (by decide))) (zc (Aa (m.num (by decide)) (nB.num (by decide))) (zc (Aa (ny.num (by decide)) (s.E9 (by decide))) (zc (Aa (hv.num (by omega)) (d.num (by decide))) (zc b1 (zc b1 (zc (Aa (h.na.num (by decide)) (nx.num (by decide))) (zc (Aa (m2.num (by decide)) (h.nb.num (by decide))) (zc rfl nx2)))))))))))
theorem AaT:zf .i64 (zf .i64 (zf .i64 ((0:Int)+0)+0)+0)=0:=rfl
theorem texts{k:Nat}{s:List UInt8}{q:Rat}(h:yi k s q)(hk:k<=600):s.length<=1000000/\Az s=0:=⟨h.len (by omega),h.check hk⟩
theorem tail(h:In l a b)(w:E8 l≠0)(hq:∀ob,Q (.dat .bool true) ob):
  (decide ((2:Nat)<=2)&&true&&(decide ((2:Nat)<=1000000)&&qd [BR l,BS l] fun s=>decide (qh s<=9223372036854775807)))=true/\
  (Cn [BR l,BS l] !=0)=false/\Mm l (BR l) (BS l)=true/\Mm l a b=true/\LX (l.map fun p=>p.1)=true/\LX (l.map fun p=>p.2)=true/\
  (zf .i64 (zf .i64 (zf .i64 (lD l (BR l) (BS l)+lD l a b)+fZ (l.map fun p=>p.1))+fZ (l.map fun p=>p.2)) !=0)=false/\
  (decide ((4:Nat)<=4)&&true&&(decide ((4:Nat)<=1000000)&&qd [Kk l (BR l) (BS l),Kk l a b,JX (l.map fun p=>p.1),JX (l.map fun p=>p.2)] fun s=>decide (qh s<=9223372036854775807)))=true/\
  (Cn [Kk l (BR l) (BS l),Kk l a b,JX (l.map fun p=>p.1),JX (l.map fun p=>p.2)] !=0)=false/\
  (Bk (Kk l (BR l) (BS l))&&E9 (Kk l a b))=true/\
  decide (Xd (Kk l (BR l) (BS l)) (Kk l a b)>0)=false/\
  (Bk (BR l)&&Bk (JX (l.map fun p=>p.1)))=true/\
  (Bk (Eb (BR l) (JX (l.map fun p=>p.1)))&&Bk (BS l))=true/\
  (!Df (Eb (BR l) (JX (l.map fun p=>p.1))) (BS l)==JX (l.map fun p=>p.2))=false/\
  Ends EA (L7 l a b (l.map fun p=>p.1) (l.map fun p=>p.2) (BR l) (BS l)) Q:=by
 obtain⟨S,T,M,N,m⟩:=wE h w;rw[m.eS.1,m.eS.2,m.eT.1,m.eT.2,m.eM.1,m.eM.2,m.eN.1,m.eN.2];obtain⟨a1,a2⟩:=texts m.nA (by decide);obtain⟨b1,b2⟩:=texts m.nB (by decide);obtain⟨c1,c2⟩:=texts m.nS (by decide);obtain⟨d1,d2⟩:=texts m.nT (by decide);obtain⟨e1,e2⟩:=texts m.nM (by decide);obtain⟨f1,f2⟩:=texts m.nN (by decide);have am:=m.nA.Eb m.nM;have ab:=am.Df m.nB;have pos:0<(AH l).length:=by rw[EO];exact h.pos
 refine⟨Zp a1 b1,?_,m.pS,m.pT,m.px,m.py,by rw[AaT];rfl,?_,?_,Aa (m.nS.num (by decide)) (m.nT.E9 (by decide)),?_,Aa (m.nA.num (by decide)) (m.nM.num (by decide)),Aa (am.num (by decide)) (m.nB.num (by decide)),?_,?_⟩
 ·rw[HO (l:=[BR l,BS l]) fun s hs=>by simp at hs;rcases hs with rfl|rfl<;>assumption];rfl
 ·show(decide (S.length<=9223372036854775807)&&(decide (T.length<=9223372036854775807)&&(decide (M.length<=9223372036854775807)&&(decide (N.length<=9223372036854775807)&&true))))=true;rw[w4 (show S.length<=9223372036854775807 by omega),w4 (show T.length<=9223372036854775807 by omega),w4 (show M.length<=9223372036854775807 by omega),w4 (show N.length<=9223372036854775807 by omega)];rfl
 ·rw[HO (l:=[S,T,M,N]) fun s hs=>by simp at hs;rcases hs with rfl|rfl|rfl|rfl<;>assumption];rfl
 ·rw[Sp.Nu.cmp m.nS m.nT];have le:=Zi pos w (Ar a) (Ar b);refine w8 fun x=>?_
  split at x
  ·exact wh x (by decide)
  ·split at x
   ·next k=>exact wh k (Rat.not_lt.2 le)
   ·exact wh x (by decide)
 ·have e:Df (Eb (BR l) M) (BS l)=N:=by
   refine ab.same m.nN ?_;unfold DS;grind
  rw[e];simp
 ·exact zn (Ew ..) (Aao h w m.nA m.nB hq)
def same(l:List BI)(k:List BI):Prop:=∀p∈k,p.1=(l.getD 0 ([],[])).1
theorem Pj(h:In l a b):same l l↔E8 l=0:=by
 have hck:=(CL h.c).2.2;have pos:0<(AH l).length:=by rw[EO];exact h.pos
 constructor
 ·intro hs;refine ZZ (c:=Ar (l.getD 0 ([],[])).1) pos fun q hq=>?_
  unfold AH at hq;obtain⟨p,hp,rfl⟩:=zt.1 hq;show Ar p.1=_;rw[hs p hp]
 ·intro w;have key:∀p∈l,p.1=AW (Ba ((AH l).map zw)):=fun p hp=>by
   have:=Rt w (Ar p.1,Ar p.2) (by unfold AH;exact zt.2 ⟨p,hp,rfl⟩);have e:Ar p.1=Ba ((AH l).map zw):=this;rw[<-e];exact(FU (hck p hp).1).t
  intro p hp;rw[key p hp,key _ (dZ h.pos)]
theorem zS(h:In l a b)(hs:¬same l l)(hq:∀ob,Q (.dat .bool true) ob):Ends EA (L6 l a b (l.map fun p=>p.1) (l.map fun p=>p.2)) Q:=by
 have w:E8 l≠0:=fun x=>hs ((Pj h).2 x)
 have e:EB l=0:=by unfold EB;rw[wc (by rw[h.c];decide),wc w]
 obtain⟨t1,t2,t3,t4,t5,t6,t7,t8,t9,t10,t11,t12,t13,t14,t15⟩:=tail h w hq;exact zn (Fi ..) (zc h.IM (zr (by rw[e];rfl) (zc t1 (zr t2 (zc t3 (zc t4 (zc t5 (zc t6 (zr t7 (zc t8 (zr t9 (zc t10 (zr t11 (zc t12 (zc t13 (zr t14 t15))))))))))))))))
theorem zU(h:In l a b)(v:Bool)(hv:v=true↔same l l)(hq:∀ob,Q (.dat .bool true) ob):Ends EA (L5 l a b (l.map fun p=>p.1) (l.map fun p=>p.2) v) Q:=by
 by_cases w:E8 l=0
 ·have e:EB l=14:=by unfold EB;rw[wc (by rw[h.c];decide),wd w]
  have v1:v=true:=hv.2 ((Pj h).2 w);subst v1;exact zn (Es ..) (zc h.IM (zc (by rw[e];rfl) (zc (by rw[e];rfl) (zj (hq _)))))
 ·have e:EB l=0:=by unfold EB;rw[wc (by rw[h.c];decide),wc w]
  have v1:v=false:=by
   cases v with
   |false=>rfl
   |true=>exact wh ((Pj h).1 (hv.1 rfl)) w
  subst v1;obtain⟨t1,t2,t3,t4,t5,t6,t7,t8,t9,t10,t11,t12,t13,t14,t15⟩:=tail h w hq;exact zn (Es ..) (zc h.IM (zr (by rw[e];rfl) (zr rfl (zc t1 (zr t2 (zc t3 (zc t4 (zc t5 (zc t6 (zr t7 (zc t8 (zr t9 (zc t10 (zr t11 (zc t12 (zc t13 (zr t14 t15)))))))))))))))))
abbrev S4(k:List BI):Prop:=∀p∈k,Sp.H7 p.1<=3/\Sp.H7 p.2<=3
theorem Oc{r:List BI}{p:BI}{i:Nat}(hd:l.drop i=p::r)(hf:S4 (l.take i))(f1:C9 p.1 3=true)(f2:C9 p.2 3=true):S4 (l.take (i+1)):=by
 intro q hq;rw[D9 hd,List.mem_append]at hq;rcases hq with hq|hq
 ·exact hf q hq
 ·rw[yx.1 hq];exact⟨UY (n:=3) f1,UY (n:=3) f2⟩
theorem Jx{r:List BI}{p:BI}{i:Nat}(hd:l.drop i=p::r)(k:List BI):same k (l.take (i+1))↔same k (l.take i)/\p.1=(k.getD 0 ([],[])).1:=by
 rw[D9 hd];constructor
 ·intro h;exact⟨fun q hq=>h q (yt _ hq),h p (yc _ (yx.2 rfl))⟩
 ·rintro⟨h1,h2⟩ q hq;rcases List.mem_append.1 hq with hq|hq
  ·exact h1 q hq
  ·rw[yx.1 hq];exact h2
theorem R9(l:List BI){i:Nat}(hi:i<=l.length)(h8:l.length<=8)(f:BI->List UInt8):(decide ((1:Nat)<=1)&&true&&decide (i=((l.take i).map f).length)&&decide (((2:Nat)*(i+1)+1000)*16<=281474976710656))=true:=by
 rw[zg,qe,Nat.min_eq_left hi];exact Aa (Aa rfl (w4 rfl)) (w4 (by omega))
theorem sU(h8:l.length<=8)(hb:∀ob,Q (.bl true) ob)(hq:S4 l->¬same l l->Ends EA (L6 l a b (l.map fun p=>p.1) (l.map fun p=>p.2)) Q):∀(r:List BI) (i:Nat),l.drop i=r->i<=l.length->S4 (l.take i)->¬same l (l.take i)->Ends EA (L4 l a b i i (l.length:Int) (i:Int) ((l.take i).map fun p=>p.2) ((l.take i).map fun p=>p.1)) Q
 |[],i,hd,hi,hf,hs=>by
  have e:i=l.length:=drop_nil hd hi;subst e;rw[zm]at hf hs;have tk:∀f:BI->List UInt8,(l.map f).take l.length=l.map f:=fun f=>yj (by rw[zg];exact yr _)
  refine zn (CT ..) (zr (w8 (by omega)) ?_);rw[zm,tk,tk];exact hq hf hs
 |p::r,i,hd,hi,hf,hs=>by
  obtain⟨g1,g2,g3⟩:=drop_cons (d:=(([],[]):BI)) hd;have e1:zf .i64 ((i:Int)+1)=((i+1:Nat):Int):=by rw[wr _ (by omega) (by omega)];omega
  have bd:(decide ((0:Int)<=(i:Int))&&decide ((i:Int)<(l.length:Int)))=true:=Aa (w4 (by omega)) (w4 (by omega));refine zn (CT ..) ?_;conv=>zeta
  rw[zl,g2,e1];refine zc (w4 (by omega)) (zc bd (zc rfl (z8 (fun _=>zj (hb _)) (fun f1=>zc bd (zc rfl (z8 (fun _=>zj (hb _)) (fun f2=>zc bd (zc bd (zc (R9 l hi h8 _) (zc (R9 l hi h8 _) ?_))))))))));have f1:C9 p.1 3=true:=by
   have f1:(!C9 p.1 3)=false:=f1;simpa using f1
  have f2:C9 p.2 3=true:=by
   have f2:(!C9 p.2 3)=false:=f2;simpa using f2
  have nx:=sU h8 hb hq r (i+1) g3 g1 (Oc hd hf f1 f2) fun x=>hs ((Jx hd l).1 x).1
  rw[D9 hd,z7,z7]at nx;exact nx
theorem tB(h8:l.length<=8)(hb:∀ob,Q (.bl true) ob)(hq5:S4 l->∀v:Bool,(v=true↔same l l)->Ends EA (L5 l a b (l.map fun p=>p.1) (l.map fun p=>p.2) v) Q)(hq:S4 l->¬same l l->Ends EA (L6 l a b (l.map fun p=>p.1) (l.map fun p=>p.2)) Q):∀(r:List BI) (i:Nat) (v:Bool),l.drop i=r->i<=l.length->S4 (l.take i)->(v=true↔same l (l.take i))->Ends EA (L2 l a b i i v (l.length:Int) (i:Int) ((l.take i).map fun p=>p.2) ((l.take i).map fun p=>p.1)) Q
 |[],i,v,hd,hi,hf,hv=>by
  have e:i=l.length:=drop_nil hd hi;subst e;rw[zm]at hf hv;have tk:∀f:BI->List UInt8,(l.map f).take l.length=l.map f:=fun f=>yj (by rw[zg];exact yr _)
  refine zn (AV ..) (zr (w8 (by omega)) ?_);rw[zm,tk,tk];exact hq5 hf v hv
 |p::r,i,v,hd,hi,hf,hv=>by
  obtain⟨g1,g2,g3⟩:=drop_cons (d:=(([],[]):BI)) hd;have e1:zf .i64 ((i:Int)+1)=((i+1:Nat):Int):=by rw[wr _ (by omega) (by omega)];omega
  have bd:(decide ((0:Int)<=(i:Int))&&decide ((i:Int)<(l.length:Int)))=true:=Aa (w4 (by omega)) (w4 (by omega));refine zn (AV ..) ?_;conv=>zeta
  rw[zl,g2,e1];refine zc (w4 (by omega)) (zc bd (zc rfl (z8 (fun _=>zj (hb _)) (fun f1=>zc bd (zc rfl (z8 (fun _=>zj (hb _)) (fun f2=>zc bd (zc bd (zc (R9 l hi h8 _) (zc (R9 l hi h8 _) ?_))))))))));have f1:C9 p.1 3=true:=by
   have f1:(!C9 p.1 3)=false:=f1;simpa using f1
  have f2:C9 p.2 3=true:=by
   have f2:(!C9 p.2 3)=false:=f2;simpa using f2
  have fw:=Oc hd hf f1 f2;refine z8 (fun k=>zc bd (zc (w4 (by omega)) ?_)) (fun k=>?_)
  ·have nx:=tB h8 hb hq5 hq r (i+1) (p.1==(l.getD 0 ([],[])).1) g3 g1 fw (by
    rw[Jx hd l];have:=hv.1 k;constructor
    ·intro x;exact⟨this,by simpa using x⟩
    ·rintro⟨_,x⟩;rw[x];simp)
   rw[D9 hd,z7,z7]at nx;exact nx
  ·have nx:=sU h8 hb hq r (i+1) g3 g1 fw fun x=>by
    have:=hv.2 ((Jx hd l).1 x).1;rw[k]at this;cases this
   rw[D9 hd,z7,z7]at nx;exact nx
theorem ok:Ag Bi 4 IS:=by
 refine Cc dJ (fun(i:List BI×List UInt8×List UInt8) hi=>?_);obtain⟨l,a,b⟩:=i;have hi:Hw 9223372036854775807 l=true:=hi;have hq:∀ob,Ad J4 (l,a,b) (.dat .bool true) ob:=fun ob=>yy rfl rfl rfl
 have hqb:∀ob,Ad J4 (l,a,b) (.bl true) ob:=fun ob=>yy rfl rfl rfl
 refine yv (An l a b) (zc rfl (zr rfl (z8 (fun _=>zc rfl (zj (hq _))) (fun c1=>?_))));have c1:=w7 c1;refine zc (Aa (w4 (by omega)) hi) (z8 (fun _=>zc rfl (zj (hq _))) (fun c2=>zc rfl (z8 (fun _=>zc rfl (zj (hq _))) (fun c3=>zc rfl (z8 (fun _=>zc rfl (zj (hq _))) (fun c4=>?_))))));have c:CY l=0:=by simpa using c2
 have fa:C9 a ((3:Nat):Int)=true:=by
  have c3:(!C9 a 3)=false:=c3;simpa using c3
 have fb:C9 b ((3:Nat):Int)=true:=by
  have c4:(!C9 b 3)=false:=c4;simpa using c4
 obtain⟨na,ca⟩:=fD fa;obtain⟨nb,cb⟩:=fD fb;obtain⟨hne,_,hck⟩:=CL c;have hpos:0<l.length:=yu.2 hne;have hin:S4 l->In l a b:=fun hf=>⟨c,by omega,hpos,hf,fun p hp=>⟨(TJ (hck p hp).1).len (by decide),(TJ (hck p hp).2).len (by decide)⟩,na,nb,ca,cb⟩
 obtain⟨p,r,hpr⟩:∃p r,l=p::r:=by
  cases l with
  |nil=>exact wh rfl hne
  |cons p r=>exact⟨p,r,rfl⟩
 have hd:l.drop 0=p::r:=hpr;obtain⟨g1,g2,g3⟩:=drop_cons (d:=(([],[]):BI)) hd;have bd:(decide ((0:Int)<=0)&&decide ((0:Int)<(l.length:Int)))=true:=Aa rfl (w4 (by omega));have e1:zf .i64 ((0:Int)+1)=1:=rfl;refine zn (Au ..) ?_;conv=>zeta
 rw[show Int.toNat 0=0 from rfl,g2,e1];refine zc (w4 (by omega)) (zc bd (zc rfl (z8 (fun _=>zj (hqb _)) (fun f1=>zc bd (zc rfl (z8 (fun _=>zj (hqb _)) (fun f2=>zc bd (zc bd (zc rfl (zc rfl (zc bd (zc (w4 (by omega)) ?_))))))))))));have f1:C9 p.1 3=true:=by
  have f1:(!C9 p.1 3)=false:=f1;simpa using f1
 have f2:C9 p.2 3=true:=by
  have f2:(!C9 p.2 3)=false:=f2;simpa using f2
 have fw:S4 (l.take (0+1)):=Oc hd (fun q hq'=>by rw[qi]at hq';cases hq') f1 f2;have nx:=tB (Q:=Ad J4 (l,a,b)) (a:=a) (b:=b) (by omega) hqb (fun hf v hv=>zU (hin hf) v hv hq) (fun hf hs=>zS (hin hf) hs hq) r (0+1) (p.1==p.1) g3 g1 fw (by
  rw[Jx hd l];constructor
  ·intro _;exact⟨fun q hq'=>(by rw[qi]at hq';cases hq'),by rw[g2]⟩
  ·intro _;simp)
 rw[D9 hd,qi,List.nil_append]at nx;exact nx
end T4
end Go.Pe
namespace Go.Det
open Go.ChangeShapes Go.WideShapes Go.RowKit
theorem B8{α β:Type}{f g:α->Option β}:∀ {l:List α} {ys:List β},l.mapM f=some ys->(∀a∈l,∀y∈ys,f a=some y->g a=some y)->l.mapM g=some ys
 |[],ys,h,_=>by simpa using h
 |a::l,ys,h,hg=>by
  rw[List.mapM_cons]at h ⊢;cases hf:f a with
  |none=>rw[hf]at h;cases h
  |some y=>
   rw[hf]at h;cases hl:l.mapM f with
   |none=>rw[hl]at h;cases h
   |some zs=>
    rw[hl]at h;cases h;rw[hg a (by simp) y (by simp) hf,B8 hl (fun b hb z hz hfz=>hg b (by simp[hb]) z (by simp[hz]) hfz)];rfl
def jN(P:Program)(L:List TypeId)(t:TypeId):Bool:=match P.underlying t with
 |some (.pointer e)|some (.array _ e)|some (.map _ e)=>L.contains e
 |some (.slice e)=>L.contains e&&Nat.ble 1 (P.cellsOf e)
 |some (.struct fs)=>fs.toList.all fun f=>L.contains f.type
 |_=>true
def Lr(P:Program)(L:List TypeId):Bool:=L.all (jN P L)
section
variable {H:Type}{enc:TypeId×Value->H}{P:Program}{W W':World}
theorem nQ{L:List TypeId}(h:Lr P L=true){t:TypeId}(ht:t∈L):jN P L t=true:=zk.1 h t ht
theorem WE(hb:Below W.heap.size W W'){a:Addr}{v:Value}(h:W.cell? a=some v):W'.cell? a=some v:=by
 have hl:a.block<W.heap.size:=by
  unfold qj at h;by_cases hh:a.block<W.heap.size
  ·exact hh
  ·rw[yb (by omega)]at h;cases h
 unfold qj at h ⊢;rw[hb.block _ hl];exact h
theorem TU(hb:Below W.heap.size W W'){a:Addr}{n:Nat}{cs:List Value}(h:W.cells? 0 a n=some cs):W'.cells? 0 a n=some cs:=by
 unfold World.cells? at h ⊢;rw[wd (z6 _)]at h ⊢;exact B8 h fun i _ v _ hv=>WE hb hv
theorem GZ(hb:Below W.heap.size W W'){β:Type}{a:Addr}{n:Nat}{f g:List Value->Option β}{y:β}(h:(W.cells? 0 a n).bind f=some y)(hfg:∀cs,f cs=some y->g cs=some y):(W'.cells? 0 a n).bind g=some y:=by
 cases hc:W.cells? 0 a n with
 |none=>rw[hc]at h;cases h
 |some cs=>
  rw[hc]at h;rw[TU hb hc];exact hfg cs h
theorem P7(hb:Below W.heap.size W W'){L:List TypeId}(hz:Lr P L=true){sp:Nat->Bool}:∀(fuel:Nat) (t:TypeId) (cs:List Value) (x:DataW H×List MemPlace),t∈L->
  zq enc P W 0 (fun _=>true) true fuel t cs=some x->(∀p∈x.2,sp p.block=true)->zq enc P W' 0 sp true fuel t cs=some x
 |0,_,_,_,_,h,_=>by cases h
 |fuel+1,t,cs,x,ht,h,hs=>by
  have ih:=P7 hb hz (sp:=sp) fuel;have hk:=nQ hz ht;unfold jN at hk;unfold zq at h ⊢;split at h<;>try simp only[reduceCtorEq]at h
  all_goals try exact h
  case h_6 e a hu=>
   have hke:e∈L:=by rw[hu]at hk;simpa using hk
   cases hm:(W.cells? 0 a (P.cellsOf e)).bind (zq enc P W 0 (fun _=>true) true fuel e)with
   |none=>rw[hm]at h;cases h
   |some y=>
    rw[hm]at h;cases h;rw[GZ hb hm (g:=zq enc P W' 0 sp true fuel e) (fun cs hc=>ih e cs y hke hc (fun p hp=>hs p (by simp[hp])))];rfl
  case h_8 e a len cap hu=>
   have hke:e∈L/\P.cellsOf e≠0:=by
    rw[hu]at hk;simp only[zd,List.contains_iff_mem]at hk;have:=yo hk.2;exact⟨hk.1,by omega⟩
   by_cases hc:0<=a.block/\len<=cap/\cap<=maxLen
   ·rw[wd hc]at h ⊢;have step:∀(i:Nat) (y:DataW H×List MemPlace),(W.cells? 0 (a.add (i*P.cellsOf e)) (P.cellsOf e)).bind (zq enc P W 0 (fun _=>true) true fuel e)=some y->(∀p∈y.2,sp p.block=true)->
      (W'.cells? 0 (a.add (i*P.cellsOf e)) (P.cellsOf e)).bind (zq enc P W' 0 sp true fuel e)=some y:=fun i y hy hp=>GZ hb hy fun cs hc=>ih e cs y hke.1 hc hp
    cases h1:(ql len).mapM (fun i=>(W.cells? 0 (a.add (i*P.cellsOf e)) (P.cellsOf e)).bind (zq enc P W 0 (fun _=>true) true fuel e))with
    |none=>rw[h1]at h;cases h
    |some ys=>
     rw[h1]at h;simp only[wk,ya]at h;cases h2:(ql (cap-len)).mapM (fun j=>(W.cells? 0 (a.add ((len+j)*P.cellsOf e)) (P.cellsOf e)).bind (zq enc P W 0 (fun _=>true) true fuel e))with
     |none=>rw[h2]at h;cases h
     |some zs=>
      rw[h2]at h;cases h;rw[B8 h1 fun i _ y hy hi=>step i y hi fun p hp=>hs p (yc _ (yf.2 ⟨y,yt _ hy,hp⟩))];have h2':=B8 h2 fun j _ y hy hj=>step (len+j) y hj fun p hp=>hs p (yc _ (yf.2 ⟨y,yc _ hy,hp⟩))
      by_cases hsp:sp a.block=true
      ·simp only[hsp,wk,ya];rw[h2'];rfl
      ·have e0:(ys.length+zs.length)*P.cellsOf e=0:=by
        rcases Nat.eq_zero_or_pos ((ys.length+zs.length)*P.cellsOf e)with h0|h0
        ·exact h0
        ·refine wh (hs (.cell a.block (a.off+0)) (yt _ ?_)) hsp;simp only[MemPlace.row,zt,List.mem_range];exact⟨0,h0,rfl⟩
       have e1:zs=[]:=by
        rcases Nat.mul_eq_zero.1 e0 with h0|h0
        ·exact List.length_eq_zero_iff.1 (by omega)
        ·exact wh h0 hke.2
       subst e1;simp only[hsp,ya];rfl
   ·rw[wc hc]at h;cases h
  case h_9 cs _ _ fs hu=>
   have hke:∀f∈fs.toList,f.type∈L:=by
    rw[hu]at hk;intro f hf;have:=zk.1 hk f hf;simpa using this
   by_cases hc:cs.length=P.cellsOf t
   ·rw[wd hc]at h ⊢;cases h1:fs.toList.mapM (fun f=>zq enc P W 0 (fun _=>true) true fuel f.type ((cs.drop f.offset).take (P.cellsOf f.type)))with
    |none=>rw[h1]at h;cases h
    |some ys=>
     rw[h1]at h;cases h;rw[B8 h1 fun f hfm y hy hf=>ih _ _ y (hke f hfm) hf fun p hp=>hs p (yf.2 ⟨y,hy,hp⟩)];rfl
   ·rw[wc hc]at h;cases h
  case h_10 cs _ _ n e hu=>
   have hke:e∈L:=by rw[hu]at hk;simpa using hk
   by_cases hc:cs.length=P.cellsOf t
   ·rw[wd hc]at h ⊢;cases h1:(ql n).mapM (fun i=>zq enc P W 0 (fun _=>true) true fuel e ((cs.drop (i*P.cellsOf e)).take (P.cellsOf e)))with
    |none=>rw[h1]at h;cases h
    |some ys=>
     rw[h1]at h;cases h;rw[B8 h1 fun f _ y hy hf=>ih _ _ y hke hf fun p hp=>hs p (yf.2 ⟨y,hy,hp⟩)];rfl
   ·rw[wc hc]at h;cases h
  case h_14 k e b hu=>
   have hke:e∈L:=by rw[hu]at hk;simpa using hk
   have hl:b<W.heap.size:=by
    by_cases hh:b<W.heap.size
    ·exact hh
    ·rw[yb (by omega)]at h;cases h
   rw[hb.block _ hl];split at h
   case h_2=>cases h
   rename_i es clock hes;simp only;split at h
   case isFalse=>cases h
   rename_i hcond;rw[wd hcond];cases h1:(es.toList.mapM fun x=>(keyOf P k x.key).bind fun key=>if x.val.formed P e then(zq enc P W 0 (fun _=>true) true fuel e x.val.cells.toList).map fun y=>((key,y.1),y.2)else none)with
   |none=>rw[h1]at h;cases h
   |some ys=>
    rw[h1]at h;simp only[ya]at h;split at h
    case isFalse=>cases h
    rename_i hri;cases h;rw[B8 h1 fun en _ y hy hf=>?_]
    ·simp only[ya];rw[wd hri]
    ·cases hk:keyOf P k en.key with
     |none=>rw[hk]at hf;cases hf
     |some key=>
      rw[hk]at hf;simp only[ya]at hf ⊢;split at hf
      case isFalse=>cases hf
      rename_i hfo;rw[wd hfo];cases htt:zq enc P W 0 (fun _=>true) true fuel e en.val.cells.toList with
      |none=>rw[htt]at hf;cases hf
      |some u=>
       rw[htt]at hf;cases hf;rw[ih _ _ u hke htt fun p hp=>hs p (by simp only[y8,yf];exact .inr ⟨_,hy,hp⟩)];rfl
theorem WI(hb:Below W.heap.size W W'){L:List TypeId}(hz:Lr P L=true){sp:Nat->Bool}{t:TypeId}{v:Value}{d:DataW H}{p:List MemPlace}
  (ht:t∈L) (h:qm enc P W 0 (fun _=>true) true t v d p) (hs:∀q∈p,sp q.block=true):qm enc P W' 0 sp true t v d p:=by
 obtain⟨fuel,hf⟩:=h;exact⟨fuel,P7 hb hz fuel t _ _ ht hf hs⟩
theorem GD(hb:Below W.heap.size W W'){L:List TypeId}(hz:Lr P L=true){sp:Nat->Bool}:∀ {ts:List TypeId} {vs:List Value} {ds:List (DataW H)} {p:List MemPlace},(∀t∈ts,t∈L)->
  yq enc P W 0 (fun _=>true) true ts vs ds p->(∀q∈p,sp q.block=true)->yq enc P W' 0 sp true ts vs ds p
 |[],vs,ds,p,_,h,_=>by
  obtain⟨rfl,rfl,rfl⟩:=trodAll_nil h;rfl
 |t::ts,vs,ds,p,hl,h,hs=>by
  obtain⟨v,vs1,d,ds1,a,b,rfl,rfl,rfl,h1,h2⟩:=trodAll_cons h;exact⟨a,b,WI hb hz (hl t (by simp)) h1 (fun q hq=>hs q (by simp[hq])),GD hb hz (fun u hu=>hl u (by simp[hu])) h2 (fun q hq=>hs q (by simp[hq])),rfl⟩
theorem ZO{f:Func}{s:ChangeSpec}{apart fresh handsOn again:Bool}{args:Array Value}{ds gs:List (DataW H)}{before:List MemPlace}{tb:TypeId}
  (hW:DataW.Whole enc P f.params.toList s.vars apart W args.toList ds gs before) (hv:s.vars=[]) (hr:f.resultTypes= #[tb]) (ht:P.underlying tb=some .bool)
  (hfn:s.fn H ds={ results:=[.lit (.bool true)],args:=ds }) (hb:Below W.heap.size W W') {L:List TypeId} (hz:Lr P L=true) (hl:f.params.toList.all L.contains=true):
  s.post enc P f apart fresh handsOn again W args (.bool true) W':=by
 have hlt:=hW.lt;have hl:∀t∈f.params.toList,t∈L:=fun t ht=>by have:=zk.1 hl t ht;simpa using this
 obtain⟨p,q,hA,hV,rfl,hfz,hnd⟩:=hW;have hV':=hV;rw[hv]at hV';obtain⟨rfl,rfl⟩:=trodVars_none hV';simp only[List.append_nil]at hlt hfz hnd ⊢;have hold:∀x∈p,(fun b=>decide (b<W.heap.size)) x.block=true:=fun x hx=>by simpa using hlt x hx
 have hW0:DataW.Whole enc P f.params.toList s.vars apart W args.toList ds [] p:=⟨p,[],hA,hV,by simp,hfz,hnd⟩;have hres:∀(b:Nat) (sp:Nat->Bool) (hd:Bool),yq enc P W' b sp hd f.resultTypes.toList ((Value.bool true).resultList f.resultTypes.size) [.lit (.bool true)] []:=by
  intro b sp hd;rw[hr];exact⟨[],[],shut_bool ht true,rfl,rfl⟩
 have hok:∀(j:Nat) (t:TypeId) (r:Value),f.resultTypes[j]?=some t->((Value.bool true).resultList f.resultTypes.size)[j]?=some r->yk P W' .any 0 t r:=by
  exact ok_one hr rfl (okWide_bool_mk ht true)
 have hvars:∀sp:Nat->Bool,DataW.TrodVars enc P W' sp s.vars [] []:=fun sp=>by rw[hv];rfl
 have hfn:s.fn H (ds++[])={ results:=[.lit (.bool true)],args:=ds }:=by rw[List.append_nil];exact hfn
 refine⟨ds,[],p,[],p,[],hW0,?_,?_,?_,World.keptBut_mono (fun x hx=>⟨hx,.inr (.inl hx)⟩) (hb.frame (· ∈p)),fun _=>?_⟩
 ·rw[hfn];exact hres _ _ _
 ·rw[hfn];exact GD hb hz hl hA hold
 ·rw[hfn];exact hvars _
 ·refine⟨hok,_,_,([]++p)++[],⟨[]++p,[],trodAll_append (GD hb hz hl hA (fun _ _=>rfl)) (hres _ _ _),hvars _,rfl,?_,?_⟩,?_⟩
  ·intro b off hp;have hp:MemPlace.cell b off∈p:=by simpa using hp
   rw[hb.frozen (show b<W.heap.size from hlt _ hp)];exact hfz b off hp
  ·intro ha;simpa using hnd ha
  ·intro x hx _;simpa using hx
end
end Go.Det
namespace Go.Det
def NK(k:Nat):Value->V
 | .bool b=>.bool b
 | .int q n=>.int q n
 | .string s=>.str s.data.toList
 | .pointer none=>.nilp
 | .slice none 0 0=>.nils
 | .slice (some _) 0 0=>.es0
 | .slice (some ⟨r,off,none⟩) len cap=>if r<k/\len<=cap then .sl r off len cap 0 else .junk
 | .map none=>.nilm
 | .nilFunc=>.nilf
 | .nilIface=>.nili
 |_=>.junk
def H7(W:World)(r:Nat):Nat:=match W.heap[r]? with
 |some (.cells c _ _)=>c.size
 |_=>0
def pW(W:World):Pl:=(ql W.heap.size).map fun r=>(r,H7 W r)
theorem Md{W:World}{r:Nat}(h:r<W.heap.size):(pW W)[r]?=some (r,H7 W r):=by
 simp[pW,h]
def Pm(W:World)(r:Nat):Option O:=match W.heap[r]? with
 |some (.cells c t _)=>if c.size=0 then none else some (.cells (c.toList.map (NK W.heap.size)) t (0,c.size))
 |_=>none
def Y7(W:World):Nat->H
 |0=>⟨.leaf,0⟩
 |n+1=>⟨(Y7 W n).m.set n (Pm W n),n+1⟩
theorem lZ(W:World):∀n,(Y7 W n).nx=n
 |0=>rfl
 |_+1=>rfl
theorem TX(W:World):∀(n b:Nat),(Y7 W n).get b=if b<n then Pm W b else none
 |0,b=>by simp[Y7,H.get]
 |n+1,b=>by
  have ih:=TX W n b;unfold H.get at ih ⊢;simp only[Y7,PM.Db];by_cases e:b=n
  ·subst e;simp
  ·rw[wc e,ih];by_cases h:b<n
   ·rw[wd h,wd (by omega)]
   ·rw[wc h,wc (by omega)]
def hW(W:World):H:=Y7 W W.heap.size
theorem Oy(W:World)(b:Nat):(hW W).get b=Pm W b:=by
 unfold hW;rw[TX];by_cases h:b<W.heap.size
 ·rw[wd h]
 ·rw[wc h];unfold Pm;rw[yb (by omega)]
theorem SQ{W:World}{v:Value}(h:(NK W.heap.size v).ok=true):Ac (pW W) (NK W.heap.size v) v:=by
 revert h;unfold NK;split<;>intro h
 case h_6=>simp only[Ac];exact⟨_,rfl⟩
 case h_7 r off len cap _=>
  split
  ·rename_i hc;simp only[Ac];exact⟨r,_,cap,Md hc.1,rfl,hc.2,yr _,fun _=>rfl,fun e=>wh rfl e⟩
  ·rename_i hc;rw[wc hc]at h;cases h
 case h_11=>cases h
 all_goals simp only[Ac]
 all_goals rfl
theorem R_W(W:World):R (pW W) (hW W) W:=by
 refine⟨by simp[pW,hW,lZ],fun b o hb=>?_,fun b b' o o' r n n' hb hb' h1 h2=>?_⟩
 ·rw[Oy]at hb;unfold Pm at hb;split at hb
  case h_2=>cases hb
  rename_i c t fz hc;split at hb
  case isTrue=>cases hb
  cases hb;have hlt:b<W.heap.size:=(zp.1 hc).1;have hs:H7 W b=c.size:=by unfold H7;rw[hc]
  refine⟨b,c.size,_,by rw[Md hlt,hs],hc,c,fz,rfl,rfl,by simp,⟨by simp,fun i d v hd hv hok=>?_⟩,fun i hi h1 h2=>⟨z6 _,hi⟩⟩;rw[List.getElem?_map]at hd;rw[zg,y9 (by have:=(List.getElem?_eq_some_iff.1 hv).1;simp at this;simpa using this)]at hv;rw[hv]at hd;cases hd;exact SQ hok
 ·have key:∀b o r n,(hW W).get b=some o->(pW W)[b]?=some (r,n)->r=b:=by
   intro b o r n hb h1;rw[Oy]at hb;have hlt:b<W.heap.size:=by
    unfold Pm at hb;by_cases h:b<W.heap.size
    ·exact h
    ·rw[yb (by omega)]at hb;cases hb
   rw[Md hlt]at h1;cases h1;rfl
  rw[<-key b o r n hb h1, <-key b' o' r n' hb' h2]
theorem qE{W W':World}{p':Pl}{h':H}(he:Ext (pW W) (hW W) W p' h' W'):RowKit.Below W.heap.size W W':=by
 refine⟨he.os,he.tape,he.out,he.size,fun k hk=>?_⟩;by_cases hi:Im (pW W) (hW W) k
 ·obtain⟨b,o,n,h1,h2⟩:=hi;have h1':=h1;rw[Oy]at h1';unfold Pm at h1';split at h1'
  case h_2=>cases h1'
  rename_i c t fz hc;split at h1'
  case isTrue=>cases h1'
  rename_i h0;cases h1';have hlt:b<W.heap.size:=(zp.1 hc).1;have hs:H7 W b=c.size:=by unfold H7;rw[hc]
  rw[Md hlt,hs]at h2;cases h2;exact(he.lock _ hk ⟨_,_,_,_,_,h1,by rw[Md hlt,hs],rfl,yr _,Nat.pos_of_ne_zero h0⟩).1
 ·exact he.same k hk hi
end Go.Det
namespace Go.Pe
open Go.Det
def FW(W:World):Fz:=fun b=>match (hW W).get b with
 |some (.cells cs _ _)=>some cs
 |_=>none
def Vd:(s:Sh)->s.T->Prop
 | .int k,x=>k.min<=(x:Int)/\(x:Int)<=k.max
 | .bool,_=>True
 | .str,x=>(x:List UInt8).length<=maxLen
 | .list s,l=>(l:List s.T).length<=maxLen/\∀x∈(l:List s.T),Vd s x
 | .pair a b,x=>Vd a x.1/\Vd b x.2
 | .unit,_=>True
 | .nlist _,_=>True
 | .fnv,_=>True
 | .ptr _,_=>True
def iS(P:Program)(f:TypeId->Option Sh):Nat->List Field->Option Sh
 |_,[]=>some .unit
 |o,[x]=>match f x.type with
  |some s=>bif yn x.offset o&&yn (P.cellsOf x.type) s.sz then some s else none
  |none=>none
 |o,x::y::l=>match f x.type with
  |some s=>bif yn x.offset o&&yn (P.cellsOf x.type) s.sz then(iS P f (o+s.sz) (y::l)).map (.pair s)else none
  |none=>none
def yM(P:Program):Nat->TypeId->Option Sh
 |0,_=>none
 |f+1,t=>match P.underlying t with
  |some (.int k)=>some (.int k)
  |some .bool=>some .bool
  |some .string=>some .str
  |some (.slice e)=>match yM P f e with
   |some s=>bif yn (P.cellsOf e) s.sz&&Nat.blt 0 s.sz then some (.list s)else none
   |none=>none
  |some (.struct fs)=>match iS P (yM P f) 0 fs.toList with
   |some s=>bif yn (P.cellsOf t) s.sz then some s else none
   |none=>none
  |_=>none
section
variable {H:Type}{enc:TypeId×Value->H}{P:Program}{W:World}
theorem kQ{r:Nat}{c:Array Value}{t:TypeId}{fz:Nat×Nat}(h:W.heap[r]?=some (.cells c t fz))(h0:c.size≠0):FW W r=some (c.toList.map (NK W.heap.size)):=by
 unfold FW;rw[Oy];unfold Pm;rw[h];simp only[wc h0]
theorem Qy{a:Addr}{n:Nat}{cs:List Value}(h:W.cells? 0 a n=some cs)(hn:0<n):
  ∃c t fz,W.heap[a.block]?=some (.cells c t fz)/\a.spot=none/\a.off+n<=c.size/\cs=(c.toList.drop a.off).take n:=by
 unfold World.cells? at h;rw[wd (z6 _)]at h;have hl:=mapM_some_length h;have hg:=mapM_some_get h;simp only[List.length_range]at hl;have h0:=hg 0 0 (by simp[hn]);have ha0:a.add 0=a:=by simp[qp]
 rw[ha0]at h0;obtain⟨v0,hv0⟩:∃v,cs[0]?=some v:=⟨cs[0],zi (by omega)⟩;rw[hv0]at h0;unfold qj at h0;split at h0
 case h_2=>cases h0
 rename_i c t fz hb;split at h0
 case isTrue=>cases h0
 rename_i hs;have hs:a.spot=none:=by simpa using hs
 have hc:∀i,i<n->c[a.off+i]?=cs[i]?:=by
  intro i hi;have:=hg i i (by simp[hi]);unfold qj at this;have hb':(a.add i).block=a.block:=by unfold qp;split<;>rfl
  have hs':(a.add i).spot=none:=by unfold qp;split<;>simp[hs]
  have ho':(a.add i).off=a.off+i:=by unfold qp;split<;>simp_all
  rw[hb',hb]at this;simpa [hs',ho']using this
 refine⟨c,t,fz,hb,hs,?_,?_⟩
 ·have:=hc (n-1) (by omega);rw[zi (by omega)]at this;have:=(zp.1 this).1;omega
 ·apply List.ext_getElem?;intro i;by_cases hi:i<n
  ·rw[<-hc i hi,y9 hi,List.getElem?_drop];simp
  ·rw[List.getElem?_eq_none (by omega),List.getElem?_eq_none (by simp;omega)]
theorem X2{α:Type}{p:Nat->α->Prop}:∀n:Nat,(∀i,i<n->∃x,p i x)->∃l:List α,l.length=n/\∀i (h:i<l.length),p i l[i]
 |0,_=>⟨[],rfl,fun i h=>wh h (Nat.not_lt_zero _)⟩
 |n+1,h=>by
  obtain⟨l,h1,h2⟩:=X2 n fun i hi=>h i (by omega)
  obtain⟨x,hx⟩:=h n (by omega);refine⟨l++[x],by simp[h1],fun i hi=>?_⟩;by_cases e:i<l.length
  ·rw[List.getElem_append_left e];exact h2 i e
  ·have:i=n:=by simp at hi;omega
   subst this;rw[List.getElem_append_right (by omega)];simpa [h1]using hx
theorem QS{f:TypeId->Option Sh}{n:Nat}{cs:List Value}
  (ih:∀(t:TypeId) (s:Sh) (cs:List Value) (y:DataW H×List MemPlace),f t=some s->zq enc P W 0 (fun _=>true) true n t cs=some y->∃x:s.T,DC (FW W) s x (cs.map (NK W.heap.size))/\Vd s x):
  ∀(fs:List Field) (o:Nat) (s:Sh),iS P f o fs=some s->(∀x∈fs,∃z,zq enc P W 0 (fun _=>true) true n x.type ((cs.drop x.offset).take (P.cellsOf x.type))=some z)->
   ∃x:s.T,DC (FW W) s x (((cs.map (NK W.heap.size)).drop o).take s.sz)/\Vd s x
 |[],o,s,hs,_=>by
  cases hs;exact⟨(),by simp[DC,Sh.sz],trivial⟩
 |[x],o,s,hs,hx=>by
  unfold iS at hs;split at hs
  case h_2=>cases hs
  rename_i s' hs';cases hc:(yn x.offset o&&yn (P.cellsOf x.type) s'.sz)with
  |false=>rw[hc]at hs;cases hs
  |true=>
  rw[hc]at hs;cases hs;simp only[zd]at hc;obtain⟨z,hz⟩:=hx x (by simp);rw[zx hc.1,zx hc.2]at hz;have:=ih _ _ _ _ hs' hz;simpa [qk,y7]using this
 |x::x'::l,o,s,hs,hx=>by
  unfold iS at hs;split at hs
  case h_2=>cases hs
  rename_i s' hs';cases hc:(yn x.offset o&&yn (P.cellsOf x.type) s'.sz)with
  |false=>rw[hc]at hs;cases hs
  |true=>
  rw[hc]at hs;simp only[we,Option.map_eq_some_iff]at hs;obtain⟨s2,h2,rfl⟩:=hs;simp only[zd]at hc;obtain⟨z,hz⟩:=hx x (by simp);rw[zx hc.1,zx hc.2]at hz;obtain⟨a,a1,a2⟩:=ih _ _ _ _ hs' hz;obtain⟨b,b1,b2⟩:=QS ih (x'::l) (o+s'.sz) s2 h2 (fun u hu=>hx u (ye _ hu));refine⟨(a,b),?_,a2,b2⟩;simp only[DC];refine⟨_,_,?_,a1,b1⟩;rw[qk,y7, <-List.drop_drop];exact List.take_add
theorem SU:∀(k fuel:Nat) (t:TypeId) (s:Sh) (cs:List Value) (y:DataW H×List MemPlace),yM P k t=some s->zq enc P W 0 (fun _=>true) true fuel t cs=some y->
  ∃x:s.T,DC (FW W) s x (cs.map (NK W.heap.size))/\Vd s x
 |0,_,_,_,_,_,hs,_=>by cases hs
 |k+1,fuel,t,s,cs,y,hs,h=>by
  have ih:=SU k;unfold yM at hs;split at hs
  case h_1 q hu=>
   cases hs;obtain⟨n,rfl,_,hw⟩:=DataW.trod_int hu h;exact⟨(n:Int),by simp[DC,NK],by simpa [Vd,Lit.wf]using hw⟩
  case h_2 hu=>
   cases hs;obtain⟨b,rfl,_⟩:=DataW.trod_bool hu h;exact⟨b,by simp[DC,NK],trivial⟩
  case h_3 hu=>
   cases hs;obtain⟨b,rfl,_,hw⟩:=DataW.trod_string hu h;exact⟨b.data.toList,by simp[DC,NK],by show b.data.toList.length<=maxLen;rw[Array.length_toList];exact hw⟩
  case h_4 e hu=>
   split at hs
   case h_2=>cases hs
   rename_i s' hs';cases hc:(yn (P.cellsOf e) s'.sz&&Nat.blt 0 s'.sz)with
   |false=>rw[hc]at hs;cases hs
   |true=>
   rw[hc]at hs;cases hs;simp only[zd]at hc;have hsz:=zx hc.1;have hpos:=yo hc.2;rcases DataW.trod_slice hu h with⟨rfl,_⟩|⟨a,len,cap,elems,rest,n,rfl,rfl,_,_,hlc,hcm,hel,he,hr,_⟩
   ·exact⟨[],by simp[DC,NK],by simp[Vd]⟩
   ·obtain⟨hrl,hr⟩:=hr rfl;rw[hsz]at he hr;by_cases h0:cap=0
    ·obtain rfl:len=0:=by omega
     subst h0;exact⟨[],by simp[DC,NK],by simp[Vd]⟩
    ·
     have all:∀i,i<cap->∃ci z,W.cells? 0 (a.add (i*s'.sz)) s'.sz=some ci/\zq enc P W 0 (fun _=>true) true n e ci=some z:=by
      intro i hi;by_cases hl:i<len
      ·have h1:=he i hl;rw[zi (by omega)]at h1;rw[qf]at h1;obtain⟨ci,h2,h3⟩:=h1;exact⟨ci,_,h2,h3⟩
      ·have h1:=hr (i-len) (by omega);rw[show len+(i-len)=i by omega,zi (by omega)]at h1;rw[qf]at h1;obtain⟨ci,h2,h3⟩:=h1;exact⟨ci,_,h2,h3⟩
     obtain⟨c0,z0,g0,_⟩:=all 0 (by omega);rw[Nat.zero_mul,show a.add 0=a from by simp[qp]]at g0;obtain⟨c,tc,fz,hb,hsp,hoff,_⟩:=Qy g0 hpos;have hlt:a.block<W.heap.size:=(zp.1 hb).1;have hF:=kQ hb (by omega);obtain⟨ab,ao,ax⟩:=a;simp only at hsp hb hoff hlt hF;subst hsp;have cell:∀i,i<cap->ao+i*s'.sz+s'.sz<=c.size/\∃x:s'.T,DC (FW W) s' x (((c.toList.map (NK W.heap.size)).drop (ao+i*s'.sz)).take s'.sz)/\Vd s' x:=by
      intro i hi;obtain⟨ci,z,h1,h2⟩:=all i hi;rw[Addr.Hm]at h1;obtain⟨c',tc',fz',hb',_,ho',rfl⟩:=Qy h1 (by omega);simp only at hb' ho';rw[hb]at hb';cases hb';refine⟨ho',?_⟩;have:=ih _ _ _ _ _ hs' h2;simpa [qk,y7]using this
     obtain⟨l,hl1,hl2⟩:=X2 (p:=fun i (x:s'.T)=>DC (FW W) s' x (((c.toList.map (NK W.heap.size)).drop (ao+i*s'.sz)).take s'.sz)/\Vd s' x) len fun i hi=>(cell i (by omega)).2
     refine⟨l,?_,?_⟩
     ·simp only[DC];refine⟨.sl ab ao len cap 0,?_,.inr ⟨ab,ao,cap,0,_,by rw[hl1],by omega,hF,?_,.inl rfl,fun i hi=>(hl2 i hi).1⟩⟩
      ·have:(Value.slice (some ⟨ab,ao,none⟩) len cap)=.slice (some ⟨ab,ao,none⟩) len cap:=rfl;have hne:¬(len=0/\cap=0):=fun h=>h0 h.2
       cases cap with
       |zero=>exact wh rfl h0
       |succ cap=>simp[NK,hlt,hlc]
      ·rw[hl1];have:=(cell (cap-1) (by omega)).1;have h2:len*s'.sz<=cap*s'.sz:=Nat.mul_le_mul_right _ hlc;have h3:cap*s'.sz=(cap-1)*s'.sz+s'.sz:=by rw[<-Nat.succ_mul];congr 1;omega
       simp;omega
     ·simp only[Vd];refine⟨by omega,fun x hx=>?_⟩;obtain⟨i,hi,rfl⟩:=List.mem_iff_getElem.1 hx;exact(hl2 i hi).2
  case h_5 fs hu=>
   split at hs
   case h_2=>cases hs
   rename_i s' hs';cases hc:yn (P.cellsOf t) s'.sz with
   |false=>rw[hc]at hs;cases hs
   |true=>
   rw[hc]at hs;cases hs;have hsz:=zx hc;obtain⟨xs,n,rfl,_,hlen,hxl,hf⟩:=DataW.trod_struct hu h;obtain⟨x,h1,h2⟩:=QS (cs:=cs) (fun t s cs y h1 h2=>ih n t s cs y h1 h2) fs.toList 0 _ hs' (fun f hfm=>by
    obtain⟨i,hi⟩:=List.mem_iff_getElem?.1 hfm;have hi':fs[i]?=some f:=by simpa using hi
    have:=hf i f hi';have hlt:=(zp.1 hi').1;rw[zi (by omega)]at this;exact⟨_,this⟩)
   refine⟨x,?_,h2⟩;rw[List.drop_zero,yj (by simp;omega)]at h1;exact h1
  case h_6=>cases hs
theorem sF{k:Nat}{t:TypeId}{s:Sh}{v:Value}{d:DataW H}{p:List MemPlace}(hs:yM P k t=some s)(hp:s.Qn=false)(hc:v.cells.toList=[v])(h:qm enc P W 0 (fun _=>true) true t v d p):
  ∃x:s.T,PC (FW W) (Cd s x) (NK W.heap.size v)/\Vd s x/\Ac (pW W) (NK W.heap.size v) v:=by
 obtain⟨fuel,hf⟩:=h;rw[hc]at hf;obtain⟨x,h1,h2⟩:=SU k fuel t s [v] (d,p) hs hf;simp only[zy,List.map_nil]at h1;exact⟨x,(PC.Cd h1).2 hp _ rfl,h2,SQ (h1.ok _ (by simp))⟩
end
end Go.Pe
namespace Go.Pe
open Go.Det Go.RowKit
section
open Go.Proofs.Tryz (prog)
theorem jG{F':Fz}{v:V}(h:PC F' (.dat .bool true) v):v=.bool true:=by
 have:=h (fun _=>none) 0;simp only[PR,DC]at this;simpa using this
def GW(W:World):Prop:=∀x∈Ga,Pm W x.1=some x.2
theorem GW.h{W:World}(h:GW W):Gh (hW W):=fun x hx=>by rw[Oy];exact h x hx
theorem GW.p{W:World}(h:GW W):Gp (pW W):=fun x hx=>by
 have h1:=h x hx;unfold Pm at h1;split at h1
 case h_2=>cases h1
 rename_i c t fz hc;split at h1
 case isTrue=>cases h1
 have hlt:x.1<W.heap.size:=(zp.1 hc).1;have hs:H7 W x.1=c.size:=by unfold H7;rw[hc]
 rw[Md hlt,hs];cases hx2:x.2 with
 |cells cs t' fz'=>rw[hx2]at h1;cases h1;simp[osz]
 |_=>rw[hx2]at h1;cases h1
theorem N1{f:FuncId}{sp:Ap}(ok:Ag Bi f sp)(i:(BG sp.ins).T)(hpre:sp.pre i=true){args:List V}{args':Array Value}{W:World}(hgw:GW W)(hP:MF (FW W) (Af sp.ins i) args)
  (ha:As (pW W) args args'.toList) (hres:∀F' v,PC F' (one (Af sp.outs (sp.f i))) v->v=.bool true) (hp:Bi.prim f=none:=by kernel_rfl):
  Calls prog f args' W fun e W'=>e=.returned (.bool true)/\Below W.heap.size W W':=by
 obtain⟨l,M,h1,_,h2⟩:=(ok.zero hp).run (FW W) (hW W) args i (fun b cs h=>by
  unfold FW at h;split at h
  case h_2=>cases h
  rename_i cs' t fz hg;cases h;exact⟨t,fz,hg⟩) (fun b o h=>(R_W W).lt h) hgw.h hP hpre
 refine((IV xR Zo Td M).fn f args (hW W) l (h1 M (yr _)) (pW W) W args' (R_W W) hgw.p ha).mono ?_;rintro e w' ⟨v,h',v',p',hm,rfl,hv,hx⟩;obtain⟨_,_,_,F',_,_,_,hr⟩:=h2 _ hm;obtain rfl:=hres F' v hr;refine⟨?_,qE hx⟩;simp only[Ac]at hv;rw[hv]
end
end Go.Pe
namespace Go.Pe
open Go.Det Go.RowKit Go.ChangeShapes
def Qw(k:Nat):Value->V
 | .agg cs=>.agg (cs.toList.map (NK k))
 |v=>NK k v
def dO(P:Program)(k:Nat)(t:TypeId):Option Sh:=
 match yM P k t with
 |some s=>match P.underlying t with
  |some (.struct _)=>bif s.Qn then some s else none
  |some (.int _)|some .bool|some .string|some (.slice _)=>bif s.Qn then none else some s
  |_=>none
 |none=>none
def RH(P:Program)(k:Nat):List TypeId->Option (List Sh)
 |[]=>some []
 |t::ts=>match dO P k t,RH P k ts with
  |some s,some ss=>some (s::ss)
  |_,_=>none
def wfL:(l:List Sh)->(BG l).T->Prop
 |[],_=>True
 |[a],x=>Vd a x
 |a::b::l,x=>Vd a x.1/\wfL (b::l) x.2
section
variable {H:Type}{enc:TypeId×Value->H}{P:Program}{W:World}{base:Nat}
theorem hZ{t:TypeId}{v:Value}(ht:(∃k,P.underlying t=some (.int k))\/P.underlying t=some .bool\/P.underlying t=some .string\/∃e,P.underlying t=some (.slice e))(h:yk P W .any base t v):v.cells.toList=[v]/\∀cs,v≠ .agg cs:=by
 rcases ht with⟨k,ht⟩|ht|ht|⟨e,ht⟩<;>
 (simp only[yk,ht]at h
  unfold Cell.okWide at h;simp only[ht]at h;unfold Cell.ok at h;simp only[ht]at h;cases v<;>first|(exact⟨rfl,fun _ e=>by cases e⟩)|(exfalso;exact h))
theorem lP{k:Nat}{t:TypeId}{s:Sh}{v:Value}{d:DataW H}{p:List MemPlace}(hs:dO P k t=some s)(ho:yk P W .any base t v)(h:qm enc P W 0 (fun _=>true) true t v d p):
  ∃x:s.T,PC (FW W) (Cd s x) (Qw W.heap.size v)/\Vd s x/\Ac (pW W) (Qw W.heap.size v) v:=by
 unfold dO at hs;split at hs
 case h_2=>cases hs
 rename_i s' hs';have plain:((∃k,P.underlying t=some (.int k))\/P.underlying t=some .bool\/P.underlying t=some .string\/∃e,P.underlying t=some (.slice e))->(bif s'.Qn then none else some s')=some s->∃x:s.T,PC (FW W) (Cd s x) (Qw W.heap.size v)/\Vd s x/\Ac (pW W) (Qw W.heap.size v) v:=by
  intro ht hb;cases hp:s'.Qn with
  |true=>rw[hp]at hb;cases hb
  |false=>
   rw[hp]at hb;cases hb;obtain⟨h1,h2⟩:=hZ ht ho;have e:Qw W.heap.size v=NK W.heap.size v:=by
    unfold Qw;split
    ·rename_i cs;exact wh rfl (h2 cs)
    ·rfl
   rw[e];exact sF hs' hp h1 h
 split at hs
 case h_1=>
  rename_i fs hu;cases hp:s'.Qn with
  |false=>rw[hp]at hs;cases hs
  |true=>
   rw[hp]at hs;cases hs;simp only[yk,hu]at ho;obtain⟨cs,rfl,_,_⟩:=ho;obtain⟨fuel,hf⟩:=h;obtain⟨x,h1,h2⟩:=SU k fuel t s _ (d,p) hs' hf;refine⟨x,(PC.Cd h1).1 hp,h2,?_⟩;simp only[Qw,Ac];refine⟨cs,rfl,?_⟩;have hok:=h1.ok;have e:(Value.agg cs).cells.toList=cs.toList:=rfl;rw[e]at hok;generalize cs.toList=l at hok;induction l with
   |nil=>simp
   |cons a l ih=>
    simp only[zy,Bg];exact⟨SQ (hok _ (by simp)),ih fun v hv=>hok v (by simp only[zy,y8];exact .inr hv)⟩
 case h_2=>rename_i k hu;exact plain (.inl ⟨k,hu⟩) hs
 case h_3=>rename_i hu;exact plain (.inr (.inl hu)) hs
 case h_4=>rename_i hu;exact plain (.inr (.inr (.inl hu))) hs
 case h_5=>rename_i e hu;exact plain (.inr (.inr (.inr ⟨e,hu⟩))) hs
 case h_6=>cases hs
theorem M9:∀ {ts:List TypeId} {args:List Value} {ds:List (DataW H)} {p:List MemPlace},yq enc P W 0 (fun _=>true) true ts args ds p->ds.length=ts.length
 |[],_,_,_,h=>by obtain⟨_,rfl,_⟩:=trodAll_nil h;rfl
 |t::ts,_,_,_,h=>by
  obtain⟨v0,vs0,d0,ds0,p0,q0,rfl,rfl,rfl,h0,r0⟩:=trodAll_cons h;simp[M9 r0]
theorem Aak{α:Type}{l:List α}(h:l.length=3):∃a b c,l=[a,b,c]:=by
 match l,h with
 |[a,b,c],_=>exact⟨a,b,c,rfl⟩
theorem UH{k:Nat}:∀ {ts:List TypeId} {ss:List Sh} {args:List Value} {ds:List (DataW H)} {p:List MemPlace},RH P k ts=some ss->(∀(j:Nat) t v,ts[j]?=some t->args[j]?=some v->yk P W .any base t v)->
  yq enc P W 0 (fun _=>true) true ts args ds p->∃x:(BG ss).T,MF (FW W) (Af ss x) (args.map (Qw W.heap.size))/\wfL ss x/\As (pW W) (args.map (Qw W.heap.size)) args
 |[],ss,args,ds,p,hs,_,h=>by
  cases hs;obtain⟨rfl,rfl,rfl⟩:=trodAll_nil h;exact⟨(),fun ρ N=>by simp[Af],trivial,by simp⟩
 |t::ts,ss,args,ds,p,hs,hv,h=>by
  unfold RH at hs;split at hs
  case h_2=>cases hs
  rename_i s ss' h1 h2;cases hs;obtain⟨v0,vs0,d0,ds0,p0,q0,rfl,rfl,rfl,h0,r0⟩:=trodAll_cons h;obtain⟨x,a1,a2,a3⟩:=lP h1 (hv 0 t v0 rfl rfl) h0;obtain⟨y,b1,b2,b3⟩:=UH h2 (fun j t v ht hv'=>hv (j+1) t v ht hv') r0;have hr:As (pW W) ((v0::vs0).map (Qw W.heap.size)) (v0::vs0):=by simp only[zy,Bg];exact⟨a3,b3⟩
  cases ss' with
  |nil=>exact⟨x,fun ρ N=>by
    have:=b1 ρ N;simp only[Af,B4]at this;simp only[zy,Af,this,A3,B4,wn];exact a1 ρ N,a2,hr⟩
  |cons s2 ss2=>exact⟨(x,y),fun ρ N=>by
    simp only[zy,Af,A3];exact⟨a1 ρ N,b1 ρ N⟩,⟨a2,b2⟩,hr⟩
end
theorem Abe{x:(BG J4.ins).T}(h:wfL J4.ins x):J4.pre x=true:=by
 obtain⟨⟨_,h1⟩,_⟩:=h;have h1:∀p∈(x.1:List Sp.BI),p.1.length<=maxLen/\p.2.length<=maxLen:=h1;have hm:maxLen<=9223372036854775807:=yo rfl;show Sp.Hw _ x.1=true;unfold Sp.Hw;rw[zk];intro p hp;obtain⟨a,b⟩:=h1 p hp;rw[w4 (Nat.le_trans a hm),w4 (Nat.le_trans b hm)];rfl
end Go.Pe
namespace Go.Proofs.YtmcnicakonagdaaGreatDoor
open Go
set_option maxRecDepth 100000
theorem seatTie1:Tryz.prog.laidByTextLater [("math/bits.deBruijn32tab",Rows.laid_math_bits_deBruijn32tab),("math/bits.deBruijn64tab",Rows.laid_math_bits_deBruijn64tab),("internal/strconv.uint64pow10",Rows.laid_internal_strconv_uint64pow10),("unicode/utf8.acceptRanges",Rows.laid_unicode_utf8_acceptRanges),("strconv.ErrRange",Rows.laid_strconv_ErrRange),("strconv.ErrSyntax",Rows.laid_strconv_ErrSyntax)] [.data,.data,.data,.data,.sentinel,.sentinel] true:=
 Program.laidByTextLater_by_one 72 8 65 (by kernel_rfl) (by kernel_rfl) (by kernel_rfl) (by kernel_rfl) (by kernel_rfl) (by kernel_rfl) (fun _ _=>by kernel_rfl)
theorem noOwnUnsafe:Tryz.pinned.checked.prog.headLifts.contains "ownunsafe"=false:=by kernel_rfl
theorem fits1:Tryz.pinned.checked.prog.listedFits Rows.ratingSquaresRow.laid=true:=by
 unfold Program.listedFits;rw[noOwnUnsafe];kernel_rfl
theorem ratingSquares_row_tie:Rows.ratingSquaresRow.laidByTextAt .later Tryz.pinned [.data,.data,.data,.data,.sentinel,.sentinel,.pinned] true:=by
 refine OpenClaim.laidByTextAt_pinned rfl rfl seatTie1 rfl rfl rfl rfl (fun y hy _e=>?_) fits1;simp only[Rows.ratingSquaresRow,List.zip_cons_cons,List.zip_nil_right,y8,List.mem_nil_iff,or_false]at hy;rcases hy with rfl|rfl|rfl|rfl|rfl|rfl|rfl
 ·cases _e
 ·cases _e
 ·cases _e
 ·cases _e
 ·cases _e
 ·cases _e
 ·exact⟨by kernel_rfl,by kernel_rfl⟩
end Go.Proofs.YtmcnicakonagdaaGreatDoor
