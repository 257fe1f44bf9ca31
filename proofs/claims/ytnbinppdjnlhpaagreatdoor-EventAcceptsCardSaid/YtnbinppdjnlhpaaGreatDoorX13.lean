import Derived.Test.YtnbinppdjnlhpaaGreatDoorX12
import Derived.Test.YtnbinppdjnlhpaaGreatDoorX10
/- A part of a proof (no law is stated here). Made by program out of texts by AI agents. -/
open Go.Pe.Ends renaming tt → zc, leaf → zm, Ag → zn, ite → zq, ff → zy, eq → zL
open Go.Sp renaming B9 → zd, val → ze, vI → zl, sg → yz
open Go.IntKind renaming wrap → zf
open Int renaming toNat_natCast → zg, mul_le_mul_of_nonneg_left → zi, mul_le_mul_of_nonneg_right → zk, pow_succ → zr, tdiv_eq_ediv_of_nonneg → zt, le_of_lt → zu, tmod_eq_emod_of_nonneg → zx, mul_comm → zz, mul_add → zA, lt_of_mul_lt_mul_left → zC, mul_assoc → zD, mul_nonneg → zE, lt_or_le → zF, pow_zero → zG, mul_ediv_add_emod → zJ, ediv_emod_unique → zK, mul_left_comm → zM, one_mul → zN, tdiv → zP, emod_lt_of_pos → zS, mul_lt_mul_of_pos_right → zV, mul_one → zW, emod_nonneg → zY, lt_of_lt_of_le → z5, mul_sub → z6, eq_ofNat_of_zero_le → z7, mul_zero → z9, mul_lt_mul_of_pos_left → yg, tmod → yh, mul_ediv_cancel_left → ym, ediv_eq_zero_of_lt → yr, ediv_nonneg → yw, le_refl → yx, mul_neg → yy, add_assoc → yA, add_zero → yB
open Bool renaming and_eq_true → zh, true_and → yb
open List renaming take_of_length_le → zj, replicate → zo, length_drop → zp, length_take → zw, length_eq_zero_iff → zB, getD_eq_getElem?_getD → zH, length_append → zI, dropWhile_cons → zO, take_length → zQ, take_append_drop → zU, mem_singleton → zZ, append_assoc → ya, append_nil → yc, dropLast_concat_getLast → yd, nil_append → ye, getLast?_eq_getElem? → yi, getElem?_eq_getElem → yk, mem_cons → yn, drop_length → yo, all_eq_true → yp, all_reverse → yq, length_eq_one_iff → yt, drop_eq_nil_of_le → yv, drop → yC
open Nat renaming add_sub_cancel → zR, min_eq_left → zX, sub → yf, le_refl → yj, gcd_comm → yu, gcd → yD, add → yE
open Go.Pe.Ae renaming of → zT
open BitVec renaming ofInt → z8
section
namespace Go.Pe
open Sp
open Go.Det
theorem Zo:∀g sp,HN.sp g=some sp→Ad AT g sp:=
 Ac T292.ok (Ac T295.ok (Ac T229.ok (Ac T294.ok (Ac T326.ok (Ac V3 (Ac T318.ok (fun g sp h=>by cases h)))))))
theorem Ii{w:List Int}(hd:At Am w)(hn:Sp.nz w){k:Nat}(hl:w.length=k+1):0<w.getD k 0∧w.getD k 0<18446744073709551616:=by
 have g:=Sp.AW (AP hd k);refine⟨?_,g.2⟩;have e:w.getLast?=some (w.getD k 0):=by
  rw[yi,hl,zR,zH,yk (by omega)];rfl
 unfold Sp.nz at hn;rw[e]at hn;have:w.getD k 0≠0:=fun h=>hn (by rw[h])
 omega
namespace T287
set_option maxHeartbeats 1000000 in
theorem ok:Ad AT 287 Gb:=by
 refine Av (X:=HN) rfl Zo (d:=9) (by kernel_rfl) (by kernel_rfl) (by kernel_rfl) (fun(i:List Int×List Int) hi=>?_) (Ab (by kernel_rfl));obtain⟨a,b⟩:=i;have hi:(BQ a&&BQ b&&decide (a.length≤9000)&&decide (b.length≤9000)&&decide (0<Ao b))=true:=hi;rw[zh,zh,zh,zh,decide_eq_true_eq,decide_eq_true_eq,decide_eq_true_eq]at hi;obtain⟨⟨⟨⟨na,nb⟩,la9⟩,lb9⟩,hb0⟩:=hi;obtain⟨_,da,za⟩:=Eg na;obtain⟨_,db,zb⟩:=Eg nb;have hb0:0<ze Am b:=hb0;have ha0:=Aw (b:=Am) (by decide) da;have hg:∀q r ob,q=BG (Ao a/Ao b)→r=BG (Ao a % Ao b)→Ae Gb (a,b) (PV.tup [PV.dat CJ q,PV.dat CJ r]) ob:=fun q r ob e1 e2=>zT rfl rfl (Prod.ext e1 e2)
 have fin:∀(q r:List Int) ob,At Am q→At Am r→ze Am a=ze Am q*ze Am b+ze Am r→ze Am r<ze Am b→Ae Gb (a,b) (PV.tup [PV.dat CJ (Az q),PV.dat CJ (Az r)]) ob:=by
  intro q r ob dq dr he hr;have hr0:=Aw (b:=Am) (by decide) dr;obtain⟨u1,u2⟩:=(zK (a:=ze Am a) (b:=ze Am b) (r:=ze Am r) (q:=ze Am q) hb0).2 ⟨by rw[zz (ze Am b)];omega,hr0,hr⟩;refine hg _ _ ob ?_ ?_
  ·rw[IV dq];show BG (ze Am q)=BG (ze Am a/ze Am b);rw[u1]
  ·rw[IV dr];show BG (ze Am r)=BG (ze Am a % ze Am b);rw[u2]
 have hbne:b≠[]:=by rintro rfl;simp[ze]at hb0
 have hblen:b.length≠0:=fun h=>hbne (zB.1 h)
 refine zL (An a b) (zc (by rw[na,nb];rfl) (zq (fun c=>?_) (fun c=>?_)))
 ·have c:=of_decide_eq_true c;have hlt:ze Am a<ze Am b:=by
   unfold Bz at c;have c:(if ze Am a<ze Am b then(-1:Int)else if ze Am a>ze Am b then 1 else 0)<0:=c;split at c
   ·assumption
   ·split at c<;>omega
  refine zm (zT rfl rfl ?_);show([],a)=(BG (ze Am a/ze Am b),BG (ze Am a % ze Am b));rw[yr ha0 hlt,Int.emod_eq_of_lt ha0 hlt];exact Prod.ext rfl (Kq (by decide) da za)
 ·have c:=of_decide_eq_false c;have hge:ze Am b≤ze Am a:=by
   rcases zF (ze Am a) (ze Am b)with g|g
   ·have:Bz (Ao a) (Ao b)= -1:=if_pos g;omega
   ·exact g
  have hll:b.length≤a.length:=by
   rcases Nat.lt_or_ge a.length b.length with g|g
   ·have:=DS (b:=Am) (by decide) da db zb g;omega
   ·exact g
  refine zq (fun c1=>?_) (fun c1=>?_)
  ·have c1:b.length=1:=by
    have:(b.length:Int)=1:=by simpa using c1
    omega
   obtain⟨d,rfl⟩:=yt.1 c1;have hd:0<d∧d<18446744073709551616:=Ii (k:=0) db zb rfl;have e1:zf .i64 ((a.length:Int)-1)=(a.length:Int)-1:=wr _ (by omega) (by omega);rw[e1,zg];refine zc (by simp;omega) ?_;have:=Ak (Q:=Ae Gb (a,[d])) a d da hd (by omega) (fun q r ob dq dr he=>by
    refine fin q [r] ob dq (fun x hx=>by rw[zZ]at hx;subst hx;exact⟨dr.1,by show x<18446744073709551616;omega⟩) ?_ ?_
    ·rw[val_one,val_one];exact he
    ·rw[val_one,val_one];exact dr.2) a.length [] 0 (by simp) (fun x hx=>by cases hx) ⟨yx _,hd.1⟩ (by rw[yo];simp[ze])
   rw[yc]at this;exact this
  ·have c1:b.length≠1:=by
    have:(b.length:Int)≠1:=by simpa using c1
    omega
   obtain⟨k,hk⟩:∃k,b.length=k+2:=⟨b.length-2,by omega⟩;obtain⟨y0,y1⟩:=Ii (k:=k+1) db zb hk;obtain⟨s,hs,hs63,hlt,_⟩:=Q0 y0 y1;have hB:=T6 hs63;have h2s:(0:Int)<2^s:=Int.pow_pos (by decide);have h2d:(0:Int)<2^(64-s):=Int.pow_pos (by decide);have hyd:b.getD (k+1) 0<2^(64-s):=by
    rw[hB,zz (b.getD (k+1) 0)]at hlt;exact zC hlt (zu h2s)
   have hv1:(Am:Int)^(k+1)≤2^s*ze Am b:=by
    have a1:=CH (b:=Am) (by decide) db zb hbne;rw[hk,show k+2-1=k+1 by omega]at a1;have a2:=zk (show(1:Int)≤2^s by omega) (zu hb0);omega
   have hv2:2^s*ze Am b<(Am:Int)^(k+2):=by
    have b1:ze Am b=ze Am (b.take (k+1))+(Am:Int)^(k+1)*b.getD (k+1) 0:=by
     rw[←Ax,zj (by omega)]
    have b2:=Bs (b:=Am) (by decide) (AH db (k+1));rw[zw,zX (by omega)]at b2;have hp:=AQ (b:=Am) (by decide) (k+1);have b3:ze Am b<(Am:Int)^(k+1)*2^(64-s):=by
     have:=zi (show b.getD (k+1) 0+1≤2^(64-s)by omega) (zu hp);rw[zA,zW]at this;omega
    have b4:=yg b3 h2s;have b5:(2:Int)^s*((Am:Int)^(k+1)*2^(64-s))=(Am:Int)^(k+2):=by
     rw[zM, ←hB];exact(zr ..).symm
    rw[b5]at b4;exact b4
   have hls:∀o:List Int,At Am o→ze Am o=2^s*ze Am b→At Am (Az o)∧(Az o).length=k+2∧ze Am (Az o)=2^s*ze Am b∧1≤(Az o).getD (k+1) 0:=by
    intro o ho hv;have hd':=Gv ho;have hv':ze Am (Az o)=2^s*ze Am b:=by rw[Hu,hv]
    have hl':=Xp (b:=Am) (by decide) hd' (Jq o) (k:=k+1) (by rw[hv'];exact hv1) (by rw[hv'];exact hv2);have:=(Ii hd' (Jq o) hl').1;exact⟨hd',hl',hv',by omega⟩
   have e2:zf .i64 (((k+2:Nat):Int)-1)=((k+1:Nat):Int):=by rw[wr _ (by omega) (by omega)];omega
   have e3:zf .i64 (((k+2:Nat):Int)+1)=((k+3:Nat):Int):=by rw[wr _ (by omega) (by omega)];omega
   have e4:zf .i64 ((a.length:Int)+1)=((a.length+1:Nat):Int):=by rw[wr _ (by omega) (by omega)];omega
   have e5:zf .i64 ((a.length:Int)-((k+2:Nat):Int))=((a.length-(k+2):Nat):Int):=by rw[wr _ (by omega) (by omega)];omega
   have e6:zf .i64 (((a.length-(k+2):Nat):Int)+1)=((a.length-(k+2)+1:Nat):Int):=by rw[wr _ (by omega) (by omega)];omega
   have e7:zf .i64 ((64:Int)-(s:Int))=((64-s:Nat):Int):=by rw[wr _ (by omega) (by omega)];omega
   have em:Min.min s 64=s:=by omega
   have em2:Min.min (64-s) 64=64-s:=by omega
   rw[hk,e2,e3,zg,zg,hs];refine zc (by simp;omega) (zc (Cn (by omega) y1) (zc (by simp;omega) ?_));refine Pk (F:=fun i o=>L2 a b s (k+3) b ((k+2:Nat):Int) i o) b s hs63 db (fun i o hi ho h=>?_) (fun o hol hod hov=>?_) (k+2) 0 [] 0 (by omega) rfl (fun x hx=>by cases hx) ⟨yx _,h2s⟩ (by simp[ze])
   ·have ei:zf .i64 ((i:Int)+1)=((i+1:Nat):Int):=by rw[wr _ (by omega) (by omega)];omega
    have b1:(decide ((0:Int)≤(i:Int))&&decide ((i:Int)<((k+3:Nat):Int)))=true:=by simp;omega
    refine zn (AM ..) (zc (by simp;omega) ?_);rw[ei,e7,zg,zg,zg,zg,em,em2];refine zc (by simp;omega) (zc b1 (zc (decide_eq_true (by omega)) (zc (by simp) (zc b1 (zc (decide_eq_true (by omega)) (zq (fun c=>zc (by simp) (zc (by simp;omega) (zc (by simp;omega) ?_))) (fun c=>?_)))))))
    ·have c:=of_decide_eq_true c;rw[if_pos (by omega)]at h;exact h
    ·have c:=of_decide_eq_false c;rw[if_neg (by omega)]at h;exact h
   obtain⟨vd,vl,vv,v1⟩:=hls o hod hov;have eo:o.take (k+3)=o:=zj (by omega);rw[hk];refine zn (AM ..) (zy (by simp) ?_);rw[eo,e4,zg,hk,e2,zg,hs];refine zc (Aj (by simp;omega) (DE (by omega) hod)) (zc (by simp;omega) ?_);refine Pk (F:=fun i o'=>L3 a b s (k+3) b ((k+2:Nat):Int) ((k+2:Nat):Int) o s (a.length+1) a a.length i o' o) a s hs63 da (fun i o' hi ho h=>?_) (fun u hul hud huv=>?_) a.length 0 [] 0 (by omega) rfl (fun x hx=>by cases hx) ⟨yx _,h2s⟩ (by simp[ze])
   ·have ei:zf .i64 ((i:Int)+1)=((i+1:Nat):Int):=by rw[wr _ (by omega) (by omega)];omega
    have b1:(decide ((0:Int)≤(i:Int))&&decide ((i:Int)<((a.length+1:Nat):Int)))=true:=by simp;omega
    refine zn (Bm ..) (zc (by simp;omega) ?_);rw[ei,e7,zg,zg,zg,zg,em,em2];refine zc (by simp;omega) (zc b1 (zc (decide_eq_true (by omega)) (zc (by simp) (zc b1 (zc (decide_eq_true (by omega)) (zq (fun c=>zc (by simp) (zc (by simp;omega) (zc (by simp;omega) ?_))) (fun c=>?_)))))))
    ·have c:=of_decide_eq_true c;rw[if_pos (by omega)]at h;exact h
    ·have c:=of_decide_eq_false c;rw[if_neg (by omega)]at h;exact h
   refine zn (Bm ..) (zy (by simp) ?_);rw[eo,vl,e5,e6,zg,hk,e2,zg,hs];refine zc (by simp;omega) ?_;have hpn:=AQ (b:=Am) (by decide) (a.length-(k+2)+1);have start:ze Am (u.drop (a.length-(k+2)+1))<ze Am (Az o):=by
    have a1:=B4 Am u (a.length-(k+2)+1) (by omega);have a2:=Aw (b:=Am) (by decide) (AH hud (a.length-(k+2)+1));have a3:=Bs (b:=Am) (by decide) da;have a4:=yg a3 h2s;have a5:(Am:Int)^a.length=(Am:Int)^(a.length-(k+2)+1)*(Am:Int)^(k+1):=by rw[←Int.pow_add];congr 1;omega
    have a6:=CH (b:=Am) (by decide) db zb hbne;rw[hk,show k+2-1=k+1 by omega]at a6;have a7:=zi a6 (zu h2s);have a8:=zi a7 (zu hpn);rw[a5,zM]at a4;rw[vv];refine zC (a:=(Am:Int)^(a.length-(k+2)+1)) ?_ (zu hpn);omega
   have go:=A5 (Q:=Ae Gb (a,b)) s (Az o) k a.length vl la9 (by omega) vd v1 (2^s*ze Am a) (fun u' qs hul' hud' hdq hlt' hql he=>by
    have hz:ze Am (u'.drop (k+2))=0:=HD (b:=Am) (by decide) hud' (by omega) (by rw[vv]at hlt';omega);refine Ht s hs63 a.length (k+2) (a.length-(k+2)+1) (by omega) la9 u' qs hul' hud' hz hql (by omega) hdq (fun w ob hw hwv=>?_) (k+2) 0 [] (by omega) rfl (fun x hx=>by cases hx) (by simp[ze]);have e:ze Am u'=2^s*(ze Am a-ze Am qs*ze Am b):=by
     rw[vv,zD,zz (ze Am b)]at he;rw[z6];omega
    have ew:ze Am w=ze Am a-ze Am qs*ze Am b:=by
     rw[hwv,e];exact ym _ (by omega)
    refine fin qs w ob hdq hw (by omega) ?_;rw[vv,e]at hlt';have:=zC hlt' (zu h2s);omega) (a.length-(k+2)+1) u [] (by simp) hul hud (fun x hx=>by cases hx) start (by rw[huv];simp[ze])
   rw[yc,show((a.length-(k+2)+1:Nat):Int)-1=((a.length-(k+2):Nat):Int)by omega]at go;exact go
end T287
theorem U1:Ad AT 287 Gb:=T287.ok
end Go.Pe
end
section
namespace Go.Pe
open Sp
open Go.Det
theorem Z8:∀g sp,kE.sp g=some sp→Ad AT g sp:=fun g sp h=>by cases h
theorem T184n.ok:Ad AT 184 P9:=by
 refine Av (X:=kE) rfl Z8 (d:=9) (by kernel_rfl) (by kernel_rfl) (by kernel_rfl) (fun(n:Int) _=>?_) (Ab (by kernel_rfl));refine zL (T184n.An n) (zm (zT rfl rfl ?_));show(n,[])=(n,Dz n);rw[CE]
theorem Y5:∀g sp,cT.sp g=some sp→Ad AT g sp:=
 Ac T184n.ok (Ac U1 (Ac (T231.ok F9) (Ac (T232.ok F9) (Ac T228.ok (Ac T226.ok (Ac T220.ok (fun g sp h=>by cases h)))))))
theorem SO{m D:Int}(hD:0<D):(m % D=0→(-m)/D= -(m/D)∧(-m) % D=0)∧(m % D≠0→(-m)/D= -(m/D)-1∧(-m) % D=D-m % D):=by
 have e:=zJ m D;have r0:=zY m (show D≠0 by omega);have r1:=zS m hD;refine⟨fun h=>?_,fun h=>?_⟩
 ·exact(zK (a:= -m) (b:=D) (r:=0) (q:= -(m/D)) hD).2 ⟨by rw[yy];omega,by omega,by omega⟩
 ·exact(zK (a:= -m) (b:=D) (r:=D-m % D) (q:= -(m/D)-1) hD).2 ⟨by rw[z6,yy,zW];omega,by omega,by omega⟩
theorem aZ{m D:Int}(hm:0≤m)(hD:0<D):(0≤m/D∧m/D≤m)∧(0≤m % D∧m % D≤m∧m % D<D):=by
 have e:=zJ m D;have q0:0≤m/D:=yw hm (by omega);have q1:m/D≤m:=Int.ediv_le_self _ hm;have r0:=zY m (show D≠0 by omega);have r1:=zS m hD;have:=zE (show 0≤D by omega) q0;exact⟨⟨q0,q1⟩,r0,by omega,r1⟩
theorem T0(n:Bool){v:Int}(h:0≤v):Ah (yz n v)=v:=by
 rw[C0,Aq];split<;>omega
theorem Gz{n:Int}(h:Ah n<(Am:Int)^9000):BL (Co n)=true:=by
 have:=OH h (by omega);unfold BL;exact Aj this.1 (decide_eq_true this.2)
theorem WG{a b:Bj}(h:0<zl a+zl b):F6 a b=Co (zl a+zl b):=by
 unfold F6;split
 ·next c=>
  have:=E9 c.2.2;rw[BF c.1,BF c.2.1]at h ⊢;exact(BI (by omega)).symm
 ·rfl
theorem TK:((1:Int),Dz (1:Int))=Co 1:=by rw[CE];rfl
namespace T221
theorem Ow{a b:Bj}(q:Int)(h: -9223372036854775808<q∧q<9223372036854775808)(hq:Mi a b=Co q∨(-9223372036854775808<q∧Mi a b=Kz (Co (q+1)) (1,[])∧q+1<9223372036854775808)):Mi a b=(q,[]):=by
 rcases hq with hq|⟨h1,hq,h2⟩
 ·rw[hq,BI h]
 ·rw[hq,BI (by omega)];unfold Kz EV;rw[if_pos ⟨rfl,by decide⟩];unfold F6;rw[if_pos ⟨rfl,rfl,Fg (by show _≤q+1+ -1;omega) (by show q+1+ -1<_;omega)⟩];show(q+1+ -1,[])=(q,[]);rw[show q+1+ -1=q by omega]
set_option maxHeartbeats 1000000 in
theorem ok:Ad AT 221 Hs:=by
 refine Av (X:=cT) rfl Y5 (d:=9) (by kernel_rfl) (by kernel_rfl) (by kernel_rfl) (fun(i:(Int×List Int)×(Int×List Int)) hi=>?_) (Ab (by kernel_rfl));obtain⟨a,b⟩:=i;have hi:(BL a&&BL b&&decide (0<zl b))=true:=hi;rw[zh,zh,decide_eq_true_eq]at hi;obtain⟨⟨ha,hb⟩,hD⟩:=hi;obtain⟨oa,_,na,_,va,ba⟩:=words ha;obtain⟨ob,_,nb,_,vb,bb⟩:=words hb;have eD:Ah (zl b)=zl b:=by rw[Aq];omega
 have hM:=AE (zl a);have eM:Ah (zl a)=if zl a<0 then -zl a else zl a:=rfl
 obtain⟨⟨q0,q1⟩,r0,r1,r2⟩:=aZ (D:=zl b) hM hD;obtain⟨z1,z2⟩:=SO (m:=Ah (zl a)) hD;have hdiv:Yl (BG (Ah (zl a))) (BG (Ah (zl b)))=true:=by
  unfold Yl;exact Aj (Aj (Aj (Aj na nb) (decide_eq_true (MA hM ba))) (decide_eq_true (MA (AE _) bb))) (decide_eq_true (by rw[vb,eD];exact hD))
 have fin:∀(q r:Bj) v ob,Kb Hs.outs v ob=some (true,(q,r))→q=Mi a b→r=Co (zl a % zl b)→Ae Hs (a,b) v ob:=fun q r v ob h e1 e2=>zT h rfl (by rw[e1,e2];rfl)
 have slow:Ends cT (L1 (decide (zl a<0)) (BG (Ao (BG (Ah (zl a)))/Ao (BG (Ah (zl b))))) (BG (Ao (BG (Ah (zl a))) % Ao (BG (Ah (zl b))))) 0 0 b.1 b.2) (Ae Hs (a,b)):=by
  rw[va,vb,eD];obtain⟨nq,_,vq⟩:=CU (n:=Ah (zl a)/zl b) (k:=9000) q0 (by omega) (by omega);obtain⟨nr,_,vr⟩:=CU (n:=Ah (zl a) % zl b) (k:=9000) r0 (by omega) (by omega);have jr:BL (Co (yz (decide (zl a<0)) (Ah (zl a) % zl b)))=true:=Gz (by rw[T0 _ r0];omega);have jq:BL (Co (yz (decide (zl a<0)) (Ah (zl a)/zl b)))=true:=Gz (by rw[T0 _ q0];omega);have j1:BL ((1:Int),Dz (1:Int))=true:=by rw[TK];decide
  have es:ML (Cc (yz (decide (zl a<0)) (Ah (zl a) % zl b)),Cb (yz (decide (zl a<0)) (Ah (zl a) % zl b)))=Yh (yz (decide (zl a<0)) (Ah (zl a) % zl b)):=by
   show Yh (zl (Co _))=_;rw[Cu]
  refine zn (Ai ..) (zc nq (zc nr ?_));rw[vq,vr];refine zn (AM ..) (zc (G6 jr).1 ?_);rw[es];refine zq (fun c=>?_) (fun c=>?_)
  ·have c:=of_decide_eq_true c;have c2:yz (decide (zl a<0)) (Ah (zl a) % zl b)<0:=by
    rw[Jc]at c;split at c
    ·assumption
    ·split at c<;>omega
   have hn:zl a<0:=by
    rcases zF (zl a) 0 with g|g
    ·exact g
    ·rw[C0,if_neg (by simp;omega)]at c2;omega
   have hr:Ah (zl a) % zl b≠0:=by
    rw[C0,if_pos (decide_eq_true hn)]at c2;omega
   obtain⟨z3,z4⟩:=z2 hr;refine zc rfl (zc (Aj jq j1) (zc (Aj jr hb) (zm (fin (Kz (Co (yz (decide (zl a<0)) (Ah (zl a)/zl b))) (1,Dz 1)) (F6 (Co (yz (decide (zl a<0)) (Ah (zl a) % zl b))) b) _ _ rfl ?_ ?_))))
   ·unfold Mi;rw[if_pos ⟨hn,hr⟩,CE,C0,if_pos (decide_eq_true hn)]
   ·have ev:zl a= -Ah (zl a):=by rw[eM,if_pos hn];omega
    have ep:zl (Co (yz (decide (zl a<0)) (Ah (zl a) % zl b)))= -(Ah (zl a) % zl b):=by rw[Cu,C0,if_pos (decide_eq_true hn)]
    have e5:zl a % zl b=zl b-Ah (zl a) % zl b:=by rw[←z4, ←ev]
    rw[WG (by rw[ep];omega),ep,e5];congr 1;omega
  ·have c:=of_decide_eq_false c;have c2:¬(zl a<0∧Ah (zl a) % zl b≠0):=by
    rintro⟨hn,hr⟩;rw[C0,if_pos (decide_eq_true hn),Jc,if_pos (by omega)]at c;omega
   refine zm (fin (Co (yz (decide (zl a<0)) (Ah (zl a)/zl b))) (Co (yz (decide (zl a<0)) (Ah (zl a) % zl b))) _ _ rfl ?_ ?_)
   ·unfold Mi;rw[if_neg c2]
   ·congr 1;rcases zF (zl a) 0 with g|g
    ·have hr:Ah (zl a) % zl b=0:=by
      rcases zF 0 (Ah (zl a) % zl b)with g2|g2
      ·exact absurd ⟨g,by omega⟩ c2
      ·omega
     have ev:zl a= -Ah (zl a):=by rw[eM,if_pos g];omega
     have:=(z1 hr).2;rw[←ev]at this;rw[this,hr,C0];split<;>rfl
    ·rw[C0,if_neg (by simp;omega),eM,if_neg (by omega)]
 refine zL (An a b) (zq (fun c1=>zq (fun c2=>zq (fun c3=>?_) (fun c3=>?_)) (fun c2=>?_)) (fun c1=>?_))
 ·have a2:=Mz c1;have b2:=Mz c2;have c3:a.1≠ -9223372036854775808:=by simpa using c3
  have ra:=E9 (n:=a.1) (by
   have:=oa;unfold ET at this;rw[zh]at this;exact this.1)
  have rb:=E9 (n:=b.1) (by
   have:=ob;unfold ET at this;rw[zh]at this;exact this.1)
  have ea:=BF a2;have eb:=BF b2;rw[ea]at eM;rw[eb]at hD r2;rw[ea,eb]at q0 q1 r0 r1 z1 z2;rw[ea]at r2;have hq:zP a.1 b.1=if a.1<0 then -(Ah a.1/b.1)else Ah a.1/b.1:=by
   rw[eM];split
   ·have:=Int.neg_tdiv (-a.1) b.1;rw[Int.neg_neg]at this;rw[this,zt (by omega)]
   ·exact zt (by omega)
  have hr:yh a.1 b.1=if a.1<0 then -(Ah a.1 % b.1)else Ah a.1 % b.1:=by
   rw[eM];split
   ·have:=Int.neg_tmod (-a.1) b.1;rw[Int.neg_neg]at this;rw[this,zx (by omega)]
   ·exact zx (by omega)
  refine zc (decide_eq_true (by omega)) (zc (decide_eq_true (by omega)) (zq (fun c=>?_) (fun c=>?_)))
  ·have c:=of_decide_eq_true c;rw[hr]at c;have hn:a.1<0:=by split at c<;>omega
   rw[if_pos hn]at c hq hr;rw[if_pos hn]at eM;obtain⟨z3,z4⟩:=z2 (by omega);have ev:a.1= -Ah a.1:=by omega
   have hqm:Ah a.1/b.1<9223372036854775807:=by
    rcases zF (Ah a.1/b.1) 9223372036854775807 with g|g
    ·exact g
    ·have:=zJ (Ah a.1) b.1;have:=zk (show 1≤b.1 by omega) q0;omega
   refine zm (fin (zf .i64 (zf .i64 (zP a.1 b.1)-1),[]) (zf .i64 (yh a.1 b.1+b.1),[]) _ _ rfl ?_ ?_)
   ·rw[hq,wr (-(Ah a.1/b.1)) (by omega) (by omega),wr _ (by omega) (by omega)];refine(Ow _ (by omega) (.inr ⟨by omega,?_,by omega⟩)).symm;unfold Mi;rw[ea,eb,if_pos ⟨hn,by omega⟩,show -(Ah a.1/b.1)-1+1= -(Ah a.1/b.1)by omega]
   ·rw[hr,wr _ (by omega) (by omega)];have:a.1 % b.1=b.1-Ah a.1 % b.1:=by rw[←z4, ←ev]
    rw[ea,eb,this,BI (by omega)];congr 1;omega
  ·have c:=of_decide_eq_false c;rw[hr]at c;refine zm (fin (zf .i64 (zP a.1 b.1),[]) (yh a.1 b.1,[]) _ _ rfl ?_ ?_)
   ·have hqq:Mi a b=Co (zP a.1 b.1):=by
     unfold Mi;rw[ea,eb,hq,if_neg (by rintro⟨h1,h2⟩;rw[if_pos h1]at c;omega),C0];by_cases h:a.1<0
     ·rw[if_pos (decide_eq_true h),if_pos h]
     ·rw[if_neg (by simp;omega),if_neg h]
    have hb': -9223372036854775808<zP a.1 b.1∧zP a.1 b.1<9223372036854775808:=by
     rw[hq,eM]at*;split<;>split at q1<;>split at q0<;>omega
    rw[wr _ (by omega) (by omega)];exact(Ow _ hb' (.inl hqq)).symm
   ·rw[hr];by_cases h:a.1<0
    ·rw[if_pos h]at c ⊢;have hz:Ah a.1 % b.1=0:=by omega
     rw[if_pos h]at eM;have ev:a.1= -Ah a.1:=by omega
     have:=(z1 hz).2;rw[←ev]at this;rw[ea,eb,this,hz];rfl
    ·rw[if_neg h]at c ⊢;rw[if_neg h]at eM;rw[ea,eb,eM,BI (by rw[eM]at r0 r1;omega)]
 ·exact zc oa (zc ob (zc hdiv slow))
 ·exact zc oa (zc ob (zc hdiv slow))
 ·exact zc oa (zc ob (zc hdiv slow))
end T221
theorem aD:∀g sp,fP.sp g=some sp→Ad AT g sp:=
 Ac T221.ok (Ac T219.ok (Ac T220.ok (fun g sp h=>by cases h)))
theorem bC{a:Bj}(h:ET a=true):Qj a=Co (Ah (zl a)):=by
 have hn:=bF h;obtain⟨hr,hw⟩:=Er h;unfold Qj;by_cases h0:a.1<0
 ·rw[if_pos h0,Aq];unfold EV;have hneg:=hn.1 h0;split
  ·next c=>rw[BF c.1]at hneg ⊢;rw[BI (by omega)];congr 1;omega
  ·congr 1;omega
 ·rw[if_neg h0];obtain⟨s,w⟩:=a;have h0:¬s<0:=h0;rcases hw with hw|⟨h1,h2,h3⟩
  ·have hw:w=[]:=hw;subst hw;have hr: -9223372036854775808≤s∧s<9223372036854775808:=hr;rw[Es,Aq,BI (by omega)];congr 1;omega
  ·obtain⟨_,d,z⟩:=Eg h1;have h2:s=1∨s= -1:=h2;have h3:9223372036854775808≤Ao w:=h3;have hne:w≠[]:=by rintro rfl;exact absurd h3 (by decide)
   have hs:s=1:=by omega
   subst hs;rw[VW hne,if_neg (by decide),Aq];have:=Pm (w:=w) false d z h3;rw[if_neg (by decide),if_neg (by decide)]at this;rw[show((Ao w).natAbs:Int)=Ao w by omega,this]
theorem Wu(n:Int):ML (Cc n,Cb n)=Yh n:=by
 show Yh (zl (Co _))=_;rw[Cu]
theorem N7(n:Int):zl (Cc n,Cb n)=n:=Cu n
theorem TS(m n:Int):WJ (Cc m,Cb m) (Cc n,Cb n)=Cc (m % n)∧W8 (Cc m,Cb m) (Cc n,Cb n)=Cb (m % n):=by
 constructor
 ·show Cc (zl (Co _) % zl (Co _))=_;rw[Cu,Cu]
 ·show Cb (zl (Co _) % zl (Co _))=_;rw[Cu,Cu]
theorem GZ{n:Int}(h:BL (Co n)=true):BL (Cc n,Cb n)=true:=h
theorem K2{a:Bj}(h:ET a=true):Mw a=Cc (Ah (zl a))∧Lz a=Cb (Ah (zl a)):=by
 unfold Mw Lz;rw[bC h];exact⟨rfl,rfl⟩
theorem QH(x y:Nat):((x:Int) % (y:Int))=((x % y:Nat):Int):=rfl
theorem Yy(a b:Bj)(n:Int)(h:n=Sp.gI (zl a) (zl b)):(Cc n,Cb n)=(QK a b,QE a b):=by subst h;rfl
namespace T181
variable {Q:PV→Ob→Prop}
theorem Yv(n:Nat)(h:(n:Int)<(Am:Int)^9000):BL (Co (n:Int))=true:=Gz (by rw[Aq,Int.natAbs_natCast];exact h)
theorem Ak(g:Nat)(o2 L:Int)(hL:∀n:Nat,(n:Int)<L→BL (Co (n:Int))=true)(hq:∀ob,Q (.agg [.dat i64 (Cc (g:Int)),.dat (.nlist u64) (Cb (g:Int))]) ob):∀(f x y:Nat),y<f→yD x y=g→(x:Int)<L→(y:Int)<L→
  Ends fP (L1 o2 (Cc (y:Int)) (Cb (y:Int)) (Cc (x:Int)) (Cb (x:Int))) Q
 |0,x,y,h,_,_,_=>by omega
 |f+1,x,y,hy,hg,bx,by'=>by
  have jx:BL (Co (x:Int))=true:=hL x bx;have jy:BL (Co (y:Int))=true:=hL y by'
  refine zn (Ai ..) (zc (G6 (GZ jy)).1 ?_);rw[Wu,(TS _ _).1,(TS _ _).2,N7,QH];by_cases h0:y=0
  ·subst h0;rw[Nat.gcd_zero_right]at hg;subst hg;exact zy rfl (zm (hq _))
  ·have hlt:x % y<y:=Nat.mod_lt _ (by omega);refine zc ?_ (zc (Aj (Aj (GZ jx) (GZ jy)) (decide_eq_true (by omega))) ?_)
   ·rw[Jc,if_neg (by omega),if_pos (by omega)];rfl
   ·exact Ak g o2 L hL hq f y (x % y) (by omega) (by rw[yu, ←Nat.gcd_rec,yu];exact hg) by' (by omega)
set_option maxRecDepth 10000 in
theorem ok:Ad AT 181 cL:=by
 refine Av (X:=fP) rfl aD (d:=9) (by kernel_rfl) (by kernel_rfl) (by kernel_rfl) (fun(i:(Int×List Int)×(Int×List Int)) hi=>?_) (Ab (by kernel_rfl));obtain⟨a,b⟩:=i;have hi:(BL a&&BL b)=true:=hi;rw[zh]at hi;obtain⟨ha,hb⟩:=hi;have oa:=(G6 ha).1;have ob:=(G6 hb).1;have ba:=bounds ha;have bb:=bounds hb;rw[Aq]at ba bb;refine zL (An a b) (zc oa (zc ob ?_));show Ends fP (L1 0 (Mw b) (Lz b) (Mw a) (Lz a)) _;rw[(K2 oa).1,(K2 oa).2,(K2 ob).1,(K2 ob).2,Aq,Aq];refine Ak (yD (zl a).natAbs (zl b).natAbs) 0 _ Yv (fun ob=>zT rfl rfl (Yy a b _ ?_)) ((zl b).natAbs+1) _ _ (Nat.lt_succ_self _) rfl ba bb;rw[Iz];rfl
end T181
end Go.Pe
end
section
namespace Go.Pe
open Sp
open Go.Det
theorem gU(n:Nat)(h:n<9223372036854775808):Gq .i64 (n:Int) 1=((n % 2:Nat):Int):=by
 have e:(z8 64 (n:Int)&&&z8 64 1).toNat=n % 2:=by
  rw[BitVec.toNat_and];have h1:(z8 64 (n:Int)).toNat=n:=by rw[BitVec.ofInt_natCast,BitVec.toNat_ofNat];exact Nat.mod_eq_of_lt (by omega)
  have h2:(z8 64 1).toNat=2^1-1:=by decide
  rw[h1,h2,Nat.and_two_pow_sub_one_eq_mod]
 show zf .i64 (((z8 64 (n:Int)&&&z8 64 1).toNat:Nat):Int)=_;rw[e];exact wr _ (by omega) (by omega)
namespace T225
variable {Q:PV→Ob→Prop}
theorem QR{c:Int}(h:c≠0):1≤Ah c:=by rw[Aq];omega
theorem Tm(c:Int):∀k:Nat,Ah (c^k)=Ah c^k
 |0=>by rw[zG,zG];rfl
 |k+1=>by rw[zr,zr,I1,Tm c k]
theorem one_le_pow{c:Int}(h:1≤c):∀k:Nat,1≤c^k
 |0=>by rw[zG];decide
 |k+1=>by
  rw[zr];have:=zk (one_le_pow h k) (show 0≤c by omega);omega
theorem iH{p c L:Int}{k:Nat}(hL:1<L)(h:Ah (p*c^k)<L)(h1:c=0→Ah p≤1)(h2:c≠0→p≠0):Ah p<L∧(1≤k→Ah c<L)∧(2≤k→Ah (c*c)<L)∧(1≤k→Ah (p*c)<L):=by
 by_cases hc:c=0
 ·subst hc;have:=h1 rfl;have e:Ah 0=0:=rfl;exact⟨by omega,fun _=>by rw[e];omega,fun _=>by rw[z9,e];omega,fun _=>by rw[z9,e];omega⟩
 ·have hp:=QR (h2 hc);have hc1:=QR hc;rw[I1,Tm]at h;rw[I1,I1];generalize Ah p=P at*;generalize Ah c=C at*;have k0:1≤C^k:=one_le_pow hc1 k;have a1:P≤P*C^k:=by
   have:=zi k0 (show 0≤P by omega);omega
  have aC:C^k≤P*C^k:=by
   have:=zk hp (show 0≤C^k by omega);omega
  refine⟨by omega,fun hk=>?_,fun hk=>?_,fun hk=>?_⟩
  ·obtain⟨j,rfl⟩:∃j,k=j+1:=⟨k-1,by omega⟩;rw[zr]at aC h;have:=zk (one_le_pow hc1 j) (show 0≤C by omega);omega
  ·obtain⟨j,rfl⟩:∃j,k=j+2:=⟨k-2,by omega⟩;have e:C^(j+2)=C^j*(C*C):=by rw[zr,zr,zD]
   rw[e]at aC h;have:=zk (one_le_pow hc1 j) (zE (show 0≤C by omega) (show 0≤C by omega));omega
  ·obtain⟨j,rfl⟩:∃j,k=j+1:=⟨k-1,by omega⟩;have e:P*C^(j+1)=C^j*(P*C):=by rw[zr,zM]
   rw[e]at h;have:=zk (one_le_pow hc1 j) (zE (show 0≤P by omega) (show 0≤C by omega));omega
theorem UZ{p c:Int}{k j:Nat}(h:k=2*j):p*(c*c)^j=p*c^k:=by
 subst h;rw[Int.pow_mul,zr,zr,zG,zN]
theorem W5{p c:Int}{k j:Nat}(h:k=2*j+1):p*c*(c*c)^j=p*c^k:=by
 subst h;rw[zr,Int.pow_mul,show c^2=c*c by rw[zr,zr,zG,zN],zD,zz c]
theorem iT{x:Int}(h:x<(18446744073709551616:Int)^(4000:Nat)):x<(Am:Int)^9000:=
 z5 h (AU (b:=Am) (by decide) (by omega))
theorem Ak(o1 R:Int)(hR:Ah R<(18446744073709551616:Int)^(4000:Nat))(hq:∀ob,Q (.agg [.dat i64 (Cc R),.dat (.nlist u64) (Cb R)]) ob):
  ∀(f k:Nat) (p:Int) (a:Bj),k<f→k≤100000→(1≤k→BL a=true)→p*zl a^k=R→(zl a=0→Ah p≤1)→(zl a≠0→p≠0)→
   Ends fM (L1 (k:Int) (Cc p) (Cb p) o1 a.1 a.2) Q
 |0,k,p,a,h,_,_,_,_,_=>by omega
 |f+1,k,p,a,hk,hk2,ha,he,h1,h2=>by
  have hL:(1:Int)<(18446744073709551616:Int)^(4000:Nat):=z5 (show(1:Int)<18446744073709551616^(1:Nat)by decide) (AU (b:=18446744073709551616) (by decide) (by omega));rw[←he]at hR;obtain⟨s1,s2,s3,s4⟩:=iH hL hR h1 h2;by_cases h0:k=0
  ·subst h0;rw[zG,zW]at he;subst he;exact zn (Ai ..) (zy (by simp) (zm (hq _)))
  ·have jp:BL (Cc p,Cb p)=true:=Gz (iT s1);have ja:BL a=true:=ha (by omega);have ef:Int.fdiv (k:Int) ((2:Int)^(1:Nat))=((k/2:Nat):Int):=by
    rw[Int.fdiv_eq_ediv_of_nonneg _ (by decide)];rfl
   have m1:(GH (Cc p,Cb p) a,GB (Cc p,Cb p) a)=Co (p*zl a):=by
    show Co (zl (Co p)*zl a)=_;rw[Cu]
   have m1s:GH (Cc p,Cb p) (a.1,a.2)=Cc (p*zl a):=congrArg Prod.fst m1;have m1w:GB (Cc p,Cb p) (a.1,a.2)=Cb (p*zl a):=congrArg Prod.snd m1;have m2:zl (SK a a)=zl a*zl a:=Sv a a;have sq:∀q:Int,1<k→q*(zl a*zl a)^(k/2)=p*zl a^k→(zl a=0→Ah q≤1)→(zl a≠0→q≠0)→Ends fM (L1 ((k/2:Nat):Int) (Cc q) (Cb q) o1 (GH (a.1,a.2) (a.1,a.2)) (GB (a.1,a.2) (a.1,a.2))) Q:=by
    intro q hk1 hq' g1 g2;refine Ak o1 R (by rw[he]at hR;exact hR) hq f (k/2) q (SK a a) (by omega) (by omega) (fun _=>Gz (iT (s3 (by omega)))) (by rw[m2,hq',he]) (fun z=>g1 ?_) (fun z=>g2 ?_)
    ·rw[m2]at z;rcases Int.mul_eq_zero.1 z with z|z<;>exact z
    ·rintro z2;rw[m2,z2]at z;exact z rfl
   have st:∀q:Int,k=1→q=R→Ends fM (L1 ((k/2:Nat):Int) (Cc q) (Cb q) o1 a.1 a.2) Q:=by
    intro q hk1 hq';subst hk1 hq';exact zn (Ai ..) (zy (by simp) (zm (hq _)))
   refine zn (Ai ..) (zc (decide_eq_true (by omega)) ?_);rw[gU k (by omega),ef,m1s,m1w];refine zq (fun c=>?_) (fun c=>?_)
   ·have c:((k % 2:Nat):Int)=1:=by simpa using c
    refine zc (Aj jp ja) (zq (fun d=>zc (Aj ja ja) (zc rfl ?_)) (fun d=>zc rfl ?_))
    ·have d:=of_decide_eq_true d;refine sq _ (by omega) (W5 (by omega)) (fun z=>by rw[z,z9];decide) (fun z=>?_);exact Int.mul_ne_zero (h2 z) z
    ·have d:=of_decide_eq_false d;have hk1:k=1:=by omega
     refine st _ hk1 ?_;rw[←he,hk1,zr,zG,zN]
   ·have c:((k % 2:Nat):Int)≠1:=by simpa using c
    refine zq (fun d=>zc (Aj ja ja) (zc rfl ?_)) (fun d=>?_)
    ·have d:=of_decide_eq_true d;exact sq _ (by omega) (UZ (by omega)) h1 h2
    ·have d:=of_decide_eq_false d;omega
theorem Zv:∀g sp,fM.sp g=some sp→Ad AT g sp:=Ac T184n.ok (Ac T186.ok (fun g sp h=>by cases h))
theorem ok:Ad AT 225 XB:=by
 refine Av (X:=fM) rfl Zv (d:=9) (by kernel_rfl) (by kernel_rfl) (by kernel_rfl) (fun(i:(Int×List Int)×Int) hi=>?_) (Ab (by kernel_rfl));obtain⟨a,k⟩:=i;have hi:(BL a&&(decide (0≤k)&&decide (k≤100000)&&decide (Ah (Sp.pI (zl a) k)<(18446744073709551616:Int)^(4000:Nat))))=true:=hi;rw[zh,zh,zh,decide_eq_true_eq,decide_eq_true_eq,decide_eq_true_eq,Pv]at hi;obtain⟨ha,⟨k0,k1⟩,hR⟩:=hi;obtain⟨n,rfl⟩:=z7 k0;have e1:Dz 1=Cb 1:=by rw[CE];rfl
 refine zL (An a n) (zc rfl ?_);rw[e1];refine Ak (Q:=Ae XB (a,(n:Int))) 0 (zl a^n) hR (fun ob=>zT rfl rfl ?_) (n+1) n 1 a (by omega) (by omega) (fun _=>ha) (zN _) (fun _=>by decide) (fun _=>by decide);show Co _=Co (Sp.pI (zl a) (n:Int));rw[Pv];rfl
end T225
end Go.Pe
end
section
namespace Go.Sp
theorem MP{l:List Int}(h:H8 l=true):l.length≤20000∧At B9 l:=by
 unfold H8 at h;rw[zh,decide_eq_true_eq,yp]at h;exact⟨h.1,fun d hd=>by
  have:=h.2 d hd;rw[zh,decide_eq_true_eq,decide_eq_true_eq]at this;exact this⟩
theorem Jj{l:List Int}(h1:l.length≤20000)(h2:At B9 l):H8 l=true:=by
 unfold H8;rw[zh,decide_eq_true_eq,yp];exact⟨h1,fun d hd=>by
  have:=h2 d hd;rw[zh,decide_eq_true_eq,decide_eq_true_eq];exact this⟩
theorem cB{l:List Int}(h:hR l=true):l.length≤9000∧At B9 l:=by
 unfold hR at h;rw[zh,decide_eq_true_eq]at h;exact⟨h.2,(MP h.1).2⟩
theorem TP{l:List Int}(h1:l.length≤9000)(h2:At B9 l):hR l=true:=by
 unfold hR;rw[Jj (by omega) h2,yb];exact decide_eq_true h1
theorem EK{l:List Int}(h:Cq l=true):l.length≤20000∧At B9 l∧nz l:=by
 unfold Cq at h;rw[zh]at h;have:=MP h.1;exact⟨this.1,this.2,by
  have:=h.2;unfold eF at this;have:l.getLast?≠some 0:=of_decide_eq_true this;exact this⟩
theorem VG{l:List Int}(h1:l.length≤20000)(h2:At B9 l)(h3:nz l):Cq l=true:=by
 unfold Cq eF;rw[Jj h1 h2,yb];exact decide_eq_true h3
theorem FC{l:List Int}(h:At B9 l)(i:Nat):0≤l.getD i 0∧l.getD i 0<1000000000:=Nj (by decide) h i
theorem Fa{l:List Int}{x:Int}(h:At B9 l)(hx:0≤x∧x<1000000000):At B9 (l++[x]):=Ee h (fun d hd=>by rw[zZ]at hd;subst hd;exact hx)
theorem CA(l:List Int)(x:Int):val B9 (l++[x])=val B9 l+(B9:Int)^l.length*x:=by
 rw[Cv];simp[val]
theorem L0(i:Nat)(c:Int):(B9:Int)^(i+1)*c=(B9:Int)^i*(1000000000*c):=by
 rw[zr,zD];rfl
theorem FB{l:List Int}(h:At B9 l):Az l=CG (AY l):=T5 (by decide) h
theorem Py{n:Int}{k:Nat}(h0:0≤n)(h:n<(B9:Int)^k):(CG n).length≤k:=by
 refine OZ B9 (by decide) k n.toNat n.toNat ?_;have e:((B9^k:Nat):Int)=(B9:Int)^k:=Int.natCast_pow ..;rw[←e]at h;generalize B9^k=P at*;omega
theorem JI{n:Int}{k:Nat}(h0:0≤n)(h:n<(B9:Int)^k)(hk:k≤9000):Cq (CG n)=true∧hR (CG n)=true∧AY (CG n)=n∧(CG n).length≤k:=by
 have h1:=Py h0 h;have h2:=HR (b:=B9) (by decide) n;exact⟨VG (by omega) h2 (Ts (by decide) n),TP (by omega) h2,Dj (by decide) h0,h1⟩
end Go.Sp
namespace Go.Pe
open Sp
open Go.Det
theorem OO:∀g sp,Us.sp g=some sp→Ad AT g sp:=fun g sp h=>by cases h
namespace T267
theorem Ak{Q:PV→Ob→Prop}:∀(n:Nat) (w:List Int),w.length=n→n≤20000→(∀ob,Q (.dat li (Az w)) ob)→Ends Us (L1 w) Q
 |0,w,hl,_,hq=>by
  have:w=[]:=zB.1 hl;subst this;exact zn (Ai ..) (zy (by simp) (zm (hq _)))
 |n+1,w,hl,hn,hq=>by
  obtain⟨p,x,rfl⟩:∃p x,w=p++[x]:=by
   have hne:w≠[]:=by rintro rfl;simp at hl
   exact⟨w.dropLast,w.getLast hne,(yd hne).symm⟩
  have hp:p.length=n:=by simpa using hl
  have e1:zf .i64 (((p++[x]).length:Int)-1)=(n:Int):=by rw[wr _ (by omega) (by omega)];omega
  have g1:(p++[x]).getD n 0=x:=Cj _ _ _ _ hp;have t1:(p++[x]).take n=p:=by rw[←hp];exact List.take_left
  refine zn (Ai ..) (zc (decide_eq_true (by omega)) ?_);rw[e1,zg,g1,t1];refine zc (by simp;omega) (zq (fun c=>zc (by simp;omega) ?_) (fun c=>?_))
  ·have c:x=0:=by simpa using c
   subst c;rw[G5]at hq;exact Ak n p hp (by omega) hq
  ·have c:x≠0:=by simpa using c
   rw[G0 (T1 c)]at hq;exact zm (hq _)
theorem ok:Ad AT 267 SD:=by
 refine Av (X:=Us) rfl OO (d:=9) (by kernel_rfl) (by kernel_rfl) (by kernel_rfl) (fun(w:List Int) hw=>?_) (Ab (by kernel_rfl));have hw:w.length≤20000:=of_decide_eq_true hw;exact zL (An w) (Ak w.length w rfl hw (fun ob=>zT rfl rfl rfl))
end T267
theorem Pc:∀g sp,SC.sp g=some sp→Ad AT g sp:=Ac T267.ok (fun g sp h=>by cases h)
theorem T264.ok:Ad AT 264 Ml:=by
 refine Av (X:=SC) rfl Pc (d:=9) (by kernel_rfl) (by kernel_rfl) (by kernel_rfl) (fun(i:Bool×List Int) hi=>?_) (Ab (by kernel_rfl));obtain⟨n,w⟩:=i;refine zL (T264.An n w) (zc hi (zq (fun c=>zm (zT rfl rfl ?_)) (fun c=>zm (zT rfl rfl ?_))))
 ·show(decide (((Az w).length:Int)>0),Az w)=(Ey n w,Az w);unfold Ey;rw[c,yb];congr 1;rw[decide_eq_decide];constructor
  ·intro h h2;rw[h2]at h;simp at h
  ·intro h;have:(Az w).length≠0:=fun h2=>h (zB.1 h2)
   omega
 ·show(false,Az w)=(Ey n w,Az w);unfold Ey;rw[c];rfl
namespace T265
theorem Ak{Q:PV→Ob→Prop}(a b:List Int)(ha:At zd a)(hb:At zd b)(hl:a.length=b.length)(h2:b.length≤20000)(hq:∀ob,Q (.dat i64 (Bz (AY a) (AY b))) ob):∀(i:Nat),i≤a.length→a.drop i=b.drop i→Ends Us (L1 a b ((i:Int)-1)) Q
 |0,hi,he=>by
  have he:a=b:=he;have:Bz (AY a) (AY b)=0:=by rw[he];unfold Bz;simp
  rw[this]at hq;exact zn (Ai ..) (zy (by simp) (zm (hq _)))
 |i+1,hi,he=>by
  have e1:(((i+1:Nat):Int)-1)=(i:Int):=by omega
  have da:a.drop i=a.getD i 0::a.drop (i+1):=Ci (by omega);have db:b.drop i=b.getD i 0::a.drop (i+1):=by rw[he];exact Ci (by omega)
  rw[e1];refine zn (Ai ..) (zc (by simp) ?_);rw[zg];refine zc (by simp;omega) (zc (by simp;omega) (zq (fun d=>?_) (fun d=>zc (by simp;omega) (zc (by simp;omega) (zq (fun c=>?_) (fun c=>?_))))))
  ·have d:=of_decide_eq_true d;have:=HC (b:=zd) (by decide) ha hb da db d;have e:Bz (AY a) (AY b)= -1:=by unfold Bz;exact if_pos this
   rw[e]at hq;exact zm (hq _)
  ·have c:=of_decide_eq_true c;have:=HC (b:=zd) (by decide) hb ha db da c;have e:Bz (AY a) (AY b)=1:=by unfold Bz AY;rw[if_neg (by omega),if_pos (by omega)]
   rw[e]at hq;exact zm (hq _)
  ·have c:=of_decide_eq_false c;have d:=of_decide_eq_false d;rw[wr ((i:Int)-1) (by omega) (by omega)];exact Ak a b ha hb hl h2 hq i (by omega) (by rw[da,db,show a.getD i 0=b.getD i 0 by omega])
theorem ok:Ad AT 265 XP:=by
 refine Av (X:=Us) rfl OO (d:=9) (by kernel_rfl) (by kernel_rfl) (by kernel_rfl) (fun(i:List Int×List Int) hi=>?_) (Ab (by kernel_rfl));obtain⟨a,b⟩:=i;have hi:(Cq a&&Cq b)=true:=hi;rw[zh]at hi;obtain⟨a1,a2,a3⟩:=EK hi.1;obtain⟨b1,b2,b3⟩:=EK hi.2;have hq:∀ob,Ae XP (a,b) (.dat i64 (Bz (AY a) (AY b))) ob:=fun ob=>zT rfl rfl rfl
 refine zL (An a b) (zq (fun c=>zq (fun d=>?_) (fun d=>?_)) (fun c=>?_))
 ·have d:=of_decide_eq_true d;have e:Bz (AY a) (AY b)= -1:=by unfold Bz;exact if_pos (DS (by decide) a2 b2 b3 (by omega))
  rw[e]at hq;exact zm (hq _)
 ·have d:=of_decide_eq_false d;have c:(a.length:Int)≠b.length:=by simpa using c
  have:=DS (b:=zd) (by decide) b2 a2 a3 (by omega);have e:Bz (AY a) (AY b)=1:=by
   unfold Bz AY;rw[if_neg (by omega),if_pos (by omega)]
  rw[e]at hq;exact zm (hq _)
 ·have c:(a.length:Int)=b.length:=by simpa using c
  rw[wr _ (by omega) (by omega)];exact Ak a b a2 b2 (by omega) b1 hq a.length (by omega) (by rw[yo,yv (by omega)])
end T265
theorem U3{x y o c:Int}(hx:0≤x∧x<1000000000)(hy:0≤y∧y<1000000000)(ho:0≤o∧o<1000000000)(hc:0≤c∧c<1000000000):
  zf .i64 (zf .i64 (o+zf .i64 (x*y))+c)=o+x*y+c∧yh (o+x*y+c) 1000000000=(o+x*y+c) % 1000000000∧zf .i64 (zP (o+x*y+c) 1000000000)=(o+x*y+c)/1000000000∧
  (0≤(o+x*y+c)/1000000000∧(o+x*y+c)/1000000000<1000000000)∧(0≤(o+x*y+c) % 1000000000∧(o+x*y+c) % 1000000000<1000000000):=by
 have h0:0≤x*y:=zE hx.1 hy.1;have h1:x*y≤999999999*999999999:=by
  have a:=zi (show y≤999999999 by omega) hx.1;have b:=zk (show x≤999999999 by omega) (show(0:Int)≤999999999 by omega);omega
 generalize x*y=P at*;have e1:zf .i64 P=P:=wr _ (by omega) (by omega);have e2:zf .i64 (o+P)=o+P:=wr _ (by omega) (by omega);have e3:zP (o+P+c) 1000000000=(o+P+c)/1000000000:=zt (by omega);refine⟨?_,zx (by omega),?_,by omega,by omega⟩
 ·rw[e1,e2];exact wr _ (by omega) (by omega)
 ·rw[e3];exact wr _ (by omega) (by omega)
namespace T268
variable {Q:PV→Ob→Prop}
theorem AN(x y:List Int)(n i:Nat)(hi:i<x.length)(hn:n=x.length+y.length)(hx9:x.length≤9000)(hy9:y.length≤9000)(hx:At zd x)(hy:At zd y)(p:List Int)(hp:p.length=i+y.length)(hdp:At zd p)
  (hq:∀q c,q.length=i+y.length→At zd q→(0≤c∧c<1000000000)→ze zd q+(zd:Int)^(i+y.length)*c=ze zd p+(zd:Int)^i*(x.getD i 0*ze zd y)→Ends SC (L1 x y n ((i+1:Nat):Int) ((q++[c])++zo (n-(i+y.length+1)) 0)) Q):∀(k j:Nat) (q:List Int) (c:Int),j+k=y.length→q.length=i+j→At zd q→(0≤c∧c<1000000000)→ze zd q+(zd:Int)^(i+j)*c=ze zd (p.take (i+j))+(zd:Int)^i*(x.getD i 0*ze zd (y.take j))→
  Ends SC (L2 x y n i c j (q++(p.drop (i+j)++zo (n-(i+y.length)) 0))) Q
 |0,j,q,c,hj,hl,hd,hc,he=>by
  have hj:j=y.length:=by omega
  subst hj;have e1:zf .i64 ((i:Int)+(y.length:Int))=((i+y.length:Nat):Int):=by rw[wr _ (by omega) (by omega)];omega
  have e2:zf .i64 ((i:Int)+1)=((i+1:Nat):Int):=by rw[wr _ (by omega) (by omega)];omega
  have ed:p.drop (i+y.length)=[]:=yv (by omega);have eg:(q++zo (n-(i+y.length)) (0:Int)).getD (i+y.length) 0=0:=by
   have:n-(i+y.length)=(n-(i+y.length+1))+1:=by omega
   rw[this,List.replicate_succ];exact Cj _ _ _ _ hl
  refine zn (AM ..) (zy (by simp) ?_);rw[e1,e2,zg,ed,ye,eg,Int.zero_add,wr c (by omega) (by omega),HI q n _ c hl (by omega)];refine zc (by simp;omega) (zc (by simp;omega) (zc (by simp;omega) (zc (by simp;omega) (hq q c hl hd hc ?_))));rw[he,zj (by omega),zQ]
 |k+1,j,q,c,hj,hl,hd,hc,he=>by
  have gx:=FC hx i;have gy:=FC hy j;have gp:=FC hdp (i+j);have ep:p.drop (i+j)=p.getD (i+j) 0::p.drop (i+j+1):=Ci (by omega);have e1:zf .i64 ((i:Int)+(j:Int))=((i+j:Nat):Int):=by rw[wr _ (by omega) (by omega)];omega
  have e2:zf .i64 ((j:Int)+1)=((j+1:Nat):Int):=by rw[wr _ (by omega) (by omega)];omega
  have lo:(q++(p.drop (i+j)++zo (n-(i+y.length)) (0:Int))).length=n:=by simp;omega
  have g1:(q++(p.drop (i+j)++zo (n-(i+y.length)) (0:Int))).getD (i+j) 0=p.getD (i+j) 0:=by
   rw[ep,List.cons_append];exact Cj _ _ _ _ hl
  have s1:∀z,(q++(p.drop (i+j)++zo (n-(i+y.length)) (0:Int))).set (i+j) z=(q++[z])++(p.drop (i+(j+1))++zo (n-(i+y.length)) 0):=by
   intro z;rw[ep,List.cons_append,Ch _ _ _ _ hl,ya];rfl
  obtain⟨m1,m2,m3,m4,m5⟩:=U3 gx gy gp hc;refine zn (AM ..) (zc (by simp;omega) ?_);rw[e1,e2,zg,zg,zg,g1,m1,m2,m3,s1];have t1:(decide ((0:Int)≤((i+j:Nat):Int))&&decide (((i+j:Nat):Int)<(n:Int)))=true:=by simp;omega
  refine zc t1 (zc (decide_eq_true (by rw[lo];omega)) (zc (by simp;omega) (zc (by simp;omega) (zc rfl (zc t1 (zc (decide_eq_true (by rw[lo];omega)) (zc rfl ?_)))))));refine AN x y n i hi hn hx9 hy9 hx hy p hp hdp hq k (j+1) _ _ (by omega) (by simp;omega) (Fa hd m5) m4 ?_;have ea:i+(j+1)=(i+j)+1:=by omega
  have eb:(zd:Int)^i*(x.getD i 0*((zd:Int)^j*y.getD j 0))=(zd:Int)^(i+j)*(x.getD i 0*y.getD j 0):=by
   rw[Int.pow_add,zD,zM (x.getD i 0)]
  have e6:(p.getD (i+j) 0+x.getD i 0*y.getD j 0+c) % 1000000000+1000000000*((p.getD (i+j) 0+x.getD i 0*y.getD j 0+c)/1000000000)=x.getD i 0*y.getD j 0+p.getD (i+j) 0+c:=by
   generalize x.getD i 0*y.getD j 0=P;omega
  rw[ea,CA,hl,L0,yA, ←zA,e6,Ax _ p (i+j),Ax _ y j,zA,zA,zA (x.getD i 0),zA,eb];omega
theorem Ak(x y:List Int)(n:Nat)(hn:n=x.length+y.length)(hx9:x.length≤9000)(hy9:y.length≤9000)(hx:At zd x)(hy:At zd y)(hq:∀ob,Q (.dat li (CG (AY x*AY y))) ob):∀(k i:Nat) (p:List Int),i+k=x.length→p.length=i+y.length→At zd p→ze zd p=ze zd (x.take i)*ze zd y→
  Ends SC (L1 x y n i (p++zo (n-(i+y.length)) 0)) Q
 |0,i,p,hi,hp,hd,he=>by
  have hi:i=x.length:=by omega
  subst hi;have ez:p++zo (n-(x.length+y.length)) (0:Int)=p:=by rw[hn,Nat.sub_self];simp
  have hv:AY p=AY x*AY y:=by
   rw[zQ]at he;exact he
  rw[ez];refine zn (Ai ..) (zy (by simp) ?_);rw[zj (by omega)];refine zc ?_ (zm ?_)
  ·simp;omega
  ·rw[FB hd,hv];exact hq _
 |k+1,i,p,hi,hp,hd,he=>by
  refine zn (Ai ..) (zc (by simp;omega) ?_);have:=AN (Q:=Q) x y n i (by omega) hn hx9 hy9 hx hy p hp hd (fun q c hl hdq hc hv=>by
   have:=Ak x y n hn hx9 hy9 hx hy hq k (i+1) (q++[c]) (by omega) (by simp;omega) (Fa hdq hc) (by
    rw[CA,hl,hv,he,Ax,Int.add_mul,zD])
   rw[show i+1+y.length=i+y.length+1 by omega]at this;exact this) y.length 0 (p.take i) 0 (by omega) (by simp;omega) (AH hd i) (by decide) (by simp[ze])
  rw[Nat.add_zero, ←ya,zU]at this;exact this
theorem ok:Ad AT 268 X3:=by
 refine Av (X:=SC) rfl Pc (d:=9) (by kernel_rfl) (by kernel_rfl) (by kernel_rfl) (fun(i:List Int×List Int) hi=>?_) (Ab (by kernel_rfl));obtain⟨x,y⟩:=i;have hi:(Sp.hR x&&Sp.hR y)=true:=hi;rw[zh]at hi;obtain⟨x1,x2⟩:=cB hi.1;obtain⟨y1,y2⟩:=cB hi.2;have e1:zf .i64 ((x.length:Int)+(y.length:Int))=((x.length+y.length:Nat):Int):=by rw[wr _ (by omega) (by omega)];omega
 refine zL (An x y) ?_;conv=>zeta
 rw[e1,zg];refine zc (by simp;omega) ?_;have:=Ak (Q:=Ae X3 (x,y)) x y (x.length+y.length) rfl x1 y1 x2 y2 (fun ob=>zT rfl rfl rfl) x.length 0 (zo y.length 0) (by omega) (by simp) (fun d hd=>by rw[(List.mem_replicate.1 hd).2];decide) (by rw[JK];simp[ze]);rw[Nat.zero_add,List.replicate_append_replicate,show y.length+(x.length+y.length-y.length)=x.length+y.length by omega]at this;exact this
end T268
theorem U8{r x d:Int}(hd:0<d∧d<1000000000)(hr:0≤r∧r<d)(hx:0≤x∧x<1000000000):
  zf .i64 (zf .i64 (r*1000000000)+x)=r*1000000000+x∧zf .i64 (zP (r*1000000000+x) d)=(r*1000000000+x)/d∧yh (r*1000000000+x) d=(r*1000000000+x) % d∧
  (0≤(r*1000000000+x)/d∧(r*1000000000+x)/d<1000000000)∧(0≤(r*1000000000+x) % d∧(r*1000000000+x) % d<d)∧(r*1000000000+x)/d*d+(r*1000000000+x) % d=r*1000000000+x:=by
 have h:=zJ (r*1000000000+x) d;rw[zz]at h;have q0:0≤(r*1000000000+x)/d:=yw (by omega) (by omega);have q1:(r*1000000000+x)/d<1000000000:=Int.ediv_lt_of_lt_mul hd.1 (by omega);refine⟨?_,?_,zx (by omega),⟨q0,q1⟩,⟨zY _ (by omega),zS _ hd.1⟩,h⟩
 ·rw[wr (r*1000000000) (by omega) (by omega)];exact wr _ (by omega) (by omega)
 ·rw[zt (by omega)];exact wr _ (by omega) (by omega)
namespace T266
variable {Q:PV→Ob→Prop}
theorem Ak(a:List Int)(d:Int)(ha:At zd a)(hd:0<d∧d<1000000000)(hm:a.length≤20000)(hq:∀q r ob,At zd q→(0≤r∧r<d)→AY a=AY q*d+r→Q (.tup [.dat li (Az q),.dat i64 r]) ob):∀(i:Nat) (q:List Int) (r:Int),i+q.length=a.length→At zd q→(0≤r∧r<d)→ze zd (a.drop i)=ze zd q*d+r→
  Ends SC (L1 a d a.length r ((i:Int)-1) (zo i 0++q)) Q
 |0,q,r,hl,hdq,hr,he=>by
  have ht:((zo 0 0++q).take a.length)=q:=by
   rw[List.replicate_zero,ye];exact zj (by omega)
  refine zn (Ai ..) (zy (by simp) ?_);rw[ht];refine zc (Aj (by simp;omega) (decide_eq_true (by omega))) (zm (hq q r _ hdq hr he))
 |i+1,q,r,hl,hdq,hr,he=>by
  have e1:(((i+1:Nat):Int)-1)=(i:Int):=by omega
  have gx:=FC ha i;obtain⟨d1,d2,d3,d4,d5,d6⟩:=U8 hd hr gx;have da:a.drop i=a.getD i 0::a.drop (i+1):=Ci (by omega);have es:∀x,(zo (i+1) (0:Int)++q).set i x=zo i 0++(x::q):=by
   intro x;rw[List.replicate_succ',ya];exact Ch _ _ _ _ (by simp)
  rw[e1];refine zn (Ai ..) (zc (by simp) ?_);rw[zg,es,wr ((i:Int)-1) (by omega) (by omega),d1,d2,d3];refine zc (by simp;omega) (zc (decide_eq_true (by omega)) (zc (by simp;omega) (zc (by simp;omega) (zc (decide_eq_true (by omega)) ?_))));refine Ak a d ha hd hm hq i _ _ (by simp;omega) (fun x hx=>?_) d5 ?_
  ·rcases yn.1 hx with rfl|hx
   ·exact d4
   ·exact hdq x hx
  ·rw[da];show a.getD i 0+(1000000000:Int)*ze zd (a.drop (i+1))=((r*1000000000+a.getD i 0)/d+(1000000000:Int)*ze zd q)*d+(r*1000000000+a.getD i 0) % d;rw[he,Int.add_mul,zA,zD];omega
theorem ok:Ad AT 266 RW:=by
 refine Av (X:=SC) rfl Pc (d:=9) (by kernel_rfl) (by kernel_rfl) (by kernel_rfl) (fun(i:List Int×Int) hi=>?_) (Ab (by kernel_rfl));obtain⟨a,d⟩:=i;have hi:(H8 a&&decide (0<d)&&decide (d<1000000000))=true:=hi;rw[zh,zh,decide_eq_true_eq,decide_eq_true_eq]at hi;obtain⟨⟨ha,d0⟩,d1⟩:=hi;obtain⟨hl,hda⟩:=MP ha;refine zL (An a d) ?_;conv=>zeta
 rw[zg,wr ((a.length:Int)-1) (by omega) (by omega)];refine zc (by simp;omega) ?_;have:=Ak (Q:=Ae RW (a,d)) a d hda ⟨d0,d1⟩ hl (fun q r ob hq hr he=>?_) a.length [] 0 (by simp) (fun x hx=>by cases hx) ⟨yx _,d0⟩ (by rw[yo];simp[ze])
 ·rw[yc]at this;exact this
 ·refine zT rfl rfl ?_;show(Az q,r)=(CG (AY a/d),AY a % d);obtain⟨u1,u2⟩:=(zK (a:=AY a) (b:=d) (r:=r) (q:=AY q) d0).2 ⟨by rw[zz d];omega,hr.1,hr.2⟩;rw[FB hq,u1,u2]
end T266
end Go.Pe
end
section
namespace Go.Pe
open Sp
open Go.Det
theorem Yn:∀g sp,Jw.sp g=some sp→Ad AT g sp:=
 Ac T265.ok (Ac T267.ok (Ac T266.ok (Ac T268.ok (fun g sp h=>by cases h))))
theorem PU{t x y w:Int}(ht:0≤t∧t<1000000000)(hx:0≤x∧x<1000000000)(hy:0≤y∧y<1000000000)(hw:0≤w∧w≤1000000000):
  zf .i64 (zf .i64 (t*x)+w)=t*x+w∧yh (t*x+w) 1000000000=(t*x+w) % 1000000000∧zf .i64 (zP (t*x+w) 1000000000)=(t*x+w)/1000000000∧
  zf .i64 ((t*x+w)/1000000000+1)=(t*x+w)/1000000000+1∧zf .i64 (y-(t*x+w) % 1000000000)=y-(t*x+w) % 1000000000∧(0≤(t*x+w)/1000000000∧(t*x+w)/1000000000<1000000000)∧(0≤(t*x+w) % 1000000000∧(t*x+w) % 1000000000<1000000000):=by
 have h0:0≤t*x:=zE ht.1 hx.1;have h1:t*x≤999999999*999999999:=by
  have a:=zi (show x≤999999999 by omega) ht.1;have b:=zk (show t≤999999999 by omega) (show(0:Int)≤999999999 by omega);omega
 generalize t*x=P at*;have e1:zf .i64 P=P:=wr _ (by omega) (by omega);have e3:zP (P+w) 1000000000=(P+w)/1000000000:=zt (by omega);refine⟨?_,zx (by omega),?_,wr _ (by omega) (by omega),wr _ (by omega) (by omega),by omega,by omega⟩
 ·rw[e1];exact wr _ (by omega) (by omega)
 ·rw[e3];exact wr _ (by omega) (by omega)
theorem UF(w r:List Int)(i:Nat)(h:i<w.length):(w++r).getD i 0=w.getD i 0:=by
 rw[zH,zH,List.getElem?_append_left h]
namespace T209
variable {Q:PV→Ob→Prop}
theorem gW{lo w z:List Int}{h:Int}{j i:Nat}(hlo:lo.length=j)(hi:i<w.length):(lo++(w++h::z)).getD (i+j) 0=w.getD i 0:=by
 rw[FI _ _ _ _ hlo,UF _ _ _ hi]
theorem sW{lo w z:List Int}{h:Int}{j i:Nat}(x:Int)(hlo:lo.length=j)(hi:i<w.length):(lo++(w++h::z)).set (i+j) x=lo++(w.set i x++h::z):=by
 rw[Pj _ _ _ _ _ hlo,List.set_append_left _ _ hi]
theorem gH{lo w z:List Int}{h:Int}{j n:Nat}(hlo:lo.length=j)(hn:w.length=n):(lo++(w++h::z)).getD (n+j) 0=h:=by
 rw[FI _ _ _ _ hlo];exact Cj _ _ _ _ hn
theorem sH{lo w z:List Int}{h:Int}{j n:Nat}(x:Int)(hlo:lo.length=j)(hn:w.length=n):(lo++(w++h::z)).set (n+j) x=lo++(w++x::z):=by
 rw[Pj _ _ _ _ _ hlo];congr 1;exact Ch _ _ _ _ hn
theorem K1(w z:List Int)(h:Int)(hz:ze zd z=0):ze zd (w++h::z)=ze zd w+(zd:Int)^w.length*h:=by
 rw[Cv];show _+_*(h+(zd:Int)*ze zd z)=_;rw[hz,z9,yB]
theorem BP(v8n v11n v12n:Nat)(o2 o0 v lo z:List Int)(n j:Nat)(t h' X:Int)(hn:v.length=n)(hn9:n≤9000)(hlo:lo.length=j)(hj:j≤9000)(h11:n+j<v11n)(hjv:j<v12n)(hj1:j<o2.length)(hv:At zd v)(hz:ze zd z=0)(hdz:At zd z)(hh: -2000000000≤h'∧h'≤2000000000)
  (hX:0≤X∧X<(zd:Int)^n) (hlen:v11n=j+n+1+z.length)
  (hfin:∀r:List Int,r.length=n+1+z.length→At zd r→ze zd r=X→Ends Jw (L2 v8n v n v11n v12n (zf .i64 ((j:Int)-1)) (o2.set j t) (lo++r) o0) Q):
  ∀(k i:Nat) (w:List Int) (c:Int),i+k=n→w.length=n→At zd w→(0≤c∧c≤1)→ze zd w+(zd:Int)^n*h'=X-ze zd v+ze zd (v.take i)-(zd:Int)^i*c→
   Ends Jw (L5 v8n v n v11n v12n j t c i o2 (lo++(w++h'::z)) o0) Q
 |0,i,w,c,hi,hw,hd,hc,he=>by
  have hi:i=n:=by omega
  subst hi;have e1:zf .i64 ((j:Int)+(i:Int))=((i+j:Nat):Int):=by rw[wr _ (by omega) (by omega)];omega
  have hv1:v.take i=v:=zj (by omega);rw[hv1]at he;have a1:=Aw (b:=zd) (by decide) hd;have a2:=Bs (b:=zd) (by decide) hd;rw[hw]at a2;have hp:=AQ (b:=zd) (by decide) i;have e5:ze zd w+(zd:Int)^i*(h'+c)=X:=by rw[zA];omega
  have hzero:h'+c=0:=by
   rcases Int.lt_trichotomy (h'+c) 0 with g|g|g
   ·have:=zi (show h'+c≤ -1 by omega) (zu hp);rw[yy,zW]at this;omega
   ·exact g
   ·have:=zi (show 1≤h'+c by omega) (zu hp);rw[zW]at this;omega
  have hll:i+j<(lo++(w++h'::z)).length:=by simp;omega
  refine zn (CZ ..) (zy (by simp) ?_);rw[e1,zg,zg,gH hlo hw,sH _ hlo hw,wr (h'+c) (by omega) (by omega),hzero];have t1:(decide ((0:Int)≤((i+j:Nat):Int))&&decide (((i+j:Nat):Int)<(v11n:Int)))=true:=by simp;omega
  refine zc t1 (zc (decide_eq_true hll) (zc t1 (zc (decide_eq_true hll) (zc (by simp;omega) (zc (decide_eq_true hj1) (hfin _ (by simp;omega) (Ee hd (fun d hd'=>?_)) ?_))))))
  ·rcases yn.1 hd' with rfl|hd'
   ·decide
   ·exact hdz d hd'
  ·rw[K1 _ _ _ hz,hw, ←e5,hzero]
 |k+1,i,w,c,hi,hw,hd,hc,he=>by
  have gx:=FC hv i;have gy:=FC hd i;have e1:zf .i64 ((i:Int)+(j:Int))=((i+j:Nat):Int):=by rw[wr _ (by omega) (by omega)];omega
  have e2:zf .i64 ((i:Int)+1)=((i+1:Nat):Int):=by rw[wr _ (by omega) (by omega)];omega
  have e3:zf .i64 (zf .i64 (w.getD i 0+v.getD i 0)+c)=w.getD i 0+v.getD i 0+c:=by
   rw[wr (w.getD i 0+v.getD i 0) (by omega) (by omega)];exact wr _ (by omega) (by omega)
  have e4:yh (w.getD i 0+v.getD i 0+c) 1000000000=(w.getD i 0+v.getD i 0+c) % 1000000000:=zx (by omega);have e5:zf .i64 (zP (w.getD i 0+v.getD i 0+c) 1000000000)=(w.getD i 0+v.getD i 0+c)/1000000000:=by
   rw[zt (by omega)];exact wr _ (by omega) (by omega)
  have hll:i+j<(lo++(w++h'::z)).length:=by simp;omega
  refine zn (CZ ..) (zc (by simp;omega) ?_);rw[e1,e2,zg,zg,gW hlo (by omega),sW _ hlo (by omega),e3,e4,e5];have t1:(decide ((0:Int)≤((i+j:Nat):Int))&&decide (((i+j:Nat):Int)<(v11n:Int)))=true:=by simp;omega
  refine zc t1 (zc (decide_eq_true hll) (zc (by simp;omega) (zc rfl (zc t1 (zc (decide_eq_true hll) (zc rfl ?_))))));refine BP v8n v11n v12n o2 o0 v lo z n j t h' X hn hn9 hlo hj h11 hjv hj1 hv hz hdz hh hX hlen hfin k (i+1) _ _ (by omega) (by simp[hw]) (FR hd i (by show 0≤_∧_<(1000000000:Int);omega)) (by omega) ?_;rw[FX _ _ _ _ (by omega),L0,Ax];have e6:(zd:Int)^i*((w.getD i 0+v.getD i 0+c) % 1000000000-w.getD i 0)=(zd:Int)^i*v.getD i 0+(zd:Int)^i*c-(zd:Int)^i*(1000000000*((w.getD i 0+v.getD i 0+c)/1000000000)):=by
   rw[←zA, ←z6];congr 1;omega
  omega
theorem A5(v8n v11n v12n:Nat)(o2 o0 v lo z:List Int)(n j:Nat)(t h W:Int)(hn:v.length=n)(hn9:n≤9000)(hlo:lo.length=j)(hj:j≤9000)(h11:n+j<v11n)(hjv:j<v12n)(hj1:j<o2.length)(hv:At zd v)(hh:0≤h∧h<1000000000)(hlen:v11n=j+n+1+z.length)(ht:0≤t∧t<1000000000)
  (h0:∀(w:List Int) (h':Int),w.length=n→At zd w→0≤h'→ze zd w+(zd:Int)^n*h'=W-t*ze zd v→Ends Jw (L2 v8n v n v11n v12n (zf .i64 ((j:Int)-1)) (o2.set j t) (lo++(w++h'::z)) o0) Q)
  (h1:∀(w:List Int) (h':Int),w.length=n→At zd w→h'<0→ -2000000000≤h'→ze zd w+(zd:Int)^n*h'=W-t*ze zd v→Ends Jw (L5 v8n v n v11n v12n j (zf .i64 (t-1)) 0 0 o2 (lo++(w++h'::z)) o0) Q):
  ∀(k i:Nat) (w:List Int) (c:Int),i+k=n→w.length=n→At zd w→(0≤c∧c≤1000000000)→ze zd w+(zd:Int)^n*h=W-t*ze zd (v.take i)+(zd:Int)^i*c→
   Ends Jw (L4 v8n v n v11n v12n j t c i o2 (lo++(w++h::z)) o0) Q
 |0,i,w,c,hi,hw,hd,hc,he=>by
  have hi:i=n:=by omega
  subst hi;have e1:zf .i64 ((j:Int)+(i:Int))=((i+j:Nat):Int):=by rw[wr _ (by omega) (by omega)];omega
  have hv1:v.take i=v:=zj (by omega);rw[hv1]at he;have hll:i+j<(lo++(w++h::z)).length:=by simp;omega
  have hll2:i+j<(lo++(w++(h-c)::z)).length:=by simp;omega
  have e5:ze zd w+(zd:Int)^i*(h-c)=W-t*ze zd v:=by rw[z6];omega
  refine zn (BB ..) (zy (by simp) ?_);rw[e1,zg,zg,gH hlo hw,wr (h-c) (by omega) (by omega),sH _ hlo hw,gH hlo hw];have t1:(decide ((0:Int)≤((i+j:Nat):Int))&&decide (((i+j:Nat):Int)<(v11n:Int)))=true:=by simp;omega
  refine zc t1 (zc (decide_eq_true hll) (zc t1 (zc (decide_eq_true hll) (zc t1 (zc (decide_eq_true hll2) (zq (fun d=>?_) (fun d=>?_)))))))
  ·have d:=of_decide_eq_true d;exact h1 w (h-c) hw hd d (by omega) e5
  ·have d:=of_decide_eq_false d;exact zc (by simp;omega) (zc (decide_eq_true hj1) (h0 w (h-c) hw hd (by omega) e5))
 |k+1,i,w,c,hi,hw,hd,hc,he=>by
  have gx:=FC hv i;have gy:=FC hd i;obtain⟨m1,m2,m3,m4,m5,m6,m7⟩:=PU ht gx gy hc;have e1:zf .i64 ((i:Int)+(j:Int))=((i+j:Nat):Int):=by rw[wr _ (by omega) (by omega)];omega
  have e2:zf .i64 ((i:Int)+1)=((i+1:Nat):Int):=by rw[wr _ (by omega) (by omega)];omega
  have hll:i+j<(lo++(w++h::z)).length:=by simp;omega
  have t1:(decide ((0:Int)≤((i+j:Nat):Int))&&decide (((i+j:Nat):Int)<(v11n:Int)))=true:=by simp;omega
  have go:∀(x c':Int),(0≤x∧x<1000000000)→(0≤c'∧c'≤1000000000)→c+(x-w.getD i 0)=1000000000*c'-t*v.getD i 0→Ends Jw (L4 v8n v n v11n v12n j t c' ((i+1:Nat):Int) o2 (lo++(w.set i x++h::z)) o0) Q:=by
   intro x c' hx hc' hxc;refine A5 v8n v11n v12n o2 o0 v lo z n j t h W hn hn9 hlo hj h11 hjv hj1 hv hh hlen ht h0 h1 k (i+1) _ _ (by omega) (by simp[hw]) (FR hd i hx) hc' ?_;rw[FX _ _ _ _ (by omega),L0,Ax,zA t,zM t];have e6:(zd:Int)^i*c+(zd:Int)^i*(x-w.getD i 0)=(zd:Int)^i*(1000000000*c')-(zd:Int)^i*(t*v.getD i 0):=by
    rw[←zA, ←z6,hxc]
   omega
  refine zn (BB ..) (zc (by simp;omega) ?_);rw[e1,e2,zg,zg,gW hlo (by omega),m1,m2,m3,m4,m5,sW _ hlo (by omega),sW _ hlo (by omega)];refine zc (by simp;omega) (zc t1 (zc (decide_eq_true hll) (zc rfl (zc rfl (zq (fun d=>?_) (fun d=>?_))))))
  ·have d:=of_decide_eq_true d;rw[wr (w.getD i 0-(t*v.getD i 0+c) % 1000000000+1000000000) (by omega) (by omega)];refine zc t1 (zc (decide_eq_true hll) (go _ _ (by omega) (by omega) ?_));generalize t*v.getD i 0=P at*;omega
  ·have d:=of_decide_eq_false d;refine zc t1 (zc (decide_eq_true hll) (go _ _ (by omega) (by omega) ?_));generalize t*v.getD i 0=P at*;omega
theorem ZB(v8n v11n v12n:Nat)(o2 o0 v lo r0:List Int)(n j:Nat)(hn:v.length=n)(hn9:n≤9000)(hlo:lo.length=j)(hj:j≤9000)(hr:n+1≤r0.length)(hlen:v11n=j+r0.length)(hjv:j<v12n)(hj1:j<o2.length)(hv:At zd v)(hd:At zd r0)(hz:ze zd (r0.drop (n+1))=0)
  (hfin:∀(q:Int) (r:List Int),r.length=r0.length→At zd r→(0≤q∧q<1000000000)→ze zd r<ze zd v→ze zd r=ze zd r0-q*ze zd v→Ends Jw (L2 v8n v n v11n v12n (zf .i64 ((j:Int)-1)) (o2.set j q) (lo++r) o0) Q)
  (q:Int) (hq:0≤q∧q<1000000000) (h1:ze zd r0<(q+1)*ze zd v) (h2:q*ze zd v<ze zd r0+ze zd v):
  Ends Jw (L4 v8n v n v11n v12n j q 0 0 o2 (lo++r0) o0) Q:=by
 have hdec:r0=r0.take n++r0.getD n 0::r0.drop (n+1):=by
  rw[←Ci (by omega)];exact(zU n r0).symm
 have gh:=FC hd n;have hdw:=AH hd n;have hdz:=Fy hd (n+1);have hlw:(r0.take n).length=n:=by rw[zw];omega
 have hlz:(r0.drop (n+1)).length=r0.length-(n+1):=zp ..;have hW:ze zd r0=ze zd (r0.take n)+(zd:Int)^n*r0.getD n 0:=by
  conv=>lhs;rw[hdec]
  rw[K1 _ _ _ hz,hlw]
 have hVlt:=Bs (b:=zd) (by decide) hv;rw[hn]at hVlt;have hV0:=Aw (b:=zd) (by decide) hv;have hW0:=Aw (b:=zd) (by decide) hd;have hp:=AQ (b:=zd) (by decide) n;rw[Int.add_mul,zN]at h1;rw[hdec];refine A5 v8n v11n v12n o2 o0 v lo (r0.drop (n+1)) n j q (r0.getD n 0) (ze zd r0) hn hn9 hlo hj (by omega) hjv hj1 hv gh (by omega) hq (fun w h' a b c d=>?_) (fun w h' a b c c2 d=>?_) n 0 (r0.take n) 0 (by omega) hlw hdw (by decide) (by rw[←hW];simp[ze])
 ·have b0:=Aw (b:=zd) (by decide) b;have hz':h'=0:=by
   rcases zF 0 h' with g|g
   ·have:=zi (show 1≤h' by omega) (zu hp);omega
   ·omega
  refine hfin q _ (by simp;omega) (Ee b (fun x hx=>?_)) hq ?_ ?_
  ·rcases yn.1 hx with rfl|hx
   ·rw[hz'];decide
   ·exact hdz x hx
  ·rw[K1 _ _ _ hz,a,d];omega
  ·rw[K1 _ _ _ hz,a,d]
 ·have b0:=Bs (b:=zd) (by decide) b;rw[a]at b0;have hneg:ze zd r0-q*ze zd v<0:=by
   have:=zi (show h'≤ -1 by omega) (zu hp);rw[yy,zW]at this;omega
  have hq1:1≤q:=by
   rcases zF 0 q with g|g
   ·exact g
   ·have:q=0:=by omega
    subst this;rw[Int.zero_mul]at hneg;omega
  rw[wr (q-1) (by omega) (by omega)];refine BP v8n v11n v12n o2 o0 v lo (r0.drop (n+1)) n j (q-1) h' (ze zd r0-q*ze zd v+ze zd v) hn hn9 hlo hj (by omega) hjv hj1 hv hz hdz (by omega) (by omega) (by omega) (fun r a' b' d'=>?_) n 0 w 0 (by omega) a b (by decide) (by rw[d];simp[ze]<;>omega);refine hfin (q-1) r (by omega) b' (by omega) (by omega) ?_;rw[d',Int.sub_mul,zN];omega
theorem Bt(v8n v11n v12n:Nat)(o2 o0 v lo r0:List Int)(a2 a1 a0:List Int)(k j:Nat)(hn:v.length=k+2)(hn9:k+2≤9000)(hlo:lo.length=j)(hj:j≤9000)(hr:k+3≤r0.length)(hlen:v11n=j+r0.length)(hjv:j<v12n)(hj1:j<o2.length)(hv:At zd v)(hd:At zd r0)(hz:ze zd (r0.drop (k+3))=0)(hv1:1≤v.getD (k+1) 0)
  (hle:r0.getD (k+2) 0≤v.getD (k+1) 0) (hBV:ze zd r0<1000000000*ze zd v)
  (hfin:∀(q:Int) (r:List Int),r.length=r0.length→At zd r→(0≤q∧q<1000000000)→ze zd r<ze zd v→ze zd r=ze zd r0-q*ze zd v→Ends Jw (L2 v8n v ((k+2:Nat):Int) v11n v12n (zf .i64 ((j:Int)-1)) (o2.set j q) (lo++r) o0) Q):
  ∀(f:Nat) (q r:Int),0≤q→q<f→q≤2000000000000000000→(0≤r∧r<1000000000)→q*v.getD (k+1) 0+r=r0.getD (k+2) 0*1000000000+r0.getD (k+1) 0→ze zd r0<(q+1)*ze zd v→
   Ends Jw (L3 v8n v ((k+2:Nat):Int) v11n v12n j a2 a1 a0 v11n v j ((k+2:Nat):Int) q r o2 (lo++r0) o0) Q
 |0,q,r,h0,hf,_,_,_,_=>by omega
 |f+1,q,r,h0,hf,hmax,hr1,he,hup=>by
  have gv2:=FC hv k;have gv1:=FC hv (k+1);have gu2:=FC hd k;have gu1:=FC hd (k+1);have hP:=AQ (b:=zd) (by decide) k;have hW:=aX zd r0 k (by omega) hz;have hV:=ZK zd v k hn;have hu':=Aw (b:=zd) (by decide) (AH hd k);have hu'':=Bs (b:=zd) (by decide) (AH hd k);have hv':=Aw (b:=zd) (by decide) (AH hv k);have hv'':=Bs (b:=zd) (by decide) (AH hv k);have hV0:=Aw (b:=zd) (by decide) hv;rw[zw,zX (by omega)]at hu'' hv'';have exit:∀q R:Int,0≤q→q<1000000000→q*v.getD (k+1) 0+R=r0.getD (k+2) 0*1000000000+r0.getD (k+1) 0→ze zd r0<(q+1)*ze zd v→q*v.getD k 0≤R*1000000000+r0.getD k 0→Ends Jw (L4 v8n v ((k+2:Nat):Int) v11n v12n j q 0 0 o2 (lo++r0) o0) Q:=by
   intro q R q0 q1 hqe hqu hx;refine ZB v8n v11n v12n o2 o0 v lo r0 (k+2) j hn hn9 hlo hj hr hlen hjv hj1 hv hd hz hfin q ⟨q0,q1⟩ hqu ?_;rw[hW,hV];exact Rn hP ⟨hv',hv''⟩ hu' ⟨q0,q1⟩ hv1 gv2.1 hqe hx
  have e1:zf .i64 (((k+2:Nat):Int)-2)=(k:Int):=by rw[wr _ (by omega) (by omega)];omega
  have e2:zf .i64 (((k+2:Nat):Int)-1)=((k+1:Nat):Int):=by rw[wr _ (by omega) (by omega)];omega
  have e3:zf .i64 (zf .i64 ((j:Int)+((k+2:Nat):Int))-2)=((k+j:Nat):Int):=by
   rw[wr ((j:Int)+((k+2:Nat):Int)) (by omega) (by omega),wr _ (by omega) (by omega)];omega
  have g3:(lo++r0).getD (k+j) 0=r0.getD k 0:=FI _ _ _ _ hlo;have b1:(decide ((0:Int)≤((k+1:Nat):Int))&&decide (((k+1:Nat):Int)<(v.length:Int)))=true:=by simp;omega
  have dec:ze zd r0<q*ze zd v→Ends Jw (.ite (decide (zf .i64 (r+v.getD (k+1) 0)≥(1000000000:Int))) (L4 v8n v ((k+2:Nat):Int) v11n v12n j (zf .i64 (q-1)) 0 0 o2 (lo++r0) o0) (L3 v8n v ((k+2:Nat):Int) v11n v12n j a2 a1 a0 v11n v j ((k+2:Nat):Int) (zf .i64 (q-1)) (zf .i64 (r+v.getD (k+1) 0)) o2 (lo++r0) o0)) Q:=by
   intro hx;have hW0:=Aw (b:=zd) (by decide) hd;have hq1:1≤q:=by
    rcases zF 0 q with g|g
    ·exact g
    ·have:q=0:=by omega
     subst this;rw[Int.zero_mul]at hx;omega
   have he':(q-1)*v.getD (k+1) 0+(r+v.getD (k+1) 0)=r0.getD (k+2) 0*1000000000+r0.getD (k+1) 0:=by rw[Int.sub_mul,zN];omega
   have hup':ze zd r0<(q-1+1)*ze zd v:=by rw[show q-1+1=q by omega];exact hx
   rw[wr (q-1) (by omega) (by omega),wr (r+v.getD (k+1) 0) (by omega) (by omega)];refine zq (fun c=>?_) (fun c=>?_)
   ·have c:=of_decide_eq_true c;have hlt:q-1<1000000000:=by
     rcases zF (q-1) 1000000000 with g|g
     ·exact g
     ·have a:=zk g (show 0≤v.getD (k+1) 0 by omega);have b:=zk hle (show(0:Int)≤1000000000 by omega);omega
    refine exit (q-1) _ (by omega) hlt he' hup' ?_;have a:=zi (show v.getD k 0≤999999999 by omega) (show 0≤q-1 by omega);omega
   ·have c:=of_decide_eq_false c;exact Bt v8n v11n v12n o2 o0 v lo r0 a2 a1 a0 k j hn hn9 hlo hj hr hlen hjv hj1 hv hd hz hv1 hle hBV hfin f (q-1) _ (by omega) (by omega) (by omega) (by omega) he' hup'
  refine zn (Bm ..) ?_;conv=>zeta
  rw[e1,e2,e3,zg,zg,zg,g3];refine zq (fun c=>zc b1 (dec ?_)) (fun c=>zc (by simp;omega) (zc (by simp;omega) (zc (by simp;omega) (zq (fun d=>zc b1 (dec ?_)) (fun d=>?_)))))
  ·have c:=of_decide_eq_true c;have:=zk c hV0;omega
  ·have c:=of_decide_eq_false c;have d:=of_decide_eq_true d;have a:=zi (show v.getD k 0≤999999999 by omega) h0;have b:=zE h0 gv2.1;rw[wr (q*v.getD k 0) (by omega) (by omega),wr (r*1000000000) (by omega) (by omega),wr _ (by omega) (by omega)]at d;have:=Qv (B:=zd) (u0:=r0.getD (k+2) 0) (u1:=r0.getD (k+1) 0) (u2:=r0.getD k 0) hP hv' hu'' h0 (v1:=v.getD (k+1) 0) (v2:=v.getD k 0) (r:=r) he d;rw[←hW, ←hV]at this;exact this
  ·have c:=of_decide_eq_false c;have d:=of_decide_eq_false d;have a:=zi (show v.getD k 0≤999999999 by omega) h0;have b:=zE h0 gv2.1;rw[wr (q*v.getD k 0) (by omega) (by omega),wr (r*1000000000) (by omega) (by omega),wr _ (by omega) (by omega)]at d;exact exit q r h0 (by omega) he hup (by omega)
end T209
end Go.Pe
end
section
namespace Go.Pe
open Sp
open Go.Det
theorem GS{w:List Int}(hd:At zd w)(hn:Sp.nz w){k:Nat}(hl:w.length=k+1):0<w.getD k 0∧w.getD k 0<1000000000:=by
 have g:=FC hd k;refine⟨?_,g.2⟩;have e:w.getLast?=some (w.getD k 0):=by
  rw[yi,hl,zR,zH,yk (by omega)];rfl
 unfold Sp.nz at hn;rw[e]at hn;have:w.getD k 0≠0:=fun h=>hn (by rw[h])
 omega
theorem DI(d:Int):ze zd [d]=d:=by simp[ze]
namespace T209
variable {Q:PV→Ob→Prop}
theorem AN(v:List Int)(k la:Nat)(f:Int)(hf:0<f∧f<1000000000)(hn:v.length=k+2)(hla:la≤9000)(hkl:k+2≤la)(hv:At zd v)(hv1:1≤v.getD (k+1) 0)(W0:Int)
  (hq:∀(u qs:List Int) ob,At zd u→At zd qs→ze zd u<ze zd v→W0=ze zd u+ze zd v*ze zd qs→Q (.tup [.dat li (Az qs),.dat li (CG (ze zd u/f))]) ob):
  ∀(t:Nat) (u qs:List Int),t+qs.length=la-(k+2)+1→u.length=la+1→At zd u→At zd qs→ze zd (u.drop t)<ze zd v→W0=ze zd u+ze zd v*((zd:Int)^t*ze zd qs)→
   Ends Jw (L2 1 v ((k+2:Nat):Int) (la+1) (la-(k+2)+1) ((t:Int)-1) (zo t 0++qs) u [f]) Q
 |0,u,qs,hl,hu,hd,hdq,hlt,he=>by
  have hlt:ze zd u<ze zd v:=hlt;have hVlt:=Bs (b:=zd) (by decide) hv;rw[hn]at hVlt;have hz:ze zd (u.drop (k+2))=0:=HD (b:=zd) (by decide) hd (by omega) (by omega);have hvu:ze zd (u.take (k+2))=ze zd u:=by
   rw[B4 zd u (k+2) (by omega),hz,z9,yB]
  have ht:(zo 0 0++qs).take (la-(k+2)+1)=qs:=by
   rw[List.replicate_zero,ye];exact zj (by omega)
  have htr:=Gv (AH hd (k+2));have hlr:(Az (u.take (k+2))).length≤9000:=by
   rw[FB (AH hd (k+2))];refine Nat.le_trans (Py (k:=k+2) (Aw (by decide) (AH hd (k+2))) ?_) (by omega);show ze zd (u.take (k+2))<_;rw[hvu];omega
  have e1:AY (Az (u.take (k+2)))=ze zd u:=by
   show ze zd (Az _)=_;rw[Hu,hvu]
  refine zn (AM ..) (zy (by simp) ?_);rw[zg,ht,e1];refine zc (by simp;omega) (zc rfl (zc rfl (zc (by simp;omega) (zc (Aj (Aj (Jj (by omega) htr) (decide_eq_true hf.1)) (decide_eq_true hf.2)) (zc (by simp;omega) (zm (hq u qs _ hd hdq hlt (by rw[he,zG,zN]))))))))
 |j+1,u,qs,hl,hu,hd,hdq,hlt,he=>by
  obtain⟨lo,r,rfl,hlo⟩:∃lo r:List Int,u=lo++r∧lo.length=j:=⟨u.take j,u.drop j,(zU j u).symm,by rw[zw];omega⟩;have hdlo:At zd lo:=fun d hd'=>hd d (List.mem_append.2 (.inl hd'))
  have hdr:At zd r:=fun d hd'=>hd d (List.mem_append.2 (.inr hd'))
  have hrl:r.length=la+1-j:=by rw[zI]at hu;omega
  have hdrop:∀z:List Int,(lo++z).drop j=z:=fun z=>by rw[←hlo];exact List.drop_left
  have hr0:r=r.getD 0 0::r.drop 1:=by
   have:=Ci (l:=r) (i:=0) (by omega);rw[List.drop_zero]at this;exact this
  have hd1:(lo++r).drop (j+1)=r.drop 1:=by rw[Nat.add_comm j 1,Nat.add_comm 1 j, ←List.drop_drop,hdrop]
  rw[hd1]at hlt;have g0:=FC hdr 0;have hvr:ze zd r=r.getD 0 0+1000000000*ze zd (r.drop 1):=by
   conv=>lhs;rw[hr0]
   rfl
  have hVlt:=Bs (b:=zd) (by decide) hv;rw[hn]at hVlt;have hrV:ze zd r<1000000000*ze zd v:=by rw[hvr];omega
  have hz:ze zd (r.drop (k+3))=0:=by
   refine HD (b:=zd) (by decide) hdr (by omega) ?_;have ep:(zd:Int)^(k+3)=(zd:Int)^(k+2)*1000000000:=zr ..;rw[ep];omega
  have gu0:=FC hdr (k+2);have gu1:=FC hdr (k+1);have gu2:=FC hdr k;have gv1:=FC hv (k+1);have gv2:=FC hv k;have hP:=AQ (b:=zd) (by decide) k;have hW:=aX zd r k (by omega) hz;have hV:=ZK zd v k hn;have hu'':=Bs (b:=zd) (by decide) (AH hdr k);have hv':=Aw (b:=zd) (by decide) (AH hv k);rw[zw,zX (by omega)]at hu'';have hle:r.getD (k+2) 0≤v.getD (k+1) 0:=by
   have a1:=B4 zd (r.drop 1) (k+1) (by rw[zp];omega);have a2:(r.drop 1).drop (k+1)=r.getD (k+2) 0::r.drop (k+3):=by
    rw[List.drop_drop,show 1+(k+1)=k+2 by omega];exact Ci (by omega)
   have a3:ze zd (r.getD (k+2) 0::r.drop (k+3))=r.getD (k+2) 0:=by
    show r.getD (k+2) 0+(zd:Int)*ze zd (r.drop (k+3))=_;rw[hz];omega
   rw[a2,a3]at a1;have b1:ze zd v=ze zd (v.take (k+1))+(zd:Int)^(k+1)*v.getD (k+1) 0:=by
    rw[←Ax,zj (by omega)]
   have b2:=Bs (b:=zd) (by decide) (AH hv (k+1));rw[zw,zX (by omega)]at b2;have c1:=Aw (b:=zd) (by decide) (AH (Fy hdr 1) (k+1));have c2:(zd:Int)^(k+1)*r.getD (k+2) 0<(zd:Int)^(k+1)*(v.getD (k+1) 0+1):=by
    rw[zA,zW];omega
   have:=zC c2 (zu (AQ (by decide) (k+1)));omega
  have hfin:∀(q:Int) (r':List Int),r'.length=r.length→At zd r'→(0≤q∧q<1000000000)→ze zd r'<ze zd v→ze zd r'=ze zd r-q*ze zd v→Ends Jw (L2 1 v ((k+2:Nat):Int) (la+1) (la-(k+2)+1) (zf .i64 ((j:Int)-1)) ((zo (j+1) 0++qs).set j q) (lo++r') [f]) Q:=by
   intro q r' h1 h2 h3 h4 h5;have es:(zo (j+1) (0:Int)++qs).set j q=zo j 0++(q::qs):=by
    rw[List.replicate_succ',ya];exact Ch _ _ _ _ (by simp)
   rw[es,wr ((j:Int)-1) (by omega) (by omega)];refine AN v k la f hf hn hla hkl hv hv1 W0 hq j (lo++r') (q::qs) (by simp;omega) (by simp;omega) (Ee hdlo h2) (fun d hd'=>?_) (by rw[hdrop];exact h4) ?_
   ·rcases yn.1 hd' with rfl|hd'
    ·exact h3
    ·exact hdq d hd'
   ·rw[he,Cv,Cv,hlo,h5,L0];show ze zd lo+(zd:Int)^j*ze zd r+ze zd v*((zd:Int)^j*(1000000000*ze zd qs))=ze zd lo+(zd:Int)^j*(ze zd r-q*ze zd v)+ze zd v*((zd:Int)^j*(q+1000000000*ze zd qs));have x1:ze zd v*((zd:Int)^j*q)=(zd:Int)^j*(q*ze zd v):=by
     rw[zM,zz (ze zd v) q]
    rw[z6,zA ((zd:Int)^j) q,zA (ze zd v),x1];omega
  have e0:(((j+1:Nat):Int)-1)=(j:Int):=by omega
  have e1:zf .i64 ((j:Int)+((k+2:Nat):Int))=((k+2+j:Nat):Int):=by rw[wr _ (by omega) (by omega)];omega
  have e2:zf .i64 (((k+2+j:Nat):Int)-1)=((k+1+j:Nat):Int):=by rw[wr _ (by omega) (by omega)];omega
  have e3:zf .i64 (((k+2:Nat):Int)-1)=((k+1:Nat):Int):=by rw[wr _ (by omega) (by omega)];omega
  have g1:(lo++r).getD (k+2+j) 0=r.getD (k+2) 0:=FI _ _ _ _ hlo;have g2:(lo++r).getD (k+1+j) 0=r.getD (k+1) 0:=FI _ _ _ _ hlo;have hll:(lo++r).length=la+1:=hu;have hmul:zf .i64 (zf .i64 (r.getD (k+2) 0*1000000000)+r.getD (k+1) 0)=r.getD (k+2) 0*1000000000+r.getD (k+1) 0:=by
   rw[wr (r.getD (k+2) 0*1000000000) (by omega) (by omega)];exact wr _ (by omega) (by omega)
  have htop0:0≤r.getD (k+2) 0*1000000000+r.getD (k+1) 0:=by omega
  have hq0:0≤(r.getD (k+2) 0*1000000000+r.getD (k+1) 0)/v.getD (k+1) 0:=yw htop0 (by omega);have hqs:(r.getD (k+2) 0*1000000000+r.getD (k+1) 0)/v.getD (k+1) 0≤r.getD (k+2) 0*1000000000+r.getD (k+1) 0:=Int.ediv_le_self _ htop0;have hdm:=zJ (r.getD (k+2) 0*1000000000+r.getD (k+1) 0) (v.getD (k+1) 0);have hm0:=zY (r.getD (k+2) 0*1000000000+r.getD (k+1) 0) (show v.getD (k+1) 0≠0 by omega);have hm1:=zS (r.getD (k+2) 0*1000000000+r.getD (k+1) 0) (show 0<v.getD (k+1) 0 by omega);rw[zz]at hdm;have et:zf .i64 (zP (r.getD (k+2) 0*1000000000+r.getD (k+1) 0) (v.getD (k+1) 0))=(r.getD (k+2) 0*1000000000+r.getD (k+1) 0)/v.getD (k+1) 0:=by
   rw[zt htop0];exact wr _ (by omega) (by omega)
  have em:yh (r.getD (k+2) 0*1000000000+r.getD (k+1) 0) (v.getD (k+1) 0)=(r.getD (k+2) 0*1000000000+r.getD (k+1) 0) % v.getD (k+1) 0:=zx htop0;have b2:(decide ((0:Int)≤((k+1:Nat):Int))&&decide (((k+1:Nat):Int)<((k+2:Nat):Int)))=true:=by simp;omega
  have bn:decide (v.getD (k+1) 0≠0)=true:=decide_eq_true (by omega);rw[e0];refine zn (AM ..) (zc (by simp) ?_);rw[hn,e1,e2,e3,zg,zg,zg,g1,g2,hmul,et,em,hll];refine zc (by simp;omega) (zc (decide_eq_true (by omega)) (zc (by simp;omega) (zc (decide_eq_true (by omega)) (zc b2 (zc bn (zc b2 (zc bn ?_)))))));refine Bt 1 (la+1) (la-(k+2)+1) _ [f] v lo r _ _ _ k j hn (by omega) hlo (by omega) (by omega) (by omega) (by omega) (by simp;omega) hv hdr hz hv1 hle hrV hfin (((r.getD (k+2) 0*1000000000+r.getD (k+1) 0)/v.getD (k+1) 0).toNat+1) _ _ hq0 (by omega) (by omega) ⟨hm0,by omega⟩ hdm ?_;rw[hW,hV];exact Kc hP (by decide) hq0 hv' gv2.1 hu'' gu2.2 hdm hm1
theorem Ak(a v:List Int)(n la:Nat)(f:Int)(hla:a.length=la)(hla9:la≤9000)(hnl:n≤la)(hq:∀u:List Int,u.length=la+1→At zd u→ze zd u=ze zd a*f→Ends Jw (L2 1 v n (la+1) (la-n+1) (((la-n+1:Nat):Int)-1) (zo (la-n+1) 0) u [f]) Q):
  ∀(m:Nat) (u:List Int),u.length+m=la+1→At zd u→ze zd u=ze zd a*f→Ends Jw (L1 a 1 v n u.length u [f]) Q
 |0,u,hl,hd,he=>by
  have e1:zf .i64 ((a.length:Int)+1)=((la+1:Nat):Int):=by rw[wr _ (by omega) (by omega)];omega
  have e2:zf .i64 ((u.length:Int)-(n:Int))=((la-n+1:Nat):Int):=by rw[wr _ (by omega) (by omega)];omega
  have e3:zf .i64 (((la-n+1:Nat):Int)-1)=((la-n+1:Nat):Int)-1:=wr _ (by omega) (by omega);refine zn (Ai ..) ?_;conv=>zeta
  rw[e1,e2,e3,zg];refine zy (by simp;omega) (zc (by simp;omega) ?_);have hul:u.length=la+1:=by omega
  rw[hul];exact hq u hul hd he
 |m+1,u,hl,hd,he=>by
  have e1:zf .i64 ((a.length:Int)+1)=((la+1:Nat):Int):=by rw[wr _ (by omega) (by omega)];omega
  refine zn (Ai ..) ?_;conv=>zeta
  rw[e1];refine zc (by simp;omega) (zc (by simp;omega) ?_);have:=Ak a v n la f hla hla9 hnl hq m (u++[0]) (by simp;omega) (Fa hd (by decide)) (by rw[CA,z9,yB];exact he);rw[zI]at this;exact this
set_option maxHeartbeats 1000000 in
theorem ok:Ad AT 209 Tn:=by
 refine Av (X:=Jw) rfl Yn (d:=9) (by kernel_rfl) (by kernel_rfl) (by kernel_rfl) (fun(i:List Int×List Int) hi=>?_) (Ab (by kernel_rfl));obtain⟨a,b⟩:=i;have hi:(Cq a&&Cq b&&decide (a.length≤9000)&&decide (b.length≤9000)&&decide (0<AY b))=true:=hi;rw[zh,zh,zh,zh,decide_eq_true_eq,decide_eq_true_eq,decide_eq_true_eq]at hi;obtain⟨⟨⟨⟨na,nb⟩,la9⟩,lb9⟩,hb0⟩:=hi;obtain⟨_,da,za⟩:=EK na;obtain⟨_,db,zb⟩:=EK nb;have hb0:0<ze zd b:=hb0;have ha0:=Aw (b:=zd) (by decide) da;have hg:∀q r ob,q=CG (AY a/AY b)→r=CG (AY a % AY b)→Ae Tn (a,b) (PV.tup [PV.dat li q,PV.dat li r]) ob:=fun q r ob e1 e2=>zT rfl rfl (Prod.ext e1 e2)
 have hbne:b≠[]:=by rintro rfl;simp[ze]at hb0
 have hblen:b.length≠0:=fun h=>hbne (zB.1 h)
 refine zL (An a b) (zc (by rw[na,nb];rfl) (zq (fun c=>?_) (fun c=>?_)))
 ·have c:=of_decide_eq_true c;have hlt:ze zd a<ze zd b:=by
   unfold Bz at c;have c:(if ze zd a<ze zd b then(-1:Int)else if ze zd a>ze zd b then 1 else 0)<0:=c;split at c
   ·assumption
   ·split at c<;>omega
  refine zm (zT rfl rfl ?_);show([],a)=(CG (ze zd a/ze zd b),CG (ze zd a % ze zd b));rw[yr ha0 hlt,Int.emod_eq_of_lt ha0 hlt];exact Prod.ext rfl (Kq (by decide) da za)
 ·have c:=of_decide_eq_false c;have hge:ze zd b≤ze zd a:=by
   rcases zF (ze zd a) (ze zd b)with g|g
   ·have:Bz (AY a) (AY b)= -1:=if_pos g;omega
   ·exact g
  have hll:b.length≤a.length:=by
   rcases Nat.lt_or_ge a.length b.length with g|g
   ·have:=DS (b:=zd) (by decide) da db zb g;omega
   ·exact g
  refine zq (fun c1=>?_) (fun c1=>?_)
  ·have c1:b.length=1:=by
    have:(b.length:Int)=1:=by simpa using c1
    omega
   obtain⟨d,rfl⟩:=yt.1 c1;have hd:0<d∧d<1000000000:=GS (k:=0) db zb rfl;have m0:=zY (ze zd a) (show d≠0 by omega);have m1:=zS (ze zd a) hd.1;refine zc rfl (zc (Aj (Aj (Jj (by omega) da) (decide_eq_true hd.1)) (decide_eq_true hd.2)) (zc rfl (zm (hg _ _ _ ?_ ?_))))
   ·show CG (ze zd a/d)=CG (ze zd a/ze zd [d]);rw[DI]
   ·show Az [ze zd a % d]=CG (ze zd a % ze zd [d]);rw[DI,FB (fun x hx=>by rw[zZ]at hx;subst hx;show 0≤_∧_<(1000000000:Int);omega)];show CG (ze zd [_])=_;rw[DI]
  ·have c1:b.length≠1:=by
    have:(b.length:Int)≠1:=by simpa using c1
    omega
   obtain⟨k,hk⟩:∃k,b.length=k+2:=⟨b.length-2,by omega⟩;obtain⟨y0,y1⟩:=GS (k:=k+1) db zb hk;have e1:zf .i64 (((k+2:Nat):Int)-1)=((k+1:Nat):Int):=by rw[wr _ (by omega) (by omega)];omega
   have e2:zf .i64 (b.getD (k+1) 0+1)=b.getD (k+1) 0+1:=wr _ (by omega) (by omega);have f0:0<1000000000/(b.getD (k+1) 0+1):=by
    have:=Int.le_ediv_of_mul_le (a:=1) (b:=1000000000) (c:=b.getD (k+1) 0+1) (by omega) (by omega);omega
   have f1:1000000000/(b.getD (k+1) 0+1)<1000000000:=Int.ediv_lt_of_lt_mul (by omega) (by omega);have f2:1000000000/(b.getD (k+1) 0+1)*(b.getD (k+1) 0+1)≤1000000000:=Int.ediv_mul_le _ (by omega);have e3:zf .i64 (zP 1000000000 (b.getD (k+1) 0+1))=1000000000/(b.getD (k+1) 0+1):=by
    rw[zt (by decide)];exact wr _ (by omega) (by omega)
   rw[hk,e1,zg,e2,e3];generalize 1000000000/(b.getD (k+1) 0+1)=f at*;have hdf:At zd [f]:=fun x hx=>by rw[zZ]at hx;subst hx;show 0≤_∧_<(1000000000:Int);omega
   have hvf:AY [f]=f:=DI f;rw[hvf];have hv1:(zd:Int)^(k+1)≤ze zd b*f:=by
    have a1:=CH (b:=zd) (by decide) db zb hbne;rw[hk,show k+2-1=k+1 by omega]at a1;have a2:=zi (show 1≤f by omega) (zu hb0);omega
   have hv2:ze zd b*f<(zd:Int)^(k+2):=by
    have b1:ze zd b=ze zd (b.take (k+1))+(zd:Int)^(k+1)*b.getD (k+1) 0:=by
     rw[←Ax,zj (by omega)]
    have b2:=Bs (b:=zd) (by decide) (AH db (k+1));rw[zw,zX (by omega)]at b2;have hp:=AQ (b:=zd) (by decide) (k+1);have b3:ze zd b<(zd:Int)^(k+1)*(b.getD (k+1) 0+1):=by
     rw[zA,zW];omega
    have b4:=zV b3 f0;have b5:=zi f2 (zu hp);have b6:(zd:Int)^(k+2)=(zd:Int)^(k+1)*1000000000:=zr ..;rw[zD,zz (b.getD (k+1) 0+1) f]at b4;omega
   have hV0:0≤ze zd b*f:=zE (zu hb0) (by omega);have hU0:0≤ze zd a*f:=zE ha0 (by omega);have hU1:ze zd a*f<(zd:Int)^(a.length+1):=by
    have a1:=Bs (b:=zd) (by decide) da;have a2:=zV a1 f0;have a3:=zi (show f≤1000000000 by omega) (zu (AQ (b:=zd) (by decide) a.length));have a4:(zd:Int)^(a.length+1)=(zd:Int)^a.length*1000000000:=zr ..;omega
   have vd:=HR (b:=zd) (by decide) (ze zd b*f);have vz:=Ts (b:=zd) (by decide) (ze zd b*f);have vv:ze zd (Sp.dg zd (ze zd b*f))=ze zd b*f:=Dj (by decide) hV0;have vl:=Xp (b:=zd) (by decide) vd vz (k:=k+1) (by rw[vv];exact hv1) (by rw[vv];exact hv2);have v1:=(GS vd vz vl).1;have ud:=HR (b:=zd) (by decide) (ze zd a*f);have uv:ze zd (Sp.dg zd (ze zd a*f))=ze zd a*f:=Dj (by decide) hU0;have ul:=Py (k:=a.length+1) hU0 hU1;have hfa:Sp.hR [f]=true:=TP (by simp) hdf;have bd:decide ((2*(0+(CG (AY a*f)).length)+1000)*8≤281474976710656)=true:=decide_eq_true (by have:(CG (AY a*f)).length≤a.length+1:=ul;omega);refine zc (by simp;omega) (zc (decide_eq_true (by omega)) (zc (by rw[TP lb9 db,hfa];rfl) (zc (by rw[TP la9 da,hfa];rfl) (zc bd ?_))));have ez:yE 0 (CG (AY a*f)).length=(CG (AY a*f)).length:=Nat.zero_add _;have evl:(CG (AY b*f)).length=k+2:=vl;rw[ez,ye,evl];refine Ak a (CG (AY b*f)) (k+2) a.length f rfl la9 (by omega) (fun u hul hud huv=>?_) (a.length+1-(CG (AY a*f)).length) (CG (AY a*f)) (by have:(CG (AY a*f)).length≤a.length+1:=ul;omega) ud uv;have hpn:=AQ (b:=zd) (by decide) (a.length-(k+2)+1);have start:ze zd (u.drop (a.length-(k+2)+1))<ze zd (CG (AY b*f)):=by
    have a1:=B4 zd u (a.length-(k+2)+1) (by omega);have a2:=Aw (b:=zd) (by decide) (AH hud (a.length-(k+2)+1));have a3:=Bs (b:=zd) (by decide) da;have a4:=zV a3 f0;have a5:(zd:Int)^a.length=(zd:Int)^(a.length-(k+2)+1)*(zd:Int)^(k+1):=by rw[←Int.pow_add,show a.length-(k+2)+1+(k+1)=a.length by omega]
    have a6:=CH (b:=zd) (by decide) db zb hbne;rw[hk,show k+2-1=k+1 by omega]at a6;have a7:=zk a6 (show 0≤f by omega);have a8:=zi a7 (zu hpn);rw[a5,zD]at a4;show _<ze zd (Sp.dg zd (ze zd b*f));rw[vv];refine zC (a:=(zd:Int)^(a.length-(k+2)+1)) ?_ (zu hpn);omega
   have go:=AN (Q:=Ae Tn (a,b)) (CG (AY b*f)) k a.length f ⟨f0,f1⟩ evl la9 (by omega) vd (by have:0<(CG (AY b*f)).getD (k+1) 0:=v1;omega) (ze zd a*f) (fun u' qs ob hud' hdq hlt' he=>by
    have vv':ze zd (CG (AY b*f))=ze zd b*f:=vv;rw[vv']at he hlt';have e:ze zd u'=f*(ze zd a-ze zd qs*ze zd b):=by
     have x1:ze zd b*f*ze zd qs=f*(ze zd qs*ze zd b):=by
      rw[zz (ze zd b) f,zD,zz (ze zd b)]
     rw[x1,zz (ze zd a)]at he;rw[z6];omega
    have h0:=Aw (b:=zd) (by decide) hud';have r0:0≤ze zd a-ze zd qs*ze zd b:=by
     rw[e]at h0;exact Int.nonneg_of_mul_nonneg_right h0 f0
    have r1:ze zd a-ze zd qs*ze zd b<ze zd b:=by
     rw[e,zz (ze zd b) f]at hlt';exact zC hlt' (by omega)
    obtain⟨u1,u2⟩:=(zK (a:=ze zd a) (b:=ze zd b) (r:=ze zd a-ze zd qs*ze zd b) (q:=ze zd qs) hb0).2 ⟨by rw[zz (ze zd b)];omega,r0,r1⟩;refine hg _ _ ob ?_ ?_
    ·rw[FB hdq];show CG (ze zd qs)=CG (ze zd a/ze zd b);rw[u1]
    ·show CG (ze zd u'/f)=CG (ze zd a % ze zd b);rw[u2,e,ym _ (by omega)]) (a.length-(k+2)+1) u [] (by simp) hul hud (fun x hx=>by cases hx) start (by rw[huv];simp[ze])
   rw[yc]at go;exact go
end T209
theorem Y6:∀g sp,fY.sp g=some sp→Ad AT g sp:=Ac T209.ok (fun g sp h=>by cases h)
namespace T170
variable {Q:PV→Ob→Prop}
theorem Ak(g:Nat)(L:Int)(hL:∀n:Nat,(n:Int)<L→Cq (CG (n:Int))=true∧AY (CG (n:Int))=n∧(CG (n:Int)).length≤9000)(hq:∀ob,Q (.dat li (CG (g:Int))) ob):∀(f x y:Nat),y<f→yD x y=g→(x:Int)<L→(y:Int)<L→
  Ends fY (L1 (CG (x:Int)) (CG (y:Int))) Q
 |0,x,y,h,_,_,_=>by omega
 |f+1,x,y,hy,hg,bx,by'=>by
  obtain⟨nx,vx,lx⟩:=hL x bx;obtain⟨ny,vy,ly⟩:=hL y by'
  refine zn (Ai ..) ?_;conv=>zeta
  by_cases h0:y=0
  ·subst h0;rw[Nat.gcd_zero_right]at hg;subst hg;exact zy rfl (zm (hq _))
  ·have hlt:x % y<y:=Nat.mod_lt _ (by omega);have hl:(CG (y:Int)).length≠0:=by
    intro h;have:=zB.1 h;rw[this]at vy;simp[AY,ze]at vy;omega
   rw[vx,vy,QH];refine zc (by simp;omega) (zc (Aj (Aj (Aj (Aj nx ny) (decide_eq_true lx)) (decide_eq_true ly)) (decide_eq_true (by omega))) ?_);exact Ak g L hL hq f y (x % y) (by omega) (by rw[yu, ←Nat.gcd_rec,yu];exact hg) by' (by omega)
theorem QT{a:List Int}(h:Cq a=true):a=CG (AY a)∧0≤AY a:=by
 obtain⟨_,d,z⟩:=EK h;exact⟨Kq (by decide) d z,Aw (by decide) d⟩
theorem SQ(n:Nat)(h:(n:Int)<(zd:Int)^9000):Cq (CG (n:Int))=true∧AY (CG (n:Int))=n∧(CG (n:Int)).length≤9000:=by
 obtain⟨a,_,b,c⟩:=JI (n:=(n:Int)) (k:=9000) (Int.natCast_nonneg n) h (by decide);exact⟨a,b,c⟩
theorem ok:Ad AT 170 Nq:=by
 refine Av (X:=fY) rfl Y6 (d:=9) (by kernel_rfl) (by kernel_rfl) (by kernel_rfl) (fun(i:List Int×List Int) hi=>?_) (Ab (by kernel_rfl));obtain⟨a,b⟩:=i;have hi:(Cq a&&Cq b&&decide (a.length≤9000)&&decide (b.length≤9000))=true:=hi;rw[zh,zh,zh,decide_eq_true_eq,decide_eq_true_eq]at hi;obtain⟨⟨⟨na,nb⟩,la9⟩,lb9⟩:=hi;obtain⟨ea,a0⟩:=QT na;obtain⟨eb,b0⟩:=QT nb;have la:AY a<(zd:Int)^9000:=z5 (Bs (b:=zd) (by decide) (EK na).2.1) (AU (by decide) la9);have lb:AY b<(zd:Int)^9000:=z5 (Bs (b:=zd) (by decide) (EK nb).2.1) (AU (by decide) lb9);have key:∀(x y:Nat),AY a=x→AY b=y→Ends fY (L1 a b) (Ae Nq (a,b)):=by
  intro x y hx hy;rw[ea,eb,hx,hy];rw[hx]at la;rw[hy]at lb;refine Ak (yD x y) _ SQ (fun ob=>zT rfl rfl ?_) (y+1) x y (Nat.lt_succ_self _) rfl la lb;have e:Sp.gI (AY (CG (x:Int))) (AY (CG (y:Int)))=((yD x y:Nat):Int):=by
   rw[(SQ x la).2.1,(SQ y lb).2.1,Iz];rfl
  exact congrArg CG e.symm
 obtain⟨x,hx⟩:=z7 a0;obtain⟨y,hy⟩:=z7 b0;exact zL (An a b) (key x y hx hy)
end T170
end Go.Pe
end
section
namespace Go.Pe
open Sp
open Go.Det
theorem Y0:∀g sp,Tx.sp g=some sp→Ad AT g sp:=
 Ac (CQ (by kernel_rfl) (Ab (by kernel_rfl))) (Ac (CQ (by kernel_rfl) (Ab (by kernel_rfl))) (Ac (CQ (by kernel_rfl) (Ab (by kernel_rfl))) (Ac (CQ (by kernel_rfl) (Ab (by kernel_rfl))) (fun g sp h=>by cases h))))
theorem EA:∀g sp,HZ.sp g=some sp→Ad AT g sp:=fun g sp h=>by cases h
namespace T218
variable {Q:PV→Ob→Prop}
theorem gM:∀i:Fin 10,(CW.getD i.1 0).toNat<128:=by decide
theorem D8(s:List UInt8)(i:Nat)(o:List Bool)(hi:i<10)(ho:o.length=256)(h:Ends Tx (L2 s CW CW ((i+1:Nat):Int) (o.set (CW.getD i 0).toNat true)) Q):Ends Tx (L2 s CW CW (i:Int) o) Q:=by
 have hl:CW.length=10:=rfl;have hc:=gM ⟨i,hi⟩;have hc:(CW.getD i 0).toNat<128:=hc;have e:zf .i64 ((i:Int)+1)=((i+1:Nat):Int):=by rw[wr _ (by omega) (by omega)];omega
 refine zn (AM ..) ?_;conv=>zeta
 rw[hl,e,zg,zg];exact zc (decide_eq_true (by omega)) (zc (Aj (decide_eq_true (by omega)) (decide_eq_true (by omega))) (zy (decide_eq_false (by omega)) (zc (Aj (decide_eq_true (show(0:Int)≤((CW.getD i 0).toNat:Int)by omega)) (decide_eq_true (by omega))) (zc (decide_eq_true (by omega)) h))))
def Tb(o:List Bool):Prop:=o.length=256∧∀c:UInt8,o.getD c.toNat false=BE c
theorem BY(s t v0:List UInt8)(v4:Int)(o0:List Bool)(v0':List UInt8)(o1 o0':List Bool)(p1 p0:List Bool)(hT:Tb p1):∀(w:List UInt8),(∀ob,Q (.dat .str (w.dropWhile BE)) ob)→Ends Tx (L7 s t v0 v4 o0 v0' o1 o0' w p1 p0) Q
 |[],hq=>zn (Dw ..) (zy (by simp) (zm (hq _)))
 |c::r,hq=>by
  have hc:c.toNat<256:=c.toNat_lt;have g0:(c::r).getD 0 0=c:=rfl;have e:(yC 1 (c::r)).take (yf (c::r).length 1)=r:=by show r.take ((r.length+1)-1)=r;rw[zR];exact zQ
  refine zn (Dw ..) ?_;conv=>zeta
  rw[g0,zg,hT.2,hT.1,e];refine zc (by simp) (zc (by simp) (zc (Aj (decide_eq_true (show(0:Int)≤(c.toNat:Int)by omega)) (decide_eq_true (by omega))) (zc (decide_eq_true hc) (zq (fun d=>?_) (fun d=>zc (by simp) ?_)))))
  ·have d:BE c=false:=by simpa using d
   rw[zO,if_neg (by rw[d];decide)]at hq;exact zm (hq _)
  ·have d:BE c=true:=by simpa using d
   rw[zO,if_pos d]at hq;exact BY s t v0 v4 o0 v0' o1 o0' p1 p0 hT r hq
theorem A5(s t v0:List UInt8)(v4:Int)(o0:List Bool)(o1 o0':List Bool)(hT:Tb o1):∀(n:Nat) (w:List UInt8),w.length=n→n≤1000000→(∀ob,Q (.dat .str (((w.reverse.dropWhile BE).reverse).dropWhile BE)) ob)→Ends Tx (L4 s t v0 v4 o0 w o1 o0') Q
 |0,w,hl,_,hq=>by
  have:w=[]:=zB.1 hl;subst this;exact zn (BB ..) (zy (by simp) (zn (E7 ..) (zy (by simp) (zm (hq _)))))
 |n+1,w,hl,hn,hq=>by
  obtain⟨p,c,rfl⟩:∃p c,w=p++[c]:=by
   have hne:w≠[]:=by rintro rfl;simp at hl
   exact⟨w.dropLast,w.getLast hne,(yd hne).symm⟩
  have hp:p.length=n:=by simpa using hl
  have hc:c.toNat<256:=c.toNat_lt;have e1:zf .i64 (((p++[c]).length:Int)-1)=(n:Int):=by rw[hl,wr _ (by omega) (by omega)];omega
  have g1:(p++[c]).getD n 0=c:=Cj _ _ _ _ hp;have t1:(p++[c]).take n=p:=by rw[←hp];exact List.take_left
  have hr:(p++[c]).reverse=c::p.reverse:=by simp
  rw[hr,zO]at hq;refine zn (BB ..) (zc (decide_eq_true (by omega)) ?_);rw[e1,zg,g1,t1,zg,hT.2,hT.1,hl];refine zc (by simp;omega) (zc (Aj (decide_eq_true (show(0:Int)≤(c.toNat:Int)by omega)) (decide_eq_true (by omega))) (zc (decide_eq_true hc) (zq (fun d=>?_) (fun d=>zc (by simp) ?_))))
  ·have d:BE c=false:=by simpa using d
   rw[if_neg (by rw[d];decide),List.reverse_cons,List.reverse_reverse]at hq;exact BY s t v0 v4 o0 _ o1 o0' o1 o0' hT (p++[c]) hq
  ·have d:BE c=true:=by simpa using d
   rw[if_pos d]at hq;exact A5 s t v0 v4 o0 o1 o0' hT n p hp (by omega) hq
theorem gR{o:List Bool}(h1:o.length=256)(h2:∀c:Fin 256,o.getD c.1 false=(Nat.ble 48 c.1&&Nat.ble c.1 57)):Tb o:=by
 refine⟨h1,fun c=>?_⟩;have:=h2 ⟨c.toNat,c.toNat_lt⟩;rw[show o.getD c.toNat false=_ from this];unfold BE;rw[Bool.eq_iff_iff];simp[Nat.ble_eq]
set_option maxRecDepth 10000 in
theorem ok:Ad AT 218 RJ:=by
 refine Av (X:=Tx) rfl Y0 (d:=9) (by kernel_rfl) (by kernel_rfl) (by kernel_rfl) (fun(i:List UInt8×List UInt8) hi=>?_) (Ab (by kernel_rfl));obtain⟨s,t⟩:=i;have hi:(decide (t=CW)&&decide (s.length≤1000000))=true:=hi;rw[zh,decide_eq_true_eq,decide_eq_true_eq]at hi;obtain⟨rfl,hl⟩:=hi;have hq:∀ob,Ae RJ (s,CW) (.dat .str (((s.reverse.dropWhile BE).reverse).dropWhile BE)) ob:=fun ob=>zT rfl rfl rfl
 refine zL (An s CW) (zq (fun c=>?_) (fun c=>zy (by decide) (zy (by decide) ?_)))
 ·have c:s=[]:=by simpa using c
  subst c;exact zm (hq _)
 ·refine D8 s 0 _ (by decide) rfl (D8 s 1 _ (by decide) rfl (D8 s 2 _ (by decide) rfl (D8 s 3 _ (by decide) rfl (D8 s 4 _ (by decide) rfl (D8 s 5 _ (by decide) rfl (D8 s 6 _ (by decide) rfl (D8 s 7 _ (by decide) rfl (D8 s 8 _ (by decide) rfl (D8 s 9 _ (by decide) rfl ?_)))))))));refine zn (AM ..) (zy (by decide) (zc (by decide+kernel) (zc (by decide+kernel) (zc (by decide+kernel) (zc rfl (A5 s _ _ _ _ _ _ (gR rfl ?_) s.length s rfl hl hq))))));decide+kernel
end T218
theorem aV:∀g sp,kA.sp g=some sp→Ad AT g sp:=Ac T218.ok (fun g sp h=>by cases h)
theorem dropWhile_nil{p:UInt8→Bool}:∀ {l:List UInt8},l.dropWhile p=[]↔l.all p=true
 |[]=>by simp
 |a::l=>by
  rw[zO,List.all_cons];cases h:p a with
  |true=>simp only[if_true,yb];exact dropWhile_nil
  |false=>simp
theorem G1{p:UInt8→Bool}:∀ {l:List UInt8} {a:UInt8} {r:List UInt8},l.dropWhile p=a::r→p a=false
 |[],a,r,h=>by simp at h
 |b::l,a,r,h=>by
  rw[zO]at h;cases hb:p b with
  |true=>rw[hb,if_pos rfl]at h;exact G1 h
  |false=>
   rw[hb]at h;simp at h;rw[←h.1];exact hb
theorem JG(s:List UInt8):Mt s=[]↔Al s=true:=by
 unfold Mt Al;rw[dropWhile_nil,yq];constructor
 ·intro h;cases hd:s.reverse.dropWhile BE with
  |nil=>have:=dropWhile_nil.1 hd;rwa [yq]at this
  |cons a r=>
   rw[hd,List.all_cons,G1 hd]at h;cases h
 ·intro h;have:s.reverse.dropWhile BE=[]:=dropWhile_nil.2 (by rwa [yq]);rw[this];rfl
theorem T178.ok:Ad AT 178 JS:=by
 refine Av (X:=kA) rfl aV (d:=9) (by kernel_rfl) (by kernel_rfl) (by kernel_rfl) (fun(s:List UInt8) hl=>?_) (Ab (by kernel_rfl));have hl:s.length≤1000000:=of_decide_eq_true hl;have hq:∀v b ob,v=.bl b∨v=.dat .bool b→b=AV s→Ae JS s v ob:=by
  rintro v b ob (rfl|rfl) hb
  ·exact zT rfl rfl hb
  ·exact zT rfl rfl hb
 refine zL (T178.An s) (zq (fun c=>zc ?_ (zq (fun d=>zc ?_ (zq (fun e=>zm (hq _ _ _ (.inl rfl) ?_)) (fun e=>zm (hq _ _ _ (.inr rfl) ?_)))) (fun d=>zm (hq _ _ _ (.inl rfl) ?_)))) (fun c=>zm (hq _ _ _ (.inl rfl) ?_)))
 ·exact Aj (decide_eq_true rfl) (decide_eq_true hl)
 ·have c:s≠[]:=by simpa using c
  have:s.length≠0:=fun h=>c (zB.1 h)
  exact decide_eq_true (by omega)
 ·have c:s≠[]:=by simpa using c
  have d:Mt s=[]:=by simpa using d
  have d:=(JG s).1 d;have e:s.getD 0 0≠48:=by
   intro h;rw[h]at e;exact absurd e (by decide)
  unfold AV;rw[d,decide_eq_true c,decide_eq_true e];rfl
 ·have c:s≠[]:=by simpa using c
  have d:Mt s=[]:=by simpa using d
  have d:=(JG s).1 d;have e:s.getD 0 0=48:=by
   have:((s.getD 0 0).toNat:Int)=48:=by simpa using e
   exact UInt8.toNat_inj.1 (by show _=48;omega)
  unfold AV;rw[d,decide_eq_true c,decide_eq_false (by rw[e];exact fun h=>h rfl)];show(s==[48])=decide (s=[48]);rw[Bool.eq_iff_iff];simp
 ·have d:¬Mt s=[]:=by simpa using d
  have d:Al s=false:=by
   cases h:Al s with
   |true=>exact absurd ((JG s).2 h) d
   |false=>rfl
  unfold AV;rw[d];simp
 ·have c:s=[]:=by simpa using c
  subst c;rfl
theorem T176.ok:Ad AT 176 cJ:=by
 refine Av (X:=HZ) rfl EA (d:=9) (by kernel_rfl) (by kernel_rfl) (by kernel_rfl) (fun(i:List UInt8×List UInt8) hi=>?_) (Ab (by kernel_rfl));obtain⟨s,t⟩:=i;have hi:(decide (t=[45])&&decide (s.length≤1000000))=true:=hi;rw[zh,decide_eq_true_eq,decide_eq_true_eq]at hi;obtain⟨rfl,hl⟩:=hi;have hno:s.getD 0 0≠45→(s,false)=(A3 s,Sp.preB s):=fun h=>by
  unfold A3 Sp.preB;rw[if_neg h,decide_eq_false h]
 refine zL (T176.An s [45]) ?_;conv=>zeta
 cases s with
 |nil=>exact zy (by decide) (zm (zT rfl rfl (hno (by decide))))
 |cons c r=>
  have ht:(c::r).take 1=[c]:=rfl;refine zc (by simp;omega) (zc (by simp) ?_);show Ends HZ (.ite (!List.take 1 (c::r)==[45]) _ _) _;rw[ht];refine zq (fun d=>zm (zT rfl rfl (hno ?_))) (fun d=>zc (by simp) (zm (zT rfl rfl ?_)))
  ·show c≠45;rintro rfl;exact absurd d (by decide)
  ·have d:c=45:=by simpa using d
   subst d;show(((yC 1 ((45:UInt8)::r)).take (yf ((45:UInt8)::r).length 1)),true)=(A3 (45::r),Sp.preB (45::r));have e:(yC 1 ((45:UInt8)::r)).take (yf ((45:UInt8)::r).length 1)=r:=by show r.take ((r.length+1)-1)=r;rw[zR];exact zQ
   rw[e];rfl
end Go.Pe
end
section
namespace Go.Pe
open Sp
open Go.Det
theorem dY{F:Fz}{s:List UInt8}{c:Int}{args:List V}(h:J8 F (Af [Sh.str,Sh.int .u8] (s,c)) args):args=[.str s,.int .u8 c]:=by
 have:=h (fun _=>none) 0;simp only[Af,BR,A8]at this;obtain⟨a,as1,rfl,h1,b,as2,rfl,h2,rfl⟩:=this;simp only[PR,DC,List.cons.injEq,and_true]at h1 h2;rw[h1,h2]
theorem T330.ok:Ad AT 330 bL:=by
 refine .inr ⟨PK.indexByte.run,by kernel_rfl,fun F h args i ha hp=>?_⟩;obtain⟨s,c⟩:=i;have:=dY ha;subst this;refine⟨QX (s.findIdx? fun x=>x==c.toNat.toUInt8),rfl,fun ρ N=>?_⟩;show PR F ρ N (.dat i64 (MJ s c)) _;unfold MJ;cases s.findIdx? fun x=>x==c.toNat.toUInt8 with
 |none=>simp[PR,DC,QX]
 |some i=>simp[PR,DC,QX,Det.i64]
theorem Y7:∀g sp,kF.sp g=some sp→Ad AT g sp:=Ac T330.ok (fun g sp h=>by cases h)
theorem Si{p:UInt8→Bool}{s:List UInt8}{i:Nat}(h:s.findIdx? p=some i):i<s.length:=(List.findIdx?_eq_some_iff_getElem.1 h).1
theorem T177.ok:Ad AT 177 V4:=by
 refine Av (X:=kF) rfl Y7 (d:=9) (by kernel_rfl) (by kernel_rfl) (by kernel_rfl) (fun(i:List UInt8×List UInt8) hi=>?_) (Ab (by kernel_rfl));obtain⟨s,t⟩:=i;have hi:(decide (t=[47])&&decide (s.length≤1000000))=true:=hi;rw[zh,decide_eq_true_eq,decide_eq_true_eq]at hi;obtain⟨rfl,hl⟩:=hi;have hany:s.any (fun x=>x==47)=(s.findIdx? fun x=>x==47).isSome:=by
  rw[List.findIdx?_isSome]
 refine zL (T177.An s [47]) (zy (by decide) (zq (fun c=>?_) (fun c=>zc (by decide) (zc (by decide) (zc (by decide) ?_)))))
 ·have c:s=[47]:=by
   have:[47]=s:=by simpa using c
   exact this.symm
  subst c;exact zc rfl (zc rfl (zc rfl (zm (zT rfl rfl rfl))))
 ·have ei:MJ s (((([47]:List UInt8).getD 0 0).toNat:Nat):Int)=match s.findIdx? (fun x=>x==47)with
   |some i=>(i:Int)
   |none=> -1:=rfl
  cases hf:s.findIdx? (fun x=>x==47)with
  |none=>
   rw[hf]at ei;have ei:MJ s (((([47]:List UInt8).getD 0 0).toNat:Nat):Int)= -1:=ei;rw[ei];refine zy (by decide) (zm (zT rfl rfl ?_));show(s,[],false)=(Ay s,Sp.AG s,Bw s);unfold Ay Sp.AG Bw;rw[hany,hf];rfl
  |some k=>
   rw[hf]at ei;have ei:MJ s (((([47]:List UInt8).getD 0 0).toNat:Nat):Int)=(k:Int):=ei;have hk:=Si hf;have e1:zf .i64 ((k:Int)+(([47]:List UInt8).length:Int))=((k+1:Nat):Int):=by
    show zf .i64 ((k:Int)+1)=_;rw[wr _ (by omega) (by omega)];omega
   rw[ei,e1,zg,zg];refine zc (by simp) (zc (by simp;omega) (zc (by simp;omega) (zm (zT rfl rfl ?_))));show(s.take k,(s.drop (k+1)).take (yf s.length (k+1)),true)=(Ay s,Sp.AG s,Bw s);unfold Ay Sp.AG Bw;have e2:(s.drop (k+1)).take (yf s.length (k+1))=s.drop (k+1):=zj (by rw[zp];exact yj _);rw[hany,hf,e2];rfl
end Go.Pe
end
section
namespace Go.Pe
open Sp
open Go.Det
namespace T263
theorem Ak{Q:PV→Ob→Prop}(s:List UInt8)(hs:Al s=true)(hl:s.length≤18)(hq:∀ob,Q (.dat i64 (AA 0 s)) ob):∀(r:List UInt8) (i:Nat),s.drop i=r→i≤s.length→Ends Us (L1 s (AA 0 (s.take i)) i) Q
 |[],i,h,hi=>by
  have he:i=s.length:=drop_nil h hi;subst he;rw[zQ];exact zn (Ai ..) (zy (by simp) (zm (hq _)))
 |c::r,i,h,hi=>by
  obtain⟨h1,h2,h3⟩:=drop_cons (d:=0) h;have hb:=Bo (A4 hs i);have hlen:(s.take i).length=i:=by rw[zw];omega
  rw[hlen]at hb;have hp:(10:Int)^i≤10^17:=AU (by decide) (by omega);have hc:BE c=true:=by
   unfold Al at hs;rw[yp]at hs;exact hs c (CR h)
  have hd:=Da hc;have hc0:48≤c.toNat∧c.toNat≤57:=by unfold MO at hd;omega
  have e1:zf .i64 (c.toNat:Int)=(c.toNat:Int):=wr _ (by omega) (by omega);have hp17:(10:Int)^17=100000000000000000:=by decide
  have e2:zf .i64 (zf .i64 (zf .i64 (10*AA 0 (s.take i))+(c.toNat:Int))-48)=AA 0 (s.take (i+1)):=by
   rw[HY h,Dv];show _=10*AA 0 (s.take i)+((c.toNat:Int)-48);generalize AA 0 (s.take i)=D at*;rw[wr (10*D) (by omega) (by omega),wr (10*D+(c.toNat:Int)) (by omega) (by omega),wr _ (by omega) (by omega)];omega
  have e3:zf .i64 ((i:Int)+1)=((i+1:Nat):Int):=by rw[wr _ (by omega) (by omega)];omega
  refine zn (Ai ..) (zc (by simp;omega) ?_);rw[zg,h2,e1,e2,e3];exact zc (by simp;omega) (Ak s hs hl hq r (i+1) h3 h1)
theorem ok:Ad AT 263 Px:=by
 refine Av (X:=Us) rfl OO (d:=9) (by kernel_rfl) (by kernel_rfl) (by kernel_rfl) (fun(s:List UInt8) hs=>?_) (Ab (by kernel_rfl));have hs:(decide (s.length≤18)&&Al s)=true:=hs;rw[zh,decide_eq_true_eq]at hs;exact zL (An s) (Ak s hs.2 hs.1 (fun ob=>zT rfl rfl rfl) s 0 rfl (Nat.zero_le _))
end T263
theorem Zi:∀g sp,U0.sp g=some sp→Ad AT g sp:=Ac T263.ok (Ac T264.ok (fun g sp h=>by cases h))
theorem Oe{neg:Bool}{w:List Int}{D:Int}(hd:At zd w)(hv:ze zd w=D):(Ey neg w,Az w)=(Sp.rN (if neg=true then -D else D),Sp.rW (if neg=true then -D else D)):=by
 have h0:=Aw (b:=zd) (by decide) hd;rw[hv]at h0;have hw:Az w=CG D:=by rw[FB hd];show CG (ze zd w)=_;rw[hv]
 have hnil:CG D=[]↔D=0:=dL (by decide) h0;have ea:Ah (if neg=true then -D else D)=D:=by rw[Aq];split<;>omega
 unfold Ey Sp.rW Sp.rN;rw[ea,hw];congr 1;cases neg with
 |false=>simp;omega
 |true=>
  simp only[if_true,yb,ne_eq,hnil,decide_eq_decide];omega
end Go.Pe
namespace Go.Pe
open Sp
open Go.Det
namespace T207
variable {Q:PV→Ob→Prop}
theorem gB:(10:Int)^9=1000000000:=by decide
theorem HM{s:List UInt8}{m:Nat}(hm:m+9=s.length):AA 0 s=AA 0 (s.take m)*1000000000+AA 0 (s.drop m):=by
 conv=>lhs;rw[←zU m s]
 rw[Dv,DW (s.drop m),zp,show s.length-m=9 by omega,gB]
theorem BH{s:List UInt8}(hs:Al s=true)(h:s.length≤9):0≤AA 0 s∧AA 0 s<1000000000:=by
 have:=Bo hs;have h2:(10:Int)^s.length≤10^9:=AU (by decide) h;rw[gB]at h2;omega
theorem BJ{s:List UInt8}(hs:Al s=true)(h:s.length≤18):Dp s=true:=by
 unfold Dp;rw[hs,Bool.and_true];exact decide_eq_true h
theorem Bt(neg:Bool)(D:Int)(hq:∀(w:List Int) ob,At zd w→ze zd w=D→Q (.agg [.dat .bool (Ey neg w),.dat li (Az w)]) ob):∀(f:Nat) (s:List UInt8) (o1:List Int),s.length≤f→Al s=true→o1.length+s.length≤1500→At zd o1→ze zd o1+(zd:Int)^o1.length*AA 0 s=D→Ends U0 (L3 s neg o1.length o1) Q:=by
 intro f;induction f with
 |zero=>
  intro s o1 hf hs hl hd he;have h9:s.length≤9:=by omega
  have hv:=BH hs h9;have ht:(o1++[Bg s]).take (yE o1.length 1)=o1++[Bg s]:=zj (by simp);refine zn (Bm ..) (zy (by simp;omega) (zc (BJ hs (by omega)) (zc (by simp;omega) ?_)));rw[ht];refine zc (by simp;omega) (zm (hq _ _ (Fa hd hv) ?_));rw[CA];exact he
 |succ f ih=>
  intro s o1 hf hs hl hd he;by_cases h9:s.length≤9
  ·have hv:=BH hs h9;have ht:(o1++[Bg s]).take (yE o1.length 1)=o1++[Bg s]:=zj (by simp);refine zn (Bm ..) (zy (by simp;omega) (zc (BJ hs (by omega)) (zc (by simp;omega) ?_)));rw[ht];refine zc (by simp;omega) (zm (hq _ _ (Fa hd hv) ?_));rw[CA];exact he
  ·obtain⟨m,hm⟩:∃m,m+9=s.length:=⟨s.length-9,by omega⟩;have e1:zf .i64 ((s.length:Int)-9)=(m:Int):=by rw[wr _ (by omega) (by omega)];omega
   have e2:(s.drop m).take (yf s.length m)=s.drop m:=zj (by rw[zp];exact yj _);have hv:=BH (BC hs m) (by rw[zp];omega);refine zn (Bm ..) (zc (by simp;omega) ?_);rw[e1,zg,e2];refine zc (by simp;omega) (zc (BJ (BC hs m) (by rw[zp];omega)) (zc (by simp;omega) (zc (by simp;omega) ?_)));have:=ih (s.take m) (o1++[Bg (s.drop m)]) (by rw[zw];omega) (A4 hs m) (by simp;omega) (Fa hd hv) (by
    rw[CA,zI];show ze zd o1+(zd:Int)^o1.length*AA 0 (s.drop m)+(zd:Int)^(o1.length+1)*AA 0 (s.take m)=D;rw[L0,yA, ←zA, ←he,HM hm];congr 2;omega)
   rw[zI]at this;exact this
theorem A5(D:Int)(hq:∀(w:List Int) ob,At zd w→ze zd w=D→Q (.agg [.dat .bool (Ey false w),.dat li (Az w)]) ob):∀(f:Nat) (s:List UInt8) (o1:List Int),s.length≤f→Al s=true→o1.length+s.length≤1500→At zd o1→ze zd o1+(zd:Int)^o1.length*AA 0 s=D→Ends U0 (L4 s o1.length o1) Q:=by
 intro f;induction f with
 |zero=>
  intro s o1 hf hs hl hd he;have h9:s.length≤9:=by omega
  have hv:=BH hs h9;have ht:(o1++[Bg s]).take (yE o1.length 1)=o1++[Bg s]:=zj (by simp);refine zn (BB ..) (zy (by simp;omega) (zc (BJ hs (by omega)) (zc (by simp;omega) ?_)));rw[ht];refine zc (by simp;omega) (zm (hq _ _ (Fa hd hv) ?_));rw[CA];exact he
 |succ f ih=>
  intro s o1 hf hs hl hd he;by_cases h9:s.length≤9
  ·have hv:=BH hs h9;have ht:(o1++[Bg s]).take (yE o1.length 1)=o1++[Bg s]:=zj (by simp);refine zn (BB ..) (zy (by simp;omega) (zc (BJ hs (by omega)) (zc (by simp;omega) ?_)));rw[ht];refine zc (by simp;omega) (zm (hq _ _ (Fa hd hv) ?_));rw[CA];exact he
  ·obtain⟨m,hm⟩:∃m,m+9=s.length:=⟨s.length-9,by omega⟩;have e1:zf .i64 ((s.length:Int)-9)=(m:Int):=by rw[wr _ (by omega) (by omega)];omega
   have e2:(s.drop m).take (yf s.length m)=s.drop m:=zj (by rw[zp];exact yj _);have hv:=BH (BC hs m) (by rw[zp];omega);refine zn (BB ..) (zc (by simp;omega) ?_);rw[e1,zg,e2];refine zc (by simp;omega) (zc (BJ (BC hs m) (by rw[zp];omega)) (zc (by simp;omega) (zc (by simp;omega) ?_)));have:=ih (s.take m) (o1++[Bg (s.drop m)]) (by rw[zw];omega) (A4 hs m) (by simp;omega) (Fa hd hv) (by
    rw[CA,zI];show ze zd o1+(zd:Int)^o1.length*AA 0 (s.drop m)+(zd:Int)^(o1.length+1)*AA 0 (s.take m)=D;rw[L0,yA, ←zA, ←he,HM hm];congr 2;omega)
   rw[zI]at this;exact this
theorem Ak(neg:Bool)(s:List UInt8)(hs:Al s=true)(hl:s.length≤1499)(hq:∀(w:List Int) ob,At zd w→ze zd w=AA 0 s→Q (.agg [.dat .bool (Ey neg w),.dat li (Az w)]) ob):Ends U0 (L1 s neg) Q:=by
 by_cases h9:s.length≤9
 ·have hv:=BH hs h9;refine zn (Ai ..) (zy (by simp;omega) (zc (BJ hs (by omega)) (zc rfl (zc rfl (zm (hq _ _ (Fa (l:=[]) (fun x hx=>by cases hx) hv) ?_))))));show ze zd [AA 0 s]=_;exact DI _
 ·obtain⟨m,hm⟩:∃m,m+9=s.length:=⟨s.length-9,by omega⟩;have e1:zf .i64 ((s.length:Int)-9)=(m:Int):=by rw[wr _ (by omega) (by omega)];omega
  have e2:(s.drop m).take (yf s.length m)=s.drop m:=zj (by rw[zp];exact yj _);have hv:=BH (BC hs m) (by rw[zp];omega);refine zn (Ai ..) (zc (by simp;omega) ?_);rw[e1,zg,e2];refine zc (by simp;omega) (zc (BJ (BC hs m) (by rw[zp];omega)) (zc rfl (zc (by simp;omega) ?_)));refine Bt neg (AA 0 s) hq m (s.take m) [Bg (s.drop m)] (by rw[zw];omega) (A4 hs m) (by simp;omega) (Fa (l:=[]) (fun x hx=>by cases hx) hv) ?_;rw[DI,HM hm];show AA 0 (s.drop m)+(zd:Int)^1*_=_;rw[zr,zG,zN,zz];exact Int.add_comm _ _
theorem AN(s:List UInt8)(hs:Al s=true)(hl:s.length≤1499)(hq:∀(w:List Int) ob,At zd w→ze zd w=AA 0 s→Q (.agg [.dat .bool (Ey false w),.dat li (Az w)]) ob):Ends U0 (L2 s) Q:=by
 by_cases h9:s.length≤9
 ·have hv:=BH hs h9;refine zn (AM ..) (zy (by simp;omega) (zc (BJ hs (by omega)) (zc rfl (zc rfl (zm (hq _ _ (Fa (l:=[]) (fun x hx=>by cases hx) hv) ?_))))));show ze zd [AA 0 s]=_;exact DI _
 ·obtain⟨m,hm⟩:∃m,m+9=s.length:=⟨s.length-9,by omega⟩;have e1:zf .i64 ((s.length:Int)-9)=(m:Int):=by rw[wr _ (by omega) (by omega)];omega
  have e2:(s.drop m).take (yf s.length m)=s.drop m:=zj (by rw[zp];exact yj _);have hv:=BH (BC hs m) (by rw[zp];omega);refine zn (AM ..) (zc (by simp;omega) ?_);rw[e1,zg,e2];refine zc (by simp;omega) (zc (BJ (BC hs m) (by rw[zp];omega)) (zc rfl (zc (by simp;omega) ?_)));refine A5 (AA 0 s) hq m (s.take m) [Bg (s.drop m)] (by rw[zw];omega) (A4 hs m) (by simp;omega) (Fa (l:=[]) (fun x hx=>by cases hx) hv) ?_;rw[DI,HM hm];show AA 0 (s.drop m)+(zd:Int)^1*_=_;rw[zr,zG,zN,zz];exact Int.add_comm _ _
theorem ok:Ad AT 207 Pz:=by
 refine Av (X:=U0) rfl Zi (d:=9) (by kernel_rfl) (by kernel_rfl) (by kernel_rfl) (fun(s:List UInt8) hs=>?_) (Ab (by kernel_rfl));have hs:(decide (s.length≤1499)&&(if s.getD 0 0=45 then Al (s.drop 1)else Al s))=true:=hs;rw[zh,decide_eq_true_eq]at hs;obtain⟨hl,hs⟩:=hs;have fin:∀(neg:Bool) (D:Int),CD s=(if neg=true then -D else D)→∀(w:List Int) ob,At zd w→ze zd w=D→Ae Pz s (.agg [.dat .bool (Ey neg w),.dat li (Az w)]) ob:=by
  intro neg D hr w ob hd hv;refine zT rfl rfl ?_;show(Ey neg w,Az w)=(Sp.rN (CD s),Sp.rW (CD s));rw[hr];exact Oe hd hv
 refine zL (An s) ?_;conv=>zeta
 cases s with
 |nil=>exact zy (by decide) (AN [] rfl (by decide) (fin false 0 rfl))
 |cons c r=>
  have g0:(c::r).getD 0 0=c:=rfl;rw[g0]at hs;rw[g0];refine zc (by simp) (zc (by simp) (zq (fun d=>?_) (fun d=>?_)))
  ·have hc:c=45:=by
    have:(c.toNat:Int)=45:=by simpa using d
    exact UInt8.toNat_inj.1 (by show _=45;omega)
   rw[if_pos hc]at hs;have e:(yC 1 (c::r)).take (yf (c::r).length 1)=r:=by show r.take ((r.length+1)-1)=r;rw[zR];exact zQ
   rw[d,e];refine zc (by simp) (Ak true r hs (by simp at hl;omega) (fin true _ ?_));unfold CD;rw[g0,if_pos hc,if_pos rfl];rfl
  ·have hc:c≠45:=by
    rintro rfl;exact absurd d (by decide)
   rw[if_neg hc]at hs;rw[d];refine Ak false (c::r) hs hl (fin false _ ?_);unfold CD;rw[g0,if_neg hc,if_neg (by decide)]
end T207
end Go.Pe
end
