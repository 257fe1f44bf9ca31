import Derived.Test.YtknhdhchejmpgaaGreatDoorX12
import Derived.Test.YtknhdhchejmpgaaGreatDoorX11
import Derived.Test.YtknhdhchejmpgaaGreatDoorX10
import Derived.Test.YtknhdhchejmpgaaGreatDoorX07
import Derived.Test.YtknhdhchejmpgaaGreatDoorX09
/- A part of a proof (no law is stated here). Made by program out of texts by AI agents. -/
open Go.Pe.Ends renaming tt → zc, leaf → zf, As → zj, ite → zl, ff → zn, eq → zD
open Bool renaming and_eq_true → zd, true_and → zS, and_true → yC
open Go.IntKind renaming wrap → ze, u64 → z7
open Int renaming toNat_natCast → zg, mul_le_mul_of_nonneg_left → zp, lt_of_lt_of_le → zq, le_of_lt → zw, lt_of_le_of_lt → zx, mul_le_mul_of_nonneg_right → zB, ne_of_gt → zF, eq_ofNat_of_zero_le → zM, pow_succ → zQ, toNat → zT, mul_comm → ya, le_trans → yb, gcd → yc, mul_nonneg → ye, tdiv_eq_ediv_of_nonneg → yg, tmod_eq_emod_of_nonneg → yh, natAbs_natCast → yj, mul_pos → ym, mul_one → yn, ediv_eq_iff_of_pos → yr, sign_eq_one_of_pos → yt, one_mul → yw, le_refl → yx, add_assoc → yD, gcd_comm → yI, ediv_one → yJ
open Go.Sp renaming vI → zh, AL → zr, B9 → zt, val → zP, gI → yv, D5 → yE, first → yG, preB → yH
open List renaming length_drop → zi, length_append → zk, take_of_length_le → zm, length_take → zo, all_cons → zz, take_length → zA, length_eq_zero_iff → zE, getD_eq_getElem?_getD → zG, getElem?_eq_getElem → zJ, map → zN, length_map → zU, take_succ_eq_append_getElem → zW, take_append_drop → zX, all_eq_true → zZ, findIdx?_cons → yf, mem_singleton → yi, length_cons → yo, reverse_singleton → yu, length → yA, take → yB
open Go.Lib renaming decDigits → zu, decDigits_length → z8
open UInt8 renaming ofNat → zy, toNat → zC, toNat_inj → zH
open Nat renaming le_refl → zI, zero_le → zO, eq_zero_or_pos → zR, ble_eq_true_of_le → zY, sub → z6, add_sub_cancel → yd, add → yq, ble → yK
open Rat renaming divInt → zK, num_divInt_den → zV, num_divInt → yy, den_divInt → yz
open Go.Pe.Af renaming of → zL
open Classical renaming byContradiction → yk
open Go.Pe.Obj renaming tbox → yp
open Go.Pe.Sh renaming int → yF
section
namespace Go.Pe
open Sp
open Go.Det
namespace T165
theorem Am{Q:PV→Ob→Prop}(s:List UInt8)(hs:Ak s=true)(hl:s.length≤18)(hq:∀ob,Q (.dat i64 (Az 0 s)) ob):∀(r:List UInt8) (i:Nat),s.drop i=r→i≤s.length→Ends XX (L1 s (Az 0 (s.take i)) i) Q
 |[],i,h,hi=>by
  have he:i=s.length:=drop_nil h hi;subst he;rw[zA];exact zj (Au ..) (zn (by simp) (zf (hq _)))
 |c::r,i,h,hi=>by
  obtain⟨h1,h2,h3⟩:=drop_cons (d:=0) h;have hb:=Bb (Bc hs i);have hlen:(s.take i).length=i:=by rw[zo];omega
  rw[hlen]at hb;have hp:(10:Int)^i≤10^17:=AJ (by decide) (by omega);have hc:BI c=true:=by
   unfold Ak at hs;rw[zZ]at hs;exact hs c (N8 h)
  have hd:=CG hc;have hc0:48≤c.toNat∧c.toNat≤57:=by unfold GR at hd;omega
  have e1:ze .i64 (c.toNat:Int)=(c.toNat:Int):=wr _ (by omega) (by omega);have hp17:(10:Int)^17=100000000000000000:=by decide
  have e2:ze .i64 (ze .i64 (ze .i64 (10*Az 0 (s.take i))+(c.toNat:Int))-48)=Az 0 (s.take (i+1)):=by
   rw[KU h,Cy];show _=10*Az 0 (s.take i)+((c.toNat:Int)-48);generalize Az 0 (s.take i)=D at*;rw[wr (10*D) (by omega) (by omega),wr (10*D+(c.toNat:Int)) (by omega) (by omega),wr _ (by omega) (by omega)];omega
  have e3:ze .i64 ((i:Int)+1)=((i+1:Nat):Int):=by rw[wr _ (by omega) (by omega)];omega
  refine zj (Au ..) (zc (by simp;omega) ?_);rw[zg,h2,e1,e2,e3];exact zc (by simp;omega) (Am s hs hl hq r (i+1) h3 h1)
theorem ok:Ae AS 165 RJ:=by
 refine Ax (X:=XX) rfl QM (d:=9) (by kernel_rfl) (by kernel_rfl) (by kernel_rfl) (fun(s:List UInt8) hs=>?_) (Ad (by kernel_rfl));have hs:(decide (s.length≤18)&&Ak s)=true:=hs;rw[zd,decide_eq_true_eq]at hs;exact zD (An s) (Am s hs.2 hs.1 (fun ob=>zL rfl rfl rfl) s 0 rfl (zO _))
end T165
theorem gF:∀g sp,XQ.sp g=some sp→Ae AS g sp:=Aa T165.ok (Aa T168.ok (fun g sp h=>by cases h))
theorem Lv{neg:Bool}{w:List Int}{D:Int}(hd:At zt w)(hv:zP zt w=D):(B5 neg w,Ar w)=(Sp.rN (if neg=true then -D else D),Sp.rW (if neg=true then -D else D)):=by
 have h0:=Ay (b:=zt) (by decide) hd;rw[hv]at h0;have hw:Ar w=BM D:=by rw[Fo hd];show BM (zP zt w)=_;rw[hv]
 have hnil:BM D=[]↔D=0:=oF (by decide) h0;have ea:Ag (if neg=true then -D else D)=D:=by rw[Ai];split<;>omega
 unfold B5 Sp.rW Sp.rN;rw[ea,hw];congr 1;cases neg with
 |false=>simp;omega
 |true=>
  simp only[if_true,zS,ne_eq,hnil,decide_eq_decide];omega
end Go.Pe
namespace Go.Pe
open Sp
open Go.Det
namespace T163
variable {Q:PV→Ob→Prop}
theorem uJ:(10:Int)^9=1000000000:=by decide
theorem Iv{s:List UInt8}{m:Nat}(hm:m+9=s.length):Az 0 s=Az 0 (s.take m)*1000000000+Az 0 (s.drop m):=by
 conv=>lhs;rw[←zX m s]
 rw[Cy,Eh (s.drop m),zi,show s.length-m=9 by omega,uJ]
theorem Ci{s:List UInt8}(hs:Ak s=true)(h:s.length≤9):0≤Az 0 s∧Az 0 s<1000000000:=by
 have:=Bb hs;have h2:(10:Int)^s.length≤10^9:=AJ (by decide) h;rw[uJ]at h2;omega
theorem BU{s:List UInt8}(hs:Ak s=true)(h:s.length≤18):Dz s=true:=by
 unfold Dz;rw[hs,yC];exact decide_eq_true h
theorem CN(neg:Bool)(D:Int)(hq:∀(w:List Int) ob,At zt w→zP zt w=D→Q (.agg [.dat .bool (B5 neg w),.dat li (Ar w)]) ob):∀(f:Nat) (s:List UInt8) (o1:List Int),s.length≤f→Ak s=true→o1.length+s.length≤6000→At zt o1→zP zt o1+(zt:Int)^o1.length*Az 0 s=D→Ends XQ (L3 s neg o1.length o1) Q:=by
 intro f;induction f with
 |zero=>
  intro s o1 hf hs hl hd he;have h9:s.length≤9:=by omega
  have hv:=Ci hs h9;have ht:(o1++[Bu s]).take (yq o1.length 1)=o1++[Bu s]:=zm (by simp);refine zj (C9 ..) (zn (by simp;omega) (zc (BU hs (by omega)) (zc (by simp;omega) ?_)));rw[ht];refine zc (by simp;omega) (zf (hq _ _ (EN hd hv) ?_));rw[B6];exact he
 |succ f ih=>
  intro s o1 hf hs hl hd he;by_cases h9:s.length≤9
  ·have hv:=Ci hs h9;have ht:(o1++[Bu s]).take (yq o1.length 1)=o1++[Bu s]:=zm (by simp);refine zj (C9 ..) (zn (by simp;omega) (zc (BU hs (by omega)) (zc (by simp;omega) ?_)));rw[ht];refine zc (by simp;omega) (zf (hq _ _ (EN hd hv) ?_));rw[B6];exact he
  ·obtain⟨m,hm⟩:∃m,m+9=s.length:=⟨s.length-9,by omega⟩;have e1:ze .i64 ((s.length:Int)-9)=(m:Int):=by rw[wr _ (by omega) (by omega)];omega
   have e2:(s.drop m).take (z6 s.length m)=s.drop m:=zm (by rw[zi];exact zI _);have hv:=Ci (BQ hs m) (by rw[zi];omega);refine zj (C9 ..) (zc (by simp;omega) ?_);rw[e1,zg,e2];refine zc (by simp;omega) (zc (BU (BQ hs m) (by rw[zi];omega)) (zc (by simp;omega) (zc (by simp;omega) ?_)));have:=ih (s.take m) (o1++[Bu (s.drop m)]) (by rw[zo];omega) (Bc hs m) (by simp;omega) (EN hd hv) (by
    rw[B6,zk];show zP zt o1+(zt:Int)^o1.length*Az 0 (s.drop m)+(zt:Int)^(o1.length+1)*Az 0 (s.take m)=D;rw[I5,yD, ←Int.mul_add, ←he,Iv hm];congr 2;omega)
   rw[zk]at this;exact this
theorem BN(D:Int)(hq:∀(w:List Int) ob,At zt w→zP zt w=D→Q (.agg [.dat .bool (B5 false w),.dat li (Ar w)]) ob):∀(f:Nat) (s:List UInt8) (o1:List Int),s.length≤f→Ak s=true→o1.length+s.length≤6000→At zt o1→zP zt o1+(zt:Int)^o1.length*Az 0 s=D→Ends XQ (L4 s o1.length o1) Q:=by
 intro f;induction f with
 |zero=>
  intro s o1 hf hs hl hd he;have h9:s.length≤9:=by omega
  have hv:=Ci hs h9;have ht:(o1++[Bu s]).take (yq o1.length 1)=o1++[Bu s]:=zm (by simp);refine zj (Dp ..) (zn (by simp;omega) (zc (BU hs (by omega)) (zc (by simp;omega) ?_)));rw[ht];refine zc (by simp;omega) (zf (hq _ _ (EN hd hv) ?_));rw[B6];exact he
 |succ f ih=>
  intro s o1 hf hs hl hd he;by_cases h9:s.length≤9
  ·have hv:=Ci hs h9;have ht:(o1++[Bu s]).take (yq o1.length 1)=o1++[Bu s]:=zm (by simp);refine zj (Dp ..) (zn (by simp;omega) (zc (BU hs (by omega)) (zc (by simp;omega) ?_)));rw[ht];refine zc (by simp;omega) (zf (hq _ _ (EN hd hv) ?_));rw[B6];exact he
  ·obtain⟨m,hm⟩:∃m,m+9=s.length:=⟨s.length-9,by omega⟩;have e1:ze .i64 ((s.length:Int)-9)=(m:Int):=by rw[wr _ (by omega) (by omega)];omega
   have e2:(s.drop m).take (z6 s.length m)=s.drop m:=zm (by rw[zi];exact zI _);have hv:=Ci (BQ hs m) (by rw[zi];omega);refine zj (Dp ..) (zc (by simp;omega) ?_);rw[e1,zg,e2];refine zc (by simp;omega) (zc (BU (BQ hs m) (by rw[zi];omega)) (zc (by simp;omega) (zc (by simp;omega) ?_)));have:=ih (s.take m) (o1++[Bu (s.drop m)]) (by rw[zo];omega) (Bc hs m) (by simp;omega) (EN hd hv) (by
    rw[B6,zk];show zP zt o1+(zt:Int)^o1.length*Az 0 (s.drop m)+(zt:Int)^(o1.length+1)*Az 0 (s.take m)=D;rw[I5,yD, ←Int.mul_add, ←he,Iv hm];congr 2;omega)
   rw[zk]at this;exact this
theorem Am(neg:Bool)(s:List UInt8)(hs:Ak s=true)(hl:s.length≤5999)(hq:∀(w:List Int) ob,At zt w→zP zt w=Az 0 s→Q (.agg [.dat .bool (B5 neg w),.dat li (Ar w)]) ob):Ends XQ (L1 s neg) Q:=by
 by_cases h9:s.length≤9
 ·have hv:=Ci hs h9;refine zj (Au ..) (zn (by simp;omega) (zc (BU hs (by omega)) (zc rfl (zc rfl (zf (hq _ _ (EN (l:=[]) (fun x hx=>by cases hx) hv) ?_))))));show zP zt [Az 0 s]=_;exact DQ _
 ·obtain⟨m,hm⟩:∃m,m+9=s.length:=⟨s.length-9,by omega⟩;have e1:ze .i64 ((s.length:Int)-9)=(m:Int):=by rw[wr _ (by omega) (by omega)];omega
  have e2:(s.drop m).take (z6 s.length m)=s.drop m:=zm (by rw[zi];exact zI _);have hv:=Ci (BQ hs m) (by rw[zi];omega);refine zj (Au ..) (zc (by simp;omega) ?_);rw[e1,zg,e2];refine zc (by simp;omega) (zc (BU (BQ hs m) (by rw[zi];omega)) (zc rfl (zc (by simp;omega) ?_)));refine CN neg (Az 0 s) hq m (s.take m) [Bu (s.drop m)] (by rw[zo];omega) (Bc hs m) (by simp;omega) (EN (l:=[]) (fun x hx=>by cases hx) hv) ?_;rw[DQ,Iv hm];show Az 0 (s.drop m)+(zt:Int)^1*_=_;rw[zQ,Int.pow_zero,yw,ya];exact Int.add_comm _ _
theorem AZ(s:List UInt8)(hs:Ak s=true)(hl:s.length≤5999)(hq:∀(w:List Int) ob,At zt w→zP zt w=Az 0 s→Q (.agg [.dat .bool (B5 false w),.dat li (Ar w)]) ob):Ends XQ (L2 s) Q:=by
 by_cases h9:s.length≤9
 ·have hv:=Ci hs h9;refine zj (A4 ..) (zn (by simp;omega) (zc (BU hs (by omega)) (zc rfl (zc rfl (zf (hq _ _ (EN (l:=[]) (fun x hx=>by cases hx) hv) ?_))))));show zP zt [Az 0 s]=_;exact DQ _
 ·obtain⟨m,hm⟩:∃m,m+9=s.length:=⟨s.length-9,by omega⟩;have e1:ze .i64 ((s.length:Int)-9)=(m:Int):=by rw[wr _ (by omega) (by omega)];omega
  have e2:(s.drop m).take (z6 s.length m)=s.drop m:=zm (by rw[zi];exact zI _);have hv:=Ci (BQ hs m) (by rw[zi];omega);refine zj (A4 ..) (zc (by simp;omega) ?_);rw[e1,zg,e2];refine zc (by simp;omega) (zc (BU (BQ hs m) (by rw[zi];omega)) (zc rfl (zc (by simp;omega) ?_)));refine BN (Az 0 s) hq m (s.take m) [Bu (s.drop m)] (by rw[zo];omega) (Bc hs m) (by simp;omega) (EN (l:=[]) (fun x hx=>by cases hx) hv) ?_;rw[DQ,Iv hm];show Az 0 (s.drop m)+(zt:Int)^1*_=_;rw[zQ,Int.pow_zero,yw,ya];exact Int.add_comm _ _
theorem ok:Ae AS 163 QP:=by
 refine Ax (X:=XQ) rfl gF (d:=9) (by kernel_rfl) (by kernel_rfl) (by kernel_rfl) (fun(s:List UInt8) hs=>?_) (Ad (by kernel_rfl));have hs:(decide (s.length≤5999)&&(if s.getD 0 0=45 then Ak (s.drop 1)else Ak s))=true:=hs;rw[zd,decide_eq_true_eq]at hs;obtain⟨hl,hs⟩:=hs;have fin:∀(neg:Bool) (D:Int),Ca s=(if neg=true then -D else D)→∀(w:List Int) ob,At zt w→zP zt w=D→Af QP s (.agg [.dat .bool (B5 neg w),.dat li (Ar w)]) ob:=by
  intro neg D hr w ob hd hv;refine zL rfl rfl ?_;show(B5 neg w,Ar w)=(Sp.rN (Ca s),Sp.rW (Ca s));rw[hr];exact Lv hd hv
 refine zD (An s) ?_;conv=>zeta
 cases s with
 |nil=>exact zn (by decide) (AZ [] rfl (by decide) (fin false 0 rfl))
 |cons c r=>
  have g0:(c::r).getD 0 0=c:=rfl;rw[g0]at hs;rw[g0];refine zc (by simp) (zc (by simp) (zl (fun d=>?_) (fun d=>?_)))
  ·have hc:c=45:=by
    have:(c.toNat:Int)=45:=by simpa using d
    exact zH.1 (by show _=45;omega)
   rw[if_pos hc]at hs;have e:(List.drop 1 (c::r)).take (z6 (c::r).length 1)=r:=by show r.take ((r.length+1)-1)=r;rw[yd];exact zA
   rw[d,e];refine zc (by simp) (Am true r hs (by simp at hl;omega) (fin true _ ?_));unfold Ca;rw[g0,if_pos hc,if_pos rfl];rfl
  ·have hc:c≠45:=by
    rintro rfl;exact absurd d (by decide)
   rw[if_neg hc]at hs;rw[d];refine Am false (c::r) hs hl (fin false _ ?_);unfold Ca;rw[g0,if_neg hc,if_neg (by decide)]
end T163
end Go.Pe
end
section
namespace Go.Pe
open Sp
open Go.Det
theorem lG:∀g sp,O4.sp g=some sp→Ae AS g sp:=
 Aa T105n.ok (Aa T216.ok (Aa T159.ok (Aa T158.ok (Aa T174.ok (Aa (Gr (by kernel_rfl) (Ad (by kernel_rfl))) (Aa (Gr (by kernel_rfl) (Ad (by kernel_rfl))) (fun g sp h=>by cases h)))))))
theorem RL(k:Nat):Ei 18 (k:Int)=((min 18 k:Nat):Int):=by unfold Ei;split<;>omega
theorem mJ(n:Int):ze .u8 n=n % 256:=by simp[ze,IntKind.bits,IntKind.signed]
theorem bQ(k:Nat):(10:Int)^k≤(Aj:Int)^k:=by
 induction k with
 |zero=>exact yx _
 |succ k ih=>
  rw[zQ,zQ];have h1:=zB ih (show(0:Int)≤10 by decide);have h2:=zp (show(10:Int)≤(Aj:Int)by decide) (zw (AM (b:=Aj) (by decide) k));exact yb h1 h2
theorem FH{n:Int}(h0:0≤n)(h:n<(10:Int)^(6000:Nat)):A8 (CF n)=true:=by
 refine Dx ?_;have h1:=bQ 6000;have h2:(Aj:Int)^6000≤(Aj:Int)^9000:=AJ (by decide) (by decide);have h3:Ag n=n:=by rw[Ai];omega
 rw[h3];exact zq h (yb h1 h2)
theorem Mt(m n:Int):Ex (Cn m,Cm m) (Cn n,Cm n)=Cn (m*n)∧Ew (Cn m,Cm m) (Cn n,Cm n)=Cm (m*n):=by
 constructor
 ·show Cn (zh (CF _)*zh (CF _))=_;rw[Cg,Cg]
 ·show Cm (zh (CF _)*zh (CF _))=_;rw[Cg,Cg]
theorem lC{a b:AR}(h:0≤zh a+zh b):D9 a b=CF (zh a+zh b):=by
 unfold D9;split
 ·next c=>
  have:=El c.2.2;rw[Bn c.1,Bn c.2.1]at h ⊢;exact(BT (by omega)).symm
 ·rfl
theorem Mx{m v:Int}(hm:0≤m)(hv:0≤v):H3 (Cn m,Cm m) (v,Dw v)=Cn (m+v)∧HF (Cn m,Cm m) (v,Dw v)=Cm (m+v):=by
 have e1:zh (Cn m,Cm m)=m:=Cg m;have e2:zh (v,Dw v)=v:=by rw[D1,Ed]
 have:=lC (a:=(Cn m,Cm m)) (b:=(v,Dw v)) (by rw[e1,e2];omega);rw[e1,e2]at this;exact⟨congrArg Prod.fst this,congrArg Prod.snd this⟩
theorem MP(n:Nat):S5 ((10:Int),Dw (10:Int)) (n:Int)=Cn (10^n)∧Sz ((10:Int),Dw (10:Int)) (n:Int)=Cm (10^n):=by
 have e:Sp.pI (zh ((10:Int),Dw (10:Int))) (n:Int)=10^n:=by rw[RT,D1,Ed,zg]
 unfold S5 Sz;rw[e];exact⟨rfl,rfl⟩
theorem eE:A8 ((10:Int),Dw (10:Int))=true:=by rw[D1];decide
theorem Y7{n:Nat}(h:n≤18):cU (zh ((10:Int),Dw (10:Int))) (n:Int)=true:=by
 unfold cU;have e:Sp.pI (zh ((10:Int),Dw (10:Int))) (n:Int)=10^n:=by rw[RT,D1,Ed,zg]
 rw[e];have h1:(10:Int)^n≤10^18:=AJ (by decide) h;have h0:(0:Int)<10^n:=AM (by decide) n;have h2:(10:Int)^18<18446744073709551616^1:=by decide
 have h3:(18446744073709551616:Int)^(1:Nat)≤18446744073709551616^(4000:Nat):=AJ (by decide) (by decide);have h4:Ag ((10:Int)^n)=10^n:=by rw[Ai];omega
 rw[h4];exact Ac (Ac (decide_eq_true (by omega)) (decide_eq_true (by omega))) (decide_eq_true (zx h1 (zq h2 h3)))
theorem Ss{v:Int}(h0:0≤v)(h:v<1000000000000000000):A8 (v,Dw v)=true:=by
 rw[D1];unfold A8;exact Ac (MT (Du (by omega) (by omega))) (decide_eq_true (zO _))
theorem WX{w:List UInt8}(hs:Ak w=true)(h:w.length≤18):0≤Az 0 w∧Az 0 w<1000000000000000000:=by
 have:=Bb hs;have h2:(10:Int)^w.length≤10^18:=AJ (by decide) h;have h3:(10:Int)^18=1000000000000000000:=by decide
 omega
namespace T153
variable {Q:PV→Ob→Prop}
theorem Cc(W:List UInt8)(neg:Bool)(b1:Int)(b1w:List Int)(b0:Int)(w:List UInt8)(n:Nat)(hw:w=W.take n)(hW:Ak W=true)(hn:n=min 18 W.length)(h1:1≤W.length)(a o0':Int)(a0:0≤a)(hj:A8 (CF a)=true)(hj2:A8 (CF (a*10^n))=true)
  (hgo:Ends O4 (L5 (W.drop n) neg (Cn (a*10^n+Az 0 w)) (Cm (a*10^n+Az 0 w)) o0') Q):
  ∀(r:List UInt8) (j:Nat),w.drop j=r→j≤w.length→Ends O4 (L7 W neg b1 b1w b0 w (Az 0 (w.take j)) w.length w.length j (w.map fun b=>(b.toNat:Int)) (Cn a) (Cm a) o0') Q
 |[],j,hr,hjw=>by
  have hdw:Ak w=true:=by rw[hw];exact Bc hW n
  have hwl:w.length=n:=by rw[hw,zo];omega
  have he:j=w.length:=drop_nil hr hjw;subst he;have hv:=WX hdw (by omega);obtain⟨c,t,hc⟩:∃c t,w=c::t:=by
   cases w with
   |nil=>simp at hwl;omega
   |cons c t=>exact⟨c,t,rfl⟩
  have hc0:((((w.getD 0 0).toNat:Int)==(45:Int))=false):=by
   rw[hc]at hdw ⊢;unfold Ak at hdw;rw[zz,zd]at hdw;have:=CG hdw.1;unfold GR at this;show(((c.toNat:Int)==(45:Int))=false);simp;omega
  have ht:(W.drop n).take (z6 W.length n)=W.drop n:=zm (by rw[zi];exact zI _);have p0:0≤a*10^n:=ye a0 (zw (AM (by decide) n));have jp:A8 (Cn (10^n),Cm (10^n))=true:=by
   refine E6 (FH (n:=(10:Int)^n) (zw (AM (by decide) n)) ?_);have x1:(10:Int)^n≤10^18:=AJ (by decide) (by omega);have x2:(10:Int)^18<10^19:=by decide
   have x3:(10:Int)^19≤10^(6000:Nat):=AJ (by decide) (by decide);exact zx x1 (zq x2 x3)
  refine zj (FN ..) (zn (by simp) (zc (decide_eq_true (by omega)) ?_));rw[hc0,RL, ←hn,(MP n).1,(MP n).2,zA];refine zn rfl (zc rfl (zc (Ac eE (Y7 (by omega))) (zc (Ac hj jp) (zc rfl ?_))));rw[(Mt _ _).1,(Mt _ _).2,(Mx p0 hv.1).1,(Mx p0 hv.1).2,zg,ht];exact zc (Ac hj2 (Ss hv.1 hv.2)) (zc (by simp;omega) hgo)
 |c::r,j,hr,hjw=>by
  have hdw:Ak w=true:=by rw[hw];exact Bc hW n
  have hwl:w.length=n:=by rw[hw,zo];omega
  obtain⟨g1,g2,g3⟩:=drop_cons (d:=0) hr;have hcd:BI c=true:=by
   unfold Ak at hdw;rw[zZ]at hdw;exact hdw c (N8 hr)
  have hd:=CG hcd;have hlt:(w.take j).length=j:=by rw[zo];omega
  have hb:=Bb (Bc hdw j);rw[hlt]at hb;have hp:(10:Int)^j≤10^17:=AJ (by decide) (by omega);have hp17:(10:Int)^17=100000000000000000:=by decide
  have gm:(w.map fun b=>(b.toNat:Int)).getD j 0=(c.toNat:Int):=by
   rw[zG,List.getElem?_map,zJ g1];have:w[j]=c:=by rw[←g2,zG,zJ g1];rfl
   rw[this];rfl
  have e8:ze .u8 ((c.toNat:Int)-48)=GR c:=by
   rw[mJ];unfold GR at hd ⊢;omega
  have e2:ze .i64 (ze .i64 (Az 0 (w.take j)*10)+ze .i64 (GR c))=Az 0 (w.take (j+1)):=by
   rw[KU hr,Cy];show _=10*Az 0 (w.take j)+GR c;generalize Az 0 (w.take j)=D at*;rw[wr (D*10) (by omega) (by omega),wr (GR c) (by omega) (by omega),wr _ (by omega) (by omega)];omega
  have e3:ze .i64 ((j:Int)+1)=((j+1:Nat):Int):=by rw[wr _ (by omega) (by omega)];omega
  refine zj (FN ..) (zc (by simp;omega) ?_);rw[zg,gm,e8,e2,e3];refine zc (by simp;omega) (zc (by simp;omega) (zn (decide_eq_false (by omega)) ?_));exact Cc W neg b1 b1w b0 w n hw hW hn h1 a o0' a0 hj hj2 hgo r (j+1) g3 g1
theorem CN(W:List UInt8)(neg:Bool)(b1:Int)(b0:Int)(w:List UInt8)(n:Nat)(hw:w=W.take n)(hW:Ak W=true)(hn:n=min 18 W.length)(h1:1≤W.length)(a o0':Int)(ha:a=0)(a0:0≤a)(hj:A8 (CF a)=true)(hj2:A8 (CF (a*10^n))=true)
  (hgo:Ends O4 (L5 (W.drop n) neg (Cn (a*10^n+Az 0 w)) (Cm (a*10^n+Az 0 w)) o0') Q):
  ∀(r:List UInt8) (j:Nat),w.drop j=r→j≤w.length→Ends O4 (L3 W neg b1 b0 w (Az 0 (w.take j)) w.length w.length j (w.map fun b=>(b.toNat:Int)) 0 o0') Q
 |[],j,hr,hjw=>by
  have hdw:Ak w=true:=by rw[hw];exact Bc hW n
  have hwl:w.length=n:=by rw[hw,zo];omega
  have he:j=w.length:=drop_nil hr hjw;subst he;have hv:=WX hdw (by omega);obtain⟨c,t,hc⟩:∃c t,w=c::t:=by
   cases w with
   |nil=>simp at hwl;omega
   |cons c t=>exact⟨c,t,rfl⟩
  have hc0:((((w.getD 0 0).toNat:Int)==(45:Int))=false):=by
   rw[hc]at hdw ⊢;unfold Ak at hdw;rw[zz,zd]at hdw;have:=CG hdw.1;unfold GR at this;show(((c.toNat:Int)==(45:Int))=false);simp;omega
  have ht:(W.drop n).take (z6 W.length n)=W.drop n:=zm (by rw[zi];exact zI _);have p0:0≤a*10^n:=ye a0 (zw (AM (by decide) n));have jp:A8 (Cn (10^n),Cm (10^n))=true:=by
   refine E6 (FH (n:=(10:Int)^n) (zw (AM (by decide) n)) ?_);have x1:(10:Int)^n≤10^18:=AJ (by decide) (by omega);have x2:(10:Int)^18<10^19:=by decide
   have x3:(10:Int)^19≤10^(6000:Nat):=AJ (by decide) (by decide);exact zx x1 (zq x2 x3)
  refine zj (C9 ..) (zn (by simp) (zc (decide_eq_true (by omega)) ?_));rw[hc0,RL, ←hn,(MP n).1,(MP n).2,zA];refine zn rfl (zc rfl (zc (Ac eE (Y7 (by omega))) (zc (Ac (show A8 ((0:Int),[])=true by decide) jp) (zc rfl ?_))));rw[show Ex ((0:Int),[]) (Cn (10^n),Cm (10^n))=Cn (a*10^n)by rw[ha];exact(Mt 0 _).1,show Ew ((0:Int),[]) (Cn (10^n),Cm (10^n))=Cm (a*10^n)by rw[ha];exact(Mt 0 _).2,(Mx p0 hv.1).1,(Mx p0 hv.1).2,zg,ht];exact zc (Ac hj2 (Ss hv.1 hv.2)) (zc (by simp;omega) hgo)
 |c::r,j,hr,hjw=>by
  have hdw:Ak w=true:=by rw[hw];exact Bc hW n
  have hwl:w.length=n:=by rw[hw,zo];omega
  obtain⟨g1,g2,g3⟩:=drop_cons (d:=0) hr;have hcd:BI c=true:=by
   unfold Ak at hdw;rw[zZ]at hdw;exact hdw c (N8 hr)
  have hd:=CG hcd;have hlt:(w.take j).length=j:=by rw[zo];omega
  have hb:=Bb (Bc hdw j);rw[hlt]at hb;have hp:(10:Int)^j≤10^17:=AJ (by decide) (by omega);have hp17:(10:Int)^17=100000000000000000:=by decide
  have gm:(w.map fun b=>(b.toNat:Int)).getD j 0=(c.toNat:Int):=by
   rw[zG,List.getElem?_map,zJ g1];have:w[j]=c:=by rw[←g2,zG,zJ g1];rfl
   rw[this];rfl
  have e8:ze .u8 ((c.toNat:Int)-48)=GR c:=by
   rw[mJ];unfold GR at hd ⊢;omega
  have e2:ze .i64 (ze .i64 (Az 0 (w.take j)*10)+ze .i64 (GR c))=Az 0 (w.take (j+1)):=by
   rw[KU hr,Cy];show _=10*Az 0 (w.take j)+GR c;generalize Az 0 (w.take j)=D at*;rw[wr (D*10) (by omega) (by omega),wr (GR c) (by omega) (by omega),wr _ (by omega) (by omega)];omega
  have e3:ze .i64 ((j:Int)+1)=((j+1:Nat):Int):=by rw[wr _ (by omega) (by omega)];omega
  refine zj (C9 ..) (zc (by simp;omega) ?_);rw[zg,gm,e8,e2,e3];refine zc (by simp;omega) (zc (by simp;omega) (zn (decide_eq_false (by omega)) ?_));exact CN W neg b1 b0 w n hw hW hn h1 a o0' ha a0 hj hj2 hgo r (j+1) g3 g1
theorem iM(W:List UInt8)(neg:Bool)(o1:Int)(o1w:List Int)(o0:Int)(hW:Ak W=true)(h1:1≤W.length)(n:Nat)(hn:n=min 18 W.length)
  (h:Ends O4 (L7 W neg o1 o1w o0 (W.take n) 0 (W.take n).length (W.take n).length 0 ((W.take n).map fun b=>(b.toNat:Int)) o1 o1w o0) Q):Ends O4 (L5 W neg o1 o1w o0) Q:=by
 have hwl:(W.take n).length=n:=by rw[zo];omega
 have hdw:=Bc hW n;have hc:((((W.take n).getD 0 0).toNat:Int)==(45:Int))=false∧((((W.take n).getD 0 0).toNat:Int)==(43:Int))=false:=by
  cases hq:W.take n with
  |nil=>rw[hq]at hwl;simp at hwl;omega
  |cons c t=>
   rw[hq]at hdw;unfold Ak at hdw;rw[zz,zd]at hdw;have:=CG hdw.1;unfold GR at this;show(((c.toNat:Int)==(45:Int))=false)∧(((c.toNat:Int)==(43:Int))=false);constructor<;>(simp;omega)
 refine zj (Gk ..) (zc (by simp;omega) ?_);rw[RL, ←hn,zg,hc.1,hc.2];exact zc (by simp;omega) (zc (decide_eq_true (by omega)) (zc (decide_eq_true (by omega)) (zc (decide_eq_true (by omega)) (zn rfl (zc (decide_eq_true (by omega)) (zn rfl h))))))
theorem gV(W:List UInt8)(neg:Bool)(o1:Int)(o0:Int)(hW:Ak W=true)(h1:1≤W.length)(n:Nat)(hn:n=min 18 W.length)
  (h:Ends O4 (L3 W neg o1 o0 (W.take n) 0 (W.take n).length (W.take n).length 0 ((W.take n).map fun b=>(b.toNat:Int)) o1 o0) Q):Ends O4 (L1 W neg o1 o0) Q:=by
 have hwl:(W.take n).length=n:=by rw[zo];omega
 have hdw:=Bc hW n;have hc:((((W.take n).getD 0 0).toNat:Int)==(45:Int))=false∧((((W.take n).getD 0 0).toNat:Int)==(43:Int))=false:=by
  cases hq:W.take n with
  |nil=>rw[hq]at hwl;simp at hwl;omega
  |cons c t=>
   rw[hq]at hdw;unfold Ak at hdw;rw[zz,zd]at hdw;have:=CG hdw.1;unfold GR at this;show(((c.toNat:Int)==(45:Int))=false)∧(((c.toNat:Int)==(43:Int))=false);constructor<;>(simp;omega)
 refine zj (Au ..) (zc (by simp;omega) ?_);rw[RL, ←hn,zg,hc.1,hc.2];exact zc (by simp;omega) (zc (decide_eq_true (by omega)) (zc (decide_eq_true (by omega)) (zc (decide_eq_true (by omega)) (zn rfl (zc (decide_eq_true (by omega)) (zn rfl h))))))
theorem qI(n:Int)(h:0≤n):(D6 (Cn n,Cm n),D4 (Cn n,Cm n))=CF (-n):=by
 show CT (CF n)=_;unfold CT;split
 ·next c=>
  have:=Cg n;rw[Bn c.1]at this;rw[this,BT (n:= -n)];by_cases hb: -9223372036854775808<n∧n<9223372036854775808
  ·omega
  ·exfalso;have e:CF n=(1,Bp (Ag n)):=by unfold CF;rw[if_neg hb,if_neg (by omega)]
   rw[e]at this;have:(1:Int)=n:=this;omega
 ·rw[Cg]
theorem Wo{a D:Int}{W:List UInt8}{n:Nat}(ha:0≤a)(hW:Ak W=true)(hn:n≤W.length)(hD:a*10^W.length+Az 0 W=D):(a*10^n+Az 0 (W.take n))*10^(W.drop n).length+Az 0 (W.drop n)=D∧a≤D∧a*10^n≤D:=by
 have hs:Az 0 W=Az 0 (W.take n)*10^(W.drop n).length+Az 0 (W.drop n):=by
  conv=>lhs;rw[←zX n W]
  rw[Cy,Eh]
 have hl:W.length=n+(W.drop n).length:=by rw[zi];omega
 have hp:(10:Int)^W.length=10^n*10^(W.drop n).length:=by rw[←Int.pow_add, ←hl]
 have hb:=(Bb hW).1;have e1:a*10^W.length=a*10^n*10^(W.drop n).length:=by rw[hp,Int.mul_assoc]
 have one:∀k:Nat,(1:Int)≤10^k:=fun k=>by have:=AM (show(0:Int)<10 by decide) k;omega
 have l1:a≤a*10^W.length:=by have:=zp (one W.length) ha;omega
 have l2:a*10^n≤a*10^n*10^(W.drop n).length:=by
  have:=zp (one (W.drop n).length) (ye ha (show(0:Int)≤10^n by have:=one n;omega));omega
 refine⟨?_,by omega,by omega⟩;rw[Int.add_mul, ←e1];omega
theorem Cj(neg:Bool)(o0 D:Int)(hD1:D<(10:Int)^(6000:Nat))(hq:∀ob,Q (.agg [.dat i64 (Cn (if neg=true then -D else D)),.dat (.nlist u64) (Cm (if neg=true then -D else D))]) ob):∀(f:Nat) (W:List UInt8) (a:Int),W.length<f→W.length≤6000→0≤a→Ak W=true→a*10^W.length+Az 0 W=D→Ends O4 (L5 W neg (Cn a) (Cm a) o0) Q
 |0,W,a,hf,_,_,_,_=>by omega
 |f+1,W,a,hf,h15,ha,hW,he=>by
  cases hW0:W with
  |nil=>
   subst hW0;have he:a=D:=by rw[←he];simp[Az]
   subst he;have hok:=FH ha hD1;refine zj (Gk ..) (zn (by simp) (zl (fun c=>zc (B0 hok).1 (zf ?_)) (fun c=>zf ?_)))
   ·have:=qI a ha;rw[c,if_pos rfl]at hq;have x1:D6 (Cn a,Cm a)=Cn (-a):=congrArg Prod.fst this;have x2:D4 (Cn a,Cm a)=Cm (-a):=congrArg Prod.snd this;rw[x1,x2];exact hq _
   ·rw[c,if_neg (by decide)]at hq;exact hq _
  |cons c t=>
   rw[←hW0];have h1:1≤W.length:=by rw[hW0];simp
   obtain⟨r1,r2,r3⟩:=Wo (n:=min 18 W.length) ha hW (by omega) he;have hv:=(Bb (Bc hW (min 18 W.length))).1;have hp:0≤a*10^(min 18 W.length):=ye ha (zw (AM (by decide) _));refine iM W neg _ _ o0 hW h1 _ rfl (Cc W neg _ _ o0 _ _ rfl hW rfl h1 a o0 ha (FH ha (zx r2 hD1)) (FH hp (zx r3 hD1)) ?_ _ 0 rfl (zO _));exact Cj neg o0 D hD1 hq f (W.drop (min 18 W.length)) _ (by rw[zi];omega) (by rw[zi];omega) (by omega) (BQ hW _) r1
theorem Am(neg:Bool)(W:List UInt8)(h15:W.length≤5999)(hW:Ak W=true)(hq:∀ob,Q (.agg [.dat i64 (Cn (if neg=true then -Az 0 W else Az 0 W)),.dat (.nlist u64) (Cm (if neg=true then -Az 0 W else Az 0 W))]) ob)(hq0:W=[]→∀ob v,(v=.agg [.dat i64 0,.nil]∨v=.agg [.dat i64 (D6 ((0:Int),[])),.dat (.nlist u64) (D4 ((0:Int),[]))])→Q v ob):Ends O4 (L1 W neg 0 0) Q:=by
 cases hW0:W with
 |nil=>
  refine zj (Au ..) (zn (by simp) (zl (fun c=>zc (by decide) (zf (hq0 hW0 _ _ (.inr rfl)))) (fun c=>zf (hq0 hW0 _ _ (.inl rfl)))))
 |cons c t=>
  rw[←hW0];have h1:1≤W.length:=by rw[hW0];simp
  have hD1:Az 0 W<(10:Int)^(6000:Nat):=zq (Bb hW).2 (AJ (by decide) (by omega));obtain⟨r1,r2,r3⟩:=Wo (a:=0) (n:=min 18 W.length) (D:=Az 0 W) (yx _) hW (by omega) (by rw[Int.zero_mul,Int.zero_add]);have hv:=(Bb (Bc hW (min 18 W.length))).1;refine gV W neg 0 0 hW h1 _ rfl (CN W neg 0 0 _ _ rfl hW rfl h1 0 0 rfl (yx _) (by decide) (by rw[Int.zero_mul];decide) ?_ _ 0 rfl (zO _));exact Cj neg 0 _ hD1 hq (W.length+1) (W.drop (min 18 W.length)) _ (by rw[zi];omega) (by rw[zi];omega) (by omega) (BQ hW _) r1
theorem ok:Ae AS 153 NQ:=by
 refine Ax (X:=O4) rfl lG (d:=9) (by kernel_rfl) (by kernel_rfl) (by kernel_rfl) (fun(s:List UInt8) hs=>?_) (Ad (by kernel_rfl));have hs:(decide (s.length≤5999)&&(if s.getD 0 0=45 then Ak (s.drop 1)else Ak s))=true:=hs;rw[zd,decide_eq_true_eq]at hs;obtain⟨hl,hs⟩:=hs;have fin:∀D,Ca s=D→∀ob,Af NQ s (.agg [.dat i64 (Cn D),.dat (.nlist u64) (Cm D)]) ob:=by
  rintro D rfl ob;exact zL rfl rfl rfl
 have fin0:Ca s=0→∀ob v,(v=.agg [.dat i64 0,.nil]∨v=.agg [.dat i64 (D6 ((0:Int),[])),.dat (.nlist u64) (D4 ((0:Int),[]))])→Af NQ s v ob:=by
  rintro h ob v (rfl|rfl)
  ·refine zL rfl rfl ?_;show((0:Int),([]:List Int))=(Cn (Ca s),Cm (Ca s));rw[h];rfl
  ·refine zL rfl rfl ?_;show CT ((0:Int),([]:List Int))=(Cn (Ca s),Cm (Ca s));rw[h];rfl
 refine zD (An s) ?_;conv=>zeta
 cases s with
 |nil=>
  refine zn (by decide) (zn (by decide) (zj (A4 ..) (zn (by decide) (zf (fin0 rfl _ _ (.inl rfl))))))
 |cons c r=>
  have ht:(c::r).take 1=[c]:=rfl;have g0:(c::r).getD 0 0=c:=rfl;rw[g0]at hs;have e:(List.drop 1 (c::r)).take (z6 (c::r).length 1)=r:=by show r.take ((r.length+1)-1)=r;rw[yd];exact zA
  have b1:decide (((c::r).length:Int)≥1)=true:=decide_eq_true (by simp;omega);have b2:decide (1≤(c::r).length)=true:=decide_eq_true (by simp);rw[ht,e];refine zc b1 (zc b2 (zc b1 (zc b2 (zl (fun d=>?_) (fun d=>?_)))))
  ·have hc:c=45:=by simpa using d
   rw[if_pos hc]at hs;rw[d];have hr:Ca (c::r)= -Az 0 r:=by unfold Ca;rw[g0,if_pos hc];rfl
   refine zc (by simp) (Am true r (by simp at hl;omega) hs (fin _ (by rw[hr,if_pos rfl])) (fun h0=>fin0 (by rw[hr,h0];rfl)))
  ·have hc:c≠45:=by rintro rfl;exact absurd d (by decide)
   rw[if_neg hc]at hs;rw[d];have hr:Ca (c::r)=Az 0 (c::r):=by unfold Ca;rw[g0,if_neg hc]
   exact Am false (c::r) hl hs (fin _ (by rw[hr,if_neg (by decide)])) (fun h0=>by cases h0)
end T153
end Go.Pe
end
section
namespace Go.Pe
open Sp
open Go.Det
namespace T83
theorem loop{Q:PV→Ob→Prop}(l:List Int)(hl:l.length≤1000000):∀(r:List Int) (i:Nat),l.drop i=r→i≤l.length→Q (.dat i64 (yG r)) []→Ends IU (L1 l ((l.length:Int)) i) Q
 |[],i,h,hi,hq=>by
  refine zj (Au ..) ?_;conv=>zeta
  have:¬i<l.length:=by
   intro h1;have:=List.drop_eq_getElem_cons h1;rw[h]at this;cases this
  have he:i=l.length:=by omega
  subst he;simpa [yG]using hq
 |x::r,i,h,hi,hq=>by
  obtain⟨h1,h2,h3⟩:=drop_cons (d:=0) h;refine zj (Au ..) ?_;conv=>zeta
  rw[J1,if_pos (by simp;omega),J1,if_pos (by simp;omega),J1];simp only[zg,h2];by_cases hx:x=0
  ·subst hx;rw[if_neg (by simp),wr _ (by omega) (by omega)];exact loop l hl r (i+1) h3 h1 (by simpa [yG]using hq)
  ·rw[if_pos (by simpa using hx)];simpa [yG,hx]using hq
theorem ok:Ae AS 83 Lx:=by
 refine Ax (X:=IU) rfl ET (d:=9) (by kernel_rfl) (by kernel_rfl) rfl (fun l hl=>?_) (Ad (by kernel_rfl));refine zD (An l) ?_;conv=>zeta
 exact loop l (by simpa [Lx]using hl) l 0 rfl (zO _) (zL rfl rfl rfl)
end T83
theorem T85.ok:Ae AS 85 Wv:=by
 refine Ax (X:=IU) rfl ET (d:=9) (by kernel_rfl) (by kernel_rfl) rfl (fun⟨c,e⟩ _=>?_) (Ad (by kernel_rfl));refine zD (T85.An c e) ?_;conv=>zeta
 have key:∀x:Int,x=LQ c e→Af Wv (c,e) (.dat i64 x) []:=fun x hx=>zL rfl rfl hx
 simp only[J1,Yo];cases c
 ·exact key _ rfl
 ·exact key _ rfl
theorem kN:∀g sp,KP.sp g=some sp→Ae AS g sp:=
 Aa T83.ok (Aa T85.ok (Aa T149.ok (Aa T150.ok (Aa T151.ok (Aa T152.ok (Aa T153.ok (Aa T154.ok (Aa T105n.ok (fun g sp h=>by cases h)))))))))
theorem G7{s:List UInt8}(h:AQ s=true):s≠[]∧Ak s=true:=by
 unfold AQ at h;rw[zd,zd,decide_eq_true_eq]at h;exact h.1
theorem Kt{s:List UInt8}(h:Ak s=true)(hl:s.length≤5999):DW s=true∧Ca s=Az 0 s:=by
 have h0:s.getD 0 0≠45:=by
  cases s with
  |nil=>decide
  |cons c r=>
   unfold Ak at h;rw[zz,zd]at h;have:=CG h.1;rintro he;have he:c=45:=he;subst he;exact absurd this (by decide)
 unfold DW Ca;rw[if_neg h0,if_neg h0,h,yC];exact⟨decide_eq_true hl,rfl⟩
theorem mI{a b L:Int}(ha:0≤a)(hb:0≤b)(h1:a<L)(h2:b<L):0≤yv a b∧yv a b<L:=by
 rw[Fc];obtain⟨x,rfl⟩:=zM ha;obtain⟨y,rfl⟩:=zM hb;have e:yc (x:Int) (y:Int)=Nat.gcd x y:=rfl;rw[e];refine⟨Int.natCast_nonneg _,?_⟩;rcases zR x with h|h
 ·subst h;rw[Nat.gcd_zero_left];exact h2
 ·have:=Nat.gcd_le_left y h;omega
namespace T77
variable {Q:PV→Ob→Prop}
def E(A B:List UInt8)(br form:Bool):Int:=if form=false then 1 else if 600<A.length∨600<B.length then 4 else if br=true∧yv (Az 0 A) (Az 0 B)≠1 then 1 else 0
theorem ES(A B:List UInt8)(br:Bool)(hA:Ak A=true)(hB:br=true→Ak B=true)(lA:A.length≤600)(lB:B.length≤600)(hq:∀ob,Q (.dat i64 (if br=true∧yv (Az 0 A) (Az 0 B)≠1 then 1 else 0)) ob):Ends KP (L8 A B br) Q:=by
 refine zj (I2 ..) (zl (fun c=>?_) (fun c=>?_))
 ·have hB:=hB c;obtain⟨r1,r2⟩:=Kt hA (by omega);obtain⟨r3,r4⟩:=Kt hB (by omega);have bA:=Bb hA;have bB:=Bb hB;have uA:Az 0 A<(10:Int)^(6000:Nat):=zq bA.2 (AJ (by decide) (by omega));have uB:Az 0 B<(10:Int)^(6000:Nat):=zq bB.2 (AJ (by decide) (by omega));have e1:C1 A=Cn (Az 0 A):=by unfold C1;rw[r2]
  have e2:CX A=Cm (Az 0 A):=by unfold CX;rw[r2]
  have e3:C1 B=Cn (Az 0 B):=by unfold C1;rw[r4]
  have e4:CX B=Cm (Az 0 B):=by unfold CX;rw[r4]
  have g1:LP (Cn (Az 0 A),Cm (Az 0 A)) (Cn (Az 0 B),Cm (Az 0 B))=Cn (yv (Az 0 A) (Az 0 B)):=by
   unfold LP;rw[Ke,Ke]
  have g2:LX (Cn (Az 0 A),Cm (Az 0 A)) (Cn (Az 0 B),Cm (Az 0 B))=Cm (yv (Az 0 A) (Az 0 B)):=by
   unfold LX;rw[Ke,Ke]
  obtain⟨l1,l2⟩:=mI bA.1 bB.1 uA uB;have ec:Xo (Cn (yv (Az 0 A) (Az 0 B)),Cm (yv (Az 0 A) (Az 0 B))) ((1:Int),Dw (1:Int))=BW (yv (Az 0 A) (Az 0 B)) 1:=by
   unfold Xo;rw[Ke,D1,Ed]
  rw[e1,e2,e3,e4,g1,g2,ec];have j1:A8 ((1:Int),Dw (1:Int))=true:=by rw[D1];decide
  refine zc r1 (zc r3 (zc (Ac (E6 (FH bA.1 uA)) (E6 (FH bB.1 uB))) (zc rfl (zc (Ac (E6 (FH l1 l2)) j1) ?_))));refine zj (sJ ..) (zc rfl (zf ?_));generalize yv (Az 0 A) (Az 0 B)=g at*;have:LQ (BW g 1 !=0) 1=if br=true∧g≠1 then 1 else 0:=by
   unfold BW LQ;by_cases h:g=1
   ·subst h;rw[c];rfl
   ·have x3:(if br=true∧g≠1 then(1:Int)else 0)=1:=if_pos ⟨c,h⟩;rw[x3];rcases Int.lt_or_gt_of_ne h with q|q
    ·rw[if_pos q];rfl
    ·rw[if_neg (by omega),if_pos q];rfl
  rw[this];exact hq _
 ·refine zj pA (zc rfl (zf ?_));rw[if_neg (by rw[c];simp)]at hq;exact hq _
theorem Cc(A B:List UInt8)(br form c d:Bool)(hc:c= !form)(hd:d=true↔600<A.length∨600<B.length)(hf:form=true→Ak A=true∧(br=true→Ak B=true))(hq:∀ob,Q (.dat i64 (E A B br form)) ob):Ends KP (L7 A B br (yG [LQ c 1,LQ d 4])) Q:=by
 subst hc;unfold E at hq;cases form with
 |false=>
  refine zj (FN ..) (zc ?_ (zf (hq _)));cases d<;>rfl
 |true=>
  rw[if_neg (by decide)]at hq;cases d with
  |true=>
   rw[if_pos (hd.1 rfl)]at hq;exact zj (FN ..) (zc rfl (zf (hq _)))
  |false=>
   have hn:¬(600<A.length∨600<B.length):=fun h=>by have:=hd.2 h;cases this
   rw[if_neg hn]at hq;obtain⟨f1,f2⟩:=hf rfl;exact zj (FN ..) (zn rfl (ES A B br f1 f2 (by omega) (by omega) hq))
theorem BN(A B:List UInt8)(br form:Bool)(hf:form=true→Ak A=true∧(br=true→Ak B=true))(hq:∀ob,Q (.dat i64 (E A B br form)) ob):Ends KP (L4 A B br form) Q:=by
 refine zj (Dp ..) (zc rfl (zl (fun c=>zc rfl (zc rfl ?_)) (fun c=>zc rfl (zc rfl ?_))))
 ·have c:=of_decide_eq_true c;exact Cc A B br form _ _ rfl ⟨fun _=>.inl (by omega),fun _=>rfl⟩ hf hq
 ·have c:=of_decide_eq_false c;exact Cc A B br form _ _ rfl ⟨fun h=>.inr (by have:=of_decide_eq_true h;omega),fun h=>decide_eq_true (by omega)⟩ hf hq
theorem Cj(A B:List UInt8)(br:Bool)(hq:∀ob,Q (.dat i64 (E A B br false)) ob):Ends KP (L5 A B br) Q:=by
 refine zj (Gk ..) (zc rfl (zl (fun c=>zc rfl (zc rfl ?_)) (fun c=>zc rfl (zc rfl ?_))))
 ·have c:=of_decide_eq_true c;exact Cc A B br false _ _ rfl ⟨fun _=>.inl (by omega),fun _=>rfl⟩ (fun h=>by cases h) hq
 ·have c:=of_decide_eq_false c;exact Cc A B br false _ _ rfl ⟨fun h=>.inr (by have:=of_decide_eq_true h;omega),fun h=>decide_eq_true (by omega)⟩ (fun h=>by cases h) hq
theorem Ep(A B:List UInt8)(br:Bool)(hf:Ak A=true∧(br=true→Ak B=true))(hq:∀ob,Q (.dat i64 (E A B br true)) ob):Ends KP (L6 A B br) Q:=by
 refine zj (Hl ..) (zc rfl (zl (fun c=>zc rfl (zc rfl ?_)) (fun c=>zc rfl (zc rfl ?_))))
 ·have c:=of_decide_eq_true c;exact Cc A B br true _ _ rfl ⟨fun _=>.inl (by omega),fun _=>rfl⟩ (fun _=>hf) hq
 ·have c:=of_decide_eq_false c;exact Cc A B br true _ _ rfl ⟨fun h=>.inr (by have:=of_decide_eq_true h;omega),fun h=>decide_eq_true (by omega)⟩ (fun _=>hf) hq
theorem TN{F:Tr}(A B:List UInt8)(br:Bool)(lB:B.length≤1000000)(hA:Ak A=true)(form:Bool)(hform:form=(!br||(AQ B&&decide (B≠[48])&&decide (B≠[49]))))(hq:∀ob,Q (.dat i64 (E A B br form)) ob)
  (h:(br=true→Ends KP (.ite (decide (B.length≤1000000)) (.ite (AQ B) (.ite (!B==[(48:UInt8)]) (L4 A B br (!B==[(49:UInt8)])) (L5 A B br)) (L5 A B br)) .fail) Q)→(br=false→form=true)→Ends KP F Q):Ends KP F Q:=by
 refine h (fun hb=>zc (decide_eq_true lB) ?_) (fun hb=>by rw[hform,hb];rfl);rw[hb]at hform;refine zl (fun c=>zl (fun d=>?_) (fun d=>?_)) (fun c=>?_)
 ·have d:B≠[48]:=by simpa using d
  have e:form=(!B==[(49:UInt8)]):=by
   rw[hform,c,decide_eq_true d];by_cases h:B=[49]
   ·rw[h];rfl
   ·rw[decide_eq_true h];simp[h]
  rw[←e];exact BN A B br form (fun _=>⟨hA,fun _=>(G7 c).2⟩) hq
 ·have d:B=[48]:=by simpa using d
  have e:form=false:=by rw[hform,decide_eq_false (fun h=>h d)];simp
  rw[e]at hq;exact Cj A B br hq
 ·have e:form=false:=by rw[hform,c];simp
  rw[e]at hq;exact Cj A B br hq
theorem CP(s:List UInt8):(Aw s).length≤s.length∧(zr s).length≤s.length:=by
 unfold Aw zr;cases s.findIdx? (fun x=>x==47)with
 |none=>simp
 |some i=>simp;omega
theorem WL(s:List UInt8):(AU s).length≤s.length:=by
 unfold AU;split
 ·simp
 ·exact zI _
theorem ok:Ae AS 77 Fy:=by
 refine Ax (X:=KP) rfl kN (d:=9) (by kernel_rfl) (by kernel_rfl) (by kernel_rfl) (fun(a:List UInt8) hl=>?_) (Ad (by kernel_rfl));have hl:a.length≤1000000:=of_decide_eq_true hl;have l1:=WL a;obtain⟨l2,l3⟩:=CP (AU a);have hq:∀form,form=FL a→∀ob,Af Fy a (.dat i64 (E (Aw (AU a)) (zr (AU a)) (Bk (AU a)) form)) ob:=by
  rintro form rfl ob;exact zL rfl rfl rfl
 have hfm:FL a=(AQ (Aw (AU a))&&(!yH a||decide (Aw (AU a)≠[48]))&&(!Bk (AU a)||(AQ (zr (AU a))&&decide (zr (AU a)≠[48])&&decide (zr (AU a)≠[49])))):=rfl;refine zD (An a) (zc (Ac (decide_eq_true rfl) (decide_eq_true hl)) (zc (Ac (decide_eq_true rfl) (decide_eq_true (by omega))) (zc (decide_eq_true (by omega)) ?_)));generalize Aw (AU a)=A at*;generalize zr (AU a)=B at*;generalize Bk (AU a)=br at*;refine zl (fun c=>?_) (fun c=>?_)
 ·have hA:=(G7 c).2;refine zl (fun d=>?_) (fun d=>?_)
  ·have ef:FL a=(!br||(AQ B&&decide (B≠[48])&&decide (B≠[49]))):=by rw[hfm,c,d];rfl
   refine TN A B br (by omega) hA (FL a) ef (hq _ rfl) (fun h1 h2=>zj (Au ..) (zl h1 (fun e=>?_)));have h3:=h2 e;exact Ep A B br ⟨hA,fun h=>by rw[e]at h;cases h⟩ (hq true h3.symm)
  ·by_cases hz:A=[48]
   ·have ef:FL a=false:=by rw[hfm,d,decide_eq_false (fun h=>h hz)];simp
    have e8:(!A==[(48:UInt8)])=false:=by rw[hz];rfl
    rw[e8];refine zj (A4 ..) (zl (fun e=>zn rfl (Cj A B br (hq false ef.symm))) (fun e=>BN A B br false (fun h=>by cases h) (hq false ef.symm)))
   ·have e8:(!A==[(48:UInt8)])=true:=by simp[hz]
    have ef:FL a=(!br||(AQ B&&decide (B≠[48])&&decide (B≠[49]))):=by rw[hfm,c,d,decide_eq_true hz];rfl
    rw[e8];refine TN A B br (by omega) hA (FL a) ef (hq _ rfl) (fun h1 h2=>zj (A4 ..) (zl (fun e=>zc rfl (h1 e)) (fun e=>?_)));have h3:=h2 e;exact BN A B br true (fun _=>⟨hA,fun h=>by rw[e]at h;cases h⟩) (hq true h3.symm)
 ·have ef:FL a=false:=by rw[hfm,c];simp
  exact zj (C9 ..) (zl (fun e=>Cj A B br (hq false ef.symm)) (fun e=>Cj A B br (hq false ef.symm)))
end T77
end Go.Pe
end
section
namespace Go.Pe
open Sp
open Go.Det
theorem DM(c:UInt8)(r:List UInt8):Aw (c::r)=if c=47 then[]else c::Aw r:=by
 unfold Aw;rw[yf];by_cases h:c=47
 ·subst h;rfl
 ·rw[if_neg (by simpa using h),if_neg h];cases r.findIdx? (fun x=>x==47)<;>rfl
namespace T89
theorem Am{Q:PV→Ob→Prop}(s:List UInt8)(hl:s.length≤1000000):∀(r:List UInt8) (i:Nat),s.drop i=r→i≤s.length→(∀ob,Q (.dat i64 (((i+(Aw r).length:Nat)):Int)) ob)→Ends IU (L1 s i) Q
 |[],i,h,hi,hq=>by
  have he:i=s.length:=drop_nil h hi;subst he;exact zj (Au ..) (zn (by simp) (zf (hq _)))
 |c::r,i,h,hi,hq=>by
  obtain⟨h1,h2,h3⟩:=drop_cons (d:=0) h;have e3:ze .i64 ((i:Int)+1)=((i+1:Nat):Int):=by rw[wr _ (by omega) (by omega)];omega
  rw[DM]at hq;refine zj (Au ..) (zc (by simp;omega) ?_);rw[zg,h2,e3];refine zc (by simp;omega) (zl (fun d=>?_) (fun d=>?_))
  ·have hc:c=47:=by
    have:(c.toNat:Int)=47:=by simpa using d
    exact zH.1 (by show _=47;omega)
   rw[if_pos hc]at hq;exact zf (hq _)
  ·have hc:c≠47:=by rintro rfl;exact absurd d (by decide)
   rw[if_neg hc]at hq;refine Am s hl r (i+1) h3 h1 (fun ob=>?_);have:=hq ob;rw[yo]at this;rw[show i+1+(Aw r).length=i+((Aw r).length+1)by omega];exact this
theorem ok:Ae AS 89 Lf:=by
 refine Ax (X:=IU) rfl ET (d:=9) (by kernel_rfl) (by kernel_rfl) (by kernel_rfl) (fun(s:List UInt8) hl=>?_) (Ad (by kernel_rfl));have hl:s.length≤1000000:=of_decide_eq_true hl;refine zD (An s) (Am s hl s 0 rfl (zO _) (fun ob=>zL rfl rfl ?_));rw[Nat.zero_add];rfl
end T89
namespace T90
variable {Q:PV→Ob→Prop}
theorem R1{s:List UInt8}{r:List UInt8}{c:UInt8}{i:Nat}(h:s.drop i=c::r):Ak (s.drop i)=(BI c&&Ak (s.drop (i+1))):=by
 obtain⟨_,_,h3⟩:=drop_cons (d:=0) h;rw[h3,h];rfl
theorem Am(s:List UInt8)(hl:s.length≤1000000):∀(r:List UInt8) (i:Nat),s.drop i=r→i≤s.length→(∀ob,Q (.bl (Ak (s.drop i))) ob)→Ends IU (L1 s s i) Q
 |[],i,h,hi,hq=>by
  have he:i=s.length:=drop_nil h hi;rw[h]at hq;subst he;exact zj (Au ..) (zn (by simp) (zf (hq _)))
 |c::r,i,h,hi,hq=>by
  obtain⟨h1,h2,h3⟩:=drop_cons (d:=0) h;have e3:ze .i64 ((i:Int)+1)=((i+1:Nat):Int):=by rw[wr _ (by omega) (by omega)];omega
  rw[R1 h]at hq;refine zj (Au ..) (zc (by simp;omega) ?_);rw[zg,h2,e3];refine zc (by simp;omega) (zl (fun d=>?_) (fun d=>zc (by simp;omega) (zl (fun e=>?_) (fun e=>?_))))
  ·have d:=of_decide_eq_true d;have hn:BI c=false:=by unfold BI;rw[decide_eq_false (by omega)];rfl
   rw[hn]at hq;exact zf (hq _)
  ·have e:=of_decide_eq_true e;have hn:BI c=false:=by unfold BI;rw[decide_eq_false (p:=c.toNat≤57) (by omega),Bool.and_false]
   rw[hn]at hq;exact zf (hq _)
  ·have d:=of_decide_eq_false d;have e:=of_decide_eq_false e;have hn:BI c=true:=by unfold BI;exact Ac (decide_eq_true (by omega)) (decide_eq_true (by omega))
   rw[hn,zS]at hq;exact Am s hl r (i+1) h3 h1 hq
theorem AZ(s:List UInt8)(hl:s.length≤1000000):∀(r:List UInt8) (i:Nat),s.drop i=r→i≤s.length→(∀ob,Q (.bl (Ak (s.drop i))) ob)→Ends IU (L2 s s i) Q
 |[],i,h,hi,hq=>by
  have he:i=s.length:=drop_nil h hi;rw[h]at hq;subst he;exact zj (A4 ..) (zn (by simp) (zf (hq _)))
 |c::r,i,h,hi,hq=>by
  obtain⟨h1,h2,h3⟩:=drop_cons (d:=0) h;have e3:ze .i64 ((i:Int)+1)=((i+1:Nat):Int):=by rw[wr _ (by omega) (by omega)];omega
  rw[R1 h]at hq;refine zj (A4 ..) (zc (by simp;omega) ?_);rw[zg,h2,e3];refine zc (by simp;omega) (zl (fun d=>?_) (fun d=>zc (by simp;omega) (zl (fun e=>?_) (fun e=>?_))))
  ·have d:=of_decide_eq_true d;have hn:BI c=false:=by unfold BI;rw[decide_eq_false (by omega)];rfl
   rw[hn]at hq;exact zf (hq _)
  ·have e:=of_decide_eq_true e;have hn:BI c=false:=by unfold BI;rw[decide_eq_false (p:=c.toNat≤57) (by omega),Bool.and_false]
   rw[hn]at hq;exact zf (hq _)
  ·have d:=of_decide_eq_false d;have e:=of_decide_eq_false e;have hn:BI c=true:=by unfold BI;exact Ac (decide_eq_true (by omega)) (decide_eq_true (by omega))
   rw[hn,zS]at hq;exact AZ s hl r (i+1) h3 h1 hq
theorem ok:Ae AS 90 Lc:=by
 refine Ax (X:=IU) rfl ET (d:=9) (by kernel_rfl) (by kernel_rfl) (by kernel_rfl) (fun(s:List UInt8) hl=>?_) (Ad (by kernel_rfl));have hl:s.length≤1000000:=of_decide_eq_true hl;have hq:∀b ob,b=AQ s→Af Lc s (.bl b) ob:=fun b ob hb=>zL rfl rfl hb
 refine zD (An s) ?_;conv=>zeta
 cases s with
 |nil=>exact zc rfl (zf (hq _ _ rfl))
 |cons c r=>
  have g0:(c::r).getD 0 0=c:=rfl;rw[g0];refine zn (by simp;omega) (zl (fun d=>zc (by simp) (zl (fun e=>zf (hq _ _ ?_)) (fun e=>?_))) (fun d=>?_))
  ·have d:=of_decide_eq_true d;have hc:c=48:=by
    have:(c.toNat:Int)=48:=by simpa using e
    exact zH.1 (by show _=48;omega)
   have hr:r≠[]:=by rintro rfl;simp at d
   unfold AQ;rw[g0,decide_eq_false (p:=c≠48) (fun h=>h hc),decide_eq_false (p:=c::r=[48]) (by intro h;simp at h;exact hr h.2)];simp
  ·have hc:c≠48:=by rintro rfl;exact absurd e (by decide)
   refine Am (c::r) hl (c::r) 0 rfl (zO _) (fun ob=>hq _ _ ?_);unfold AQ;rw[g0,decide_eq_true hc];simp
  ·have d:=of_decide_eq_false d;have hr:r=[]:=by
    have:r.length=0:=by simp at d;omega
    exact zE.1 this
   subst hr;refine AZ [c] hl [c] 0 rfl (zO _) (fun ob=>hq _ _ ?_);unfold AQ;rw[g0];by_cases hc:c=48
   ·subst hc;rfl
   ·rw[decide_eq_true hc];simp
end T90
theorem lT:∀g sp,jZ.sp g=some sp→Ae AS g sp:=Aa T168.ok (fun g sp h=>by cases h)
namespace T107
variable {Q:PV→Ob→Prop}
theorem Oz{v:Int}(hv: -9223372036854775808≤v∧v<9223372036854775808):∃q d:Nat,Ag v=d+1000000000*q∧d<1000000000∧ze .i64 (Int.tdiv v 1000000000)=(if v<0 then -(q:Int)else q)∧Int.tmod v 1000000000=(if v<0 then -(d:Int)else d):=by
 refine⟨v.natAbs/1000000000,v.natAbs % 1000000000,by rw[Ai];omega,by omega,?_,?_⟩
 ·by_cases h:v<0
  ·have:=Int.neg_tdiv (-v) 1000000000;rw[Int.neg_neg]at this;rw[this,yg (by omega),if_pos h,wr _ (by omega) (by omega)];omega
  ·rw[yg (by omega),if_neg h,wr _ (by omega) (by omega)];omega
 ·by_cases h:v<0
  ·have:=Int.neg_tmod (-v) 1000000000;rw[Int.neg_neg]at this;rw[this,yh (by omega),if_pos h];omega
  ·rw[yh (by omega),if_neg h];omega
theorem AZ(neg:Bool)(D:Int)(hq:∀(w:List Int) ob,At zt w→zP zt w=D→Q (.agg [.dat .bool (B5 neg w),.dat li (Ar w)]) ob):∀(f:Nat) (v:Int) (o1:List Int),Ag v<f→(-9223372036854775808≤v∧v<9223372036854775808)→o1.length≤100→(Ag v≠0→Ag v*1000000000^o1.length≤9223372036854775808)→At zt o1→zP zt o1+(zt:Int)^o1.length*Ag v=D→Ends jZ (L2 v o1.length neg o1) Q
 |0,v,o1,hf,hv,ho,hb,hd,he=>by
  have:=AE v;omega
 |f+1,v,o1,hf,hv,ho,hb,hd,he=>by
  obtain⟨q,d,s1,s2,s3,s4⟩:=Oz hv;by_cases h0:v=0
  ·subst h0;have e0:Ag 0=0:=rfl;rw[e0,Int.mul_zero,Int.add_zero]at he;refine zj (A4 ..) (zn rfl ?_);rw[zA];exact zc (by simp;omega) (zf (hq _ _ hd he))
  ·have hne:Ag v≠0:=by rw[Ai];omega
   have hbb:=hb hne;have ho10:o1.length≤10:=by
    rcases Nat.lt_or_ge 10 o1.length with g|g
    ·exfalso;have x1:(1000000000:Int)^11≤1000000000^o1.length:=AJ (by decide) g;have x2:(9223372036854775808:Int)<1000000000^11:=by decide
     have x3:=zB (show 1≤Ag v by have:=AE v;omega) (show(0:Int)≤1000000000^o1.length by omega);omega
    ·exact g
   have eq:Ag (if v<0 then -(q:Int)else q)=q:=by rw[Ai];split<;>omega
   have go:Ends jZ (L2 (if v<0 then -(q:Int)else q) (yq o1.length 1) neg (o1++[(d:Int)])) Q:=by
    have:=AZ neg D hq f (if v<0 then -(q:Int)else q) (o1++[(d:Int)]) (by rw[eq];omega) (by have:=Ai v;split<;>omega) (by simp;omega) (fun _=>by
     rw[eq,zk];show(q:Int)*1000000000^(o1.length+1)≤_;rw[zQ, ←Int.mul_assoc,Int.mul_right_comm];have x1:=zB (show(q:Int)*1000000000≤Ag v by omega) (show(0:Int)≤1000000000^o1.length from zw (AM (by decide) _));omega) (EN hd (by omega)) (by
     rw[eq,B6,zk];show zP zt o1+(zt:Int)^o1.length*(d:Int)+(zt:Int)^(o1.length+1)*(q:Int)=D;rw[I5,yD, ←Int.mul_add, ←he,s1])
    rw[zk]at this;exact this
   refine zj (A4 ..) (zc (by simpa using h0) (zc rfl ?_));rw[s3,s4];refine zl (fun c=>zc (by simp;omega) (zc rfl ?_)) (fun c=>zc (by simp;omega) (zc rfl ?_))
   ·have c:=of_decide_eq_true c;have hn:v<0:=by split at c<;>omega
    rw[if_pos hn]at c;rw[if_pos hn,if_pos hn];rw[if_pos hn]at go;have e5:ze .i64 (0 - -(d:Int))=(d:Int):=by rw[wr _ (by omega) (by omega)];omega
    rw[e5];exact go
   ·have c:=of_decide_eq_false c;have e5:(if v<0 then -(d:Int)else(d:Int))=(d:Int):=by split at c<;>split<;>omega
    rw[e5];exact go
theorem ok:Ae AS 107 JR:=by
 refine Ax (X:=jZ) rfl lT (d:=9) (by kernel_rfl) (by kernel_rfl) (by kernel_rfl) (fun(v:Int) hv=>?_) (Ad (by kernel_rfl));have hv:=El (n:=v) hv;have fin:∀(w:List Int) ob,At zt w→zP zt w=Ag v→Af JR v (.agg [.dat .bool (B5 (decide (v<0)) w),.dat li (Ar w)]) ob:=by
  intro w ob hd hw;refine zL rfl rfl ?_;have:=Lv (neg:=decide (v<0)) hd hw;have e:(if decide (v<0)=true then -Ag v else Ag v)=v:=by
   rw[Ai];by_cases h:v<0
   ·rw[if_pos (decide_eq_true h)];omega
   ·rw[if_neg (by simpa using h)];omega
  rw[e]at this;exact this
 obtain⟨q,d,s1,s2,s3,s4⟩:=Oz hv;have hn:=AE v;refine zD (An v) ?_;conv=>zeta
 by_cases h0:v=0
 ·subst h0;exact zj (Au ..) (zn rfl (zc rfl (zf (fin [] _ (fun x hx=>by cases hx) rfl))))
 ·have eq:Ag (if v<0 then -(q:Int)else q)=q:=by rw[Ai];split<;>omega
  have go:Ends jZ (L2 (if v<0 then -(q:Int)else q) 1 (decide (v<0)) [(d:Int)]) (Af JR v):=by
   refine AZ (decide (v<0)) (Ag v) fin (q+1) _ [(d:Int)] (by rw[eq];omega) (by have:=Ai v;split<;>omega) (by simp) (fun _=>?_) (fun x hx=>by rw[yi]at hx;subst hx;show 0≤_∧_<(1000000000:Int);omega) ?_
   ·rw[eq];show(q:Int)*1000000000^1≤_;have:=Ai v;omega
   ·rw[eq,DQ,s1];show(d:Int)+(1000000000:Int)^1*(q:Int)=_;omega
  refine zj (Au ..) (zc (by simpa using h0) (zc rfl ?_));rw[s3,s4];refine zl (fun c=>zc rfl (zc rfl ?_)) (fun c=>zc rfl (zc rfl ?_))
  ·have c:=of_decide_eq_true c;have hn:v<0:=by split at c<;>omega
   rw[if_pos hn]at c;rw[if_pos hn,if_pos hn];rw[if_pos hn]at go;have e5:ze .i64 (0 - -(d:Int))=(d:Int):=by rw[wr _ (by omega) (by omega)];omega
   rw[e5];exact go
  ·have c:=of_decide_eq_false c;have e5:(if v<0 then -(d:Int)else(d:Int))=(d:Int):=by split at c<;>split<;>omega
   rw[e5];exact go
end T107
theorem gB:∀g sp,uW.sp g=some sp→Ae AS g sp:=Aa T89.ok (Aa T163.ok (Aa T107.ok (fun g sp h=>by cases h)))
theorem BF:∀(s:List UInt8),Aw s=s.take (Aw s).length∧(Bk s=true→(Aw s).length<s.length∧zr s=s.drop ((Aw s).length+1))∧(Bk s=false→Aw s=s∧zr s=[])
 |[]=>⟨rfl,(fun h=>(by cases h)),fun _=>⟨rfl,rfl⟩⟩
 |c::r=>by
  obtain⟨h1,h2,h3⟩:=BF r;have hB:zr (c::r)=if c=47 then r else zr r:=by
   unfold zr;rw[yf];by_cases h:c=47
   ·subst h;rfl
   ·rw[if_neg (by simpa using h),if_neg h];cases r.findIdx? (fun x=>x==47)<;>rfl
  have hC:Bk (c::r)=(decide (c=47)||Bk r):=by
   unfold Bk;rw[List.any_cons];congr 1
  rw[DM,hB,hC];by_cases h:c=47
  ·rw[if_pos h,if_pos h,decide_eq_true h];exact⟨rfl,(fun _=>⟨by simp,rfl⟩),fun h=>by cases h⟩
  ·rw[if_neg h,if_neg h,decide_eq_false h];refine⟨?_,fun g=>?_,fun g=>?_⟩
   ·rw[yo,List.take_succ_cons, ←h1]
   ·obtain⟨k1,k2⟩:=h2 g;refine⟨by simp;omega,?_⟩;rw[yo,List.drop_succ_cons];exact k2
   ·obtain⟨k1,k2⟩:=h3 g;exact⟨by rw[k1],k2⟩
theorem T91.ok:Ae AS 91 Rd:=by
 refine Ax (X:=uW) rfl gB (d:=9) (by kernel_rfl) (by kernel_rfl) (by kernel_rfl) (fun(a:List UInt8) ha=>?_) (Ad (by kernel_rfl));have ha:(DW (Aw a)&&DW (zr a)&&decide (a.length≤5999))=true:=ha;rw[zd,zd,decide_eq_true_eq]at ha;obtain⟨⟨ra,rb⟩,hl⟩:=ha;obtain⟨c1,c2,c3⟩:=BF a;have es:AV a=((Aw a).length:Int):=rfl;have hle:(Aw a).length≤a.length:=(T77.CP a).1;refine zD (T91.An a) (zc (decide_eq_true (by omega)) (zl (fun c=>?_) (fun c=>?_)))
 ·have c:(Aw a).length=a.length:=by
   have:((Aw a).length:Int)=(a.length:Int):=by simpa [es]using c
   omega
  have hc:Bk a=false:=by
   cases h:Bk a with
   |false=>rfl
   |true=>have:=(c2 h).1;omega
  obtain⟨k1,k2⟩:=c3 hc;rw[k1]at ra;refine zc ra (zc rfl (zf (zL rfl rfl ?_)));show((EL a,EI a),(false,Sp.rW 1))=((Bw a,Bo a),(Bg a,Be a));unfold Bw Bo Bg Be A5 AF EL EI;rw[k1,hc];rfl
 ·have hlt:(Aw a).length<a.length:=by
   have:((Aw a).length:Int)≠(a.length:Int):=by simpa [es]using c
   omega
  have hc:Bk a=true:=by
   cases h:Bk a with
   |true=>rfl
   |false=>have:=(c3 h).1;rw[this]at hlt;omega
  obtain⟨k1,k2⟩:=c2 hc;have e1:ze .i64 (((Aw a).length:Int)+1)=(((Aw a).length+1:Nat):Int):=by rw[wr _ (by omega) (by omega)];omega
  have e2:(a.drop ((Aw a).length+1)).take (z6 a.length ((Aw a).length+1))=a.drop ((Aw a).length+1):=zm (by rw[zi];exact zI _);rw[es,e1,zg,zg,e2, ←c1, ←k2];refine zc (by simp;omega) (zc (by simp;omega) (zc ra (zc rb (zf (zL rfl rfl ?_)))));show((EL (Aw a),EI (Aw a)),(EL (zr a),EI (zr a)))=((Bw a,Bo a),(Bg a,Be a));unfold Bw Bo Bg Be A5 AF EL EI;rw[hc];rfl
theorem jY:∀g sp,RV.sp g=some sp→Ae AS g sp:=Aa T89.ok (Aa T90.ok (Aa T91.ok (Aa T92.ok (fun g sp h=>by cases h))))
namespace T24
variable {Q:PV→Ob→Prop}
theorem jK{g:Int}(h0:0≤g):BM g=[1]↔g=1:=by
 constructor
 ·intro h;have:=CD (b:=zt) (by decide) h0;have h:Sp.dg zt g=[1]:=h;rw[h]at this;rw[←this];rfl
 ·rintro rfl;rfl
theorem BN(s:List UInt8)(hA:Ak (Aw s)=true)(hB:Bk s=true→Ak (zr s)=true)(lA:(Aw s).length≤600)(lB:(zr s).length≤600)(hl:s.length≤5999)
  (hq:∀ob,Q (.dat i64 (if Bk s=true∧yv (Az 0 (Aw s)) (Az 0 (zr s))≠1 then 1 else 0)) ob):Ends RV (L4 s (AV s)) Q:=by
 obtain⟨c1,c2,c3⟩:=BF s;have es:AV s=((Aw s).length:Int):=rfl;refine zj (Dp ..) ?_;conv=>zeta
 rw[es];refine zl (fun c=>?_) (fun c=>?_)
 ·have c:=of_decide_eq_true c;have hc:Bk s=true:=by
   cases h:Bk s with
   |true=>rfl
   |false=>have:=(c3 h).1;rw[this]at c;omega
  have hB:=hB hc;obtain⟨r1,r2⟩:=Kt hA (by omega);obtain⟨r3,r4⟩:=Kt hB (by omega);have bA:=Bb hA;have bB:=Bb hB;have tR:∀k:Nat,(10:Int)^k≤(zt:Int)^k:=by
   intro k;induction k with
   |zero=>exact yx _
   |succ k ih=>
    rw[zQ,zQ];have h1:=zB ih (show(0:Int)≤10 by decide);have h2:=zp (show(10:Int)≤(zt:Int)by decide) (zw (AM (b:=zt) (by decide) k));exact yb h1 h2
  have uA:Az 0 (Aw s)<(zt:Int)^600:=zq bA.2 (yb (tR _) (AJ (by decide) lA));have uB:Az 0 (zr s)<(zt:Int)^600:=zq bB.2 (yb (tR _) (AJ (by decide) lB));have e1:Bo s=BM (Az 0 (Aw s)):=by
   unfold Bo A5 Sp.rW;rw[r2,show Ag (Az 0 (Aw s))=Az 0 (Aw s)by rw[Ai];omega]
  have e2:Be s=BM (Az 0 (zr s)):=by
   unfold Be AF Sp.rW;rw[if_pos hc,r4,show Ag (Az 0 (zr s))=Az 0 (zr s)by rw[Ai];omega]
  obtain⟨n1,_,v1,l1⟩:=Gj (k:=600) bA.1 uA (by decide);obtain⟨n2,_,v2,l2⟩:=Gj (k:=600) bB.1 uB (by decide);have rat:EW s=true:=by
   unfold EW;rw[r1,r3];exact decide_eq_true hl
  rw[e1,e2];refine zc rat (zj (Gk ..) (zc (Ac (Ac (Ac n1 n2) (decide_eq_true (by omega))) (decide_eq_true (by omega))) ?_));have ec:Cb (BM (Az 0 (Aw s))) (BM (Az 0 (zr s)))=BM (yv (Az 0 (Aw s)) (Az 0 (zr s))):=by
   unfold Cb;rw[v1,v2]
  rw[ec];obtain⟨g0,_⟩:=mI bA.1 bB.1 uA uB;generalize yv (Az 0 (Aw s)) (Az 0 (zr s))=g at*;have h1:=jK g0;by_cases h:g=1
  ·rw[if_neg (fun x=>x.2 h)]at hq;rw[h1.2 h];exact zj (Hl ..) (zn rfl (zc rfl (zn rfl (zf (hq _)))))
  ·rw[if_pos ⟨hc,h⟩]at hq;have hne:BM g≠[1]:=fun x=>h (h1.1 x)
   refine zj (Hl ..) (zl (fun d=>zf (hq _)) (fun d=>?_));have d:(BM g).length=1:=by
    have:((BM g).length:Int)=1:=by simpa using d
    omega
   obtain⟨x,hx⟩:=List.length_eq_one_iff.1 d;rw[hx]at hne ⊢;have hx1:x≠1:=fun e=>hne (by rw[e])
   exact zc rfl (zc (by simpa using hx1) (zf (hq _)))
 ·have c:=of_decide_eq_false c;have hc:Bk s=false:=by
   cases h:Bk s with
   |false=>rfl
   |true=>have:=(c2 h).1;omega
  rw[if_neg (fun x=>by rw[hc]at x;cases x.1)]at hq;exact zf (hq _)
theorem AZ(s:List UInt8)(hA:Ak (Aw s)=true)(hl:s.length≤1000000)(hq:∀ob,Q (.dat i64 (T77.E (Aw s) (zr s) (Bk s) (!Bk s||(AQ (zr s)&&decide (zr s≠[48])&&decide (zr s≠[49]))))) ob):Ends RV (L2 s (AV s)) Q:=by
 obtain⟨c1,c2,c3⟩:=BF s;have es:AV s=((Aw s).length:Int):=rfl;have hle:=T77.CP s;have rU:(Bk s=true→Ak (zr s)=true)→(∀ob,Q (.dat i64 (T77.E (Aw s) (zr s) (Bk s) true)) ob)→Ends RV (L3 s (AV s)) Q:=by
  intro hB hq;unfold T77.E at hq;rw[if_neg (by decide)]at hq;have hlen:s.length=(Aw s).length+(if Bk s=true then 1+(zr s).length else 0):=by
   cases h:Bk s with
   |true=>obtain⟨k1,k2⟩:=c2 h;rw[if_pos rfl,k2,zi];omega
   |false=>obtain⟨k1,k2⟩:=c3 h;rw[if_neg (by decide),k1];rfl
  have hB0:Bk s=false→(zr s).length=0:=fun h=>by rw[(c3 h).2];rfl
  refine zj (C9 ..) ?_;conv=>zeta
  rw[es,wr ((s.length:Int)-((Aw s).length:Int)) (by omega) (by omega),wr _ (by omega) (by omega)];refine zl (fun c=>?_) (fun c=>zl (fun d=>?_) (fun d=>?_))
  ·have c:=of_decide_eq_true c;rw[if_pos (.inl (by omega))]at hq;exact zf (hq _)
  ·have c:=of_decide_eq_false c;have d:=of_decide_eq_true d;have:600<(zr s).length:=by split at hlen<;>omega
   rw[if_pos (.inr this)]at hq;exact zf (hq _)
  ·have c:=of_decide_eq_false c;have d:=of_decide_eq_false d;have hb:(zr s).length≤600:=by
    cases h:Bk s with
    |true=>rw[h,if_pos rfl]at hlen;omega
    |false=>have:=hB0 h;omega
   rw[if_neg (by omega)]at hq;exact BN s hA hB (by omega) hb (by split at hlen<;>omega) hq
 refine zj (A4 ..) ?_;conv=>zeta
 cases hc:Bk s with
 |false=>
  rw[hc]at hq;have hn:¬(AV s<(s.length:Int)):=by rw[es,(c3 hc).1];omega
  exact zn (decide_eq_false hn) (rU (fun h=>by rw[hc]at h;cases h) (by rw[hc];exact hq))
 |true=>
  rw[hc]at hq;obtain⟨k1,k2⟩:=c2 hc;have e1:ze .i64 (((Aw s).length:Int)+1)=(((Aw s).length+1:Nat):Int):=by rw[wr _ (by omega) (by omega)];omega
  have e2:(s.drop ((Aw s).length+1)).take (z6 s.length ((Aw s).length+1))=s.drop ((Aw s).length+1):=zm (by rw[zi];exact zI _);rw[es,e1,zg,e2, ←k2];rw[es]at rU;have bad:(!true||(AQ (zr s)&&decide (zr s≠[48])&&decide (zr s≠[49])))=false→∀ob,Q (.dat i64 1) ob:=by
   intro h ob;have:=hq ob;rw[h]at this;exact this
  refine zc (by simp;omega) (zc (by simp;omega) (zc (decide_eq_true (by omega)) (zl (fun d=>zf (bad ?_ _)) (fun d=>zc (by simp;omega) (zl (fun e=>zf (bad ?_ _)) (fun e=>zc (by simp;omega) (zl (fun f=>zf (bad ?_ _)) (fun f=>?_))))))))
  ·have d:AQ (zr s)=false:=by simpa using d
   rw[d];rfl
  ·have e:zr s=[48]:=by simpa using e
   rw[decide_eq_false (p:=zr s≠[48]) (fun h=>h e)];simp
  ·have f:zr s=[49]:=by simpa using f
   rw[decide_eq_false (p:=zr s≠[49]) (fun h=>h f)];simp
  ·have d:AQ (zr s)=true:=by simpa using d
   have e:zr s≠[48]:=by simpa using e
   have f:zr s≠[49]:=by simpa using f
   rw[d,decide_eq_true e,decide_eq_true f]at hq;exact rU (fun _=>(G7 d).2) (by rw[hc];exact hq)
theorem Am(a s:List UInt8)(hs:s=AU a)(hl:a.length≤1000000)(hq:∀ob,Q (.dat i64 (A1 a)) ob):Ends RV (L1 a s) Q:=by
 obtain⟨c1,c2,c3⟩:=BF s;have es:AV s=((Aw s).length:Int):=rfl;have hsl:s.length≤a.length:=by rw[hs];exact T77.WL a
 have hle:=T77.CP s;have hE:A1 a=T77.E (Aw s) (zr s) (Bk s) (AQ (Aw s)&&(!yH a||decide (Aw s≠[48]))&&(!Bk s||(AQ (zr s)&&decide (zr s≠[48])&&decide (zr s≠[49])))):=by rw[hs];rfl
 rw[hE]at hq;have tk:s.take (Aw s).length=Aw s:=c1.symm;refine zj (Au ..) ?_;conv=>zeta
 rw[show AV s=((Aw s).length:Int)from rfl,zg,tk];refine zc (decide_eq_true (by omega)) (zc (by simp;omega) (zc (decide_eq_true (by omega)) (zl (fun d=>?_) (fun d=>?_))))
 ·have d:AQ (Aw s)=false:=by simpa using d
  rw[d]at hq;exact zf (hq _)
 ·have d:AQ (Aw s)=true:=by simpa using d
  have hA:=(G7 d).2;have hne:a.length≠0:=by
   intro h;have h:=zE.1 h;have:s=[]:=by rw[hs,h];rfl
   rw[this]at d;exact absurd d (by decide)
  rw[d,zS]at hq;refine zc (decide_eq_true (by omega)) (zl (fun e=>zc (by simp;omega) (zl (fun f=>?_) (fun f=>?_))) (fun e=>?_))
  ·have hp:yH a=true:=by
    unfold yH;refine decide_eq_true (zH.1 ?_);have:((a.getD 0 0).toNat:Int)=45:=by simpa using e
    show _=45;omega
   have f:Aw s=[48]:=by simpa using f
   rw[hp,decide_eq_false (p:=Aw s≠[48]) (fun h=>h f)]at hq;exact zf (hq _)
  ·have f:Aw s≠[48]:=by simpa using f
   rw[decide_eq_true f,Bool.or_true,zS]at hq;exact AZ s hA (by omega) hq
  ·have hp:yH a=false:=by
    unfold yH;refine decide_eq_false (fun h=>?_);rw[h]at e;exact absurd e (by decide)
   rw[hp,Bool.not_false,Bool.true_or,zS]at hq;exact AZ s hA (by omega) hq
theorem ok:Ae AS 24 Fy:=by
 refine Ax (X:=RV) rfl jY (d:=9) (by kernel_rfl) (by kernel_rfl) (by kernel_rfl) (fun(a:List UInt8) hl=>?_) (Ad (by kernel_rfl));have hl:a.length≤1000000:=of_decide_eq_true hl;have hq:∀ob,Af Fy a (.dat i64 (A1 a)) ob:=fun ob=>zL rfl rfl rfl
 refine zD (An a) ?_;conv=>zeta
 cases a with
 |nil=>exact zn rfl (Am [] [] rfl hl hq)
 |cons c r=>
  have g0:(c::r).getD 0 0=c:=rfl;rw[g0];refine zc (by simp) (zc (by simp) (zl (fun d=>zc (by simp) ?_) (fun d=>?_)))
  ·have hc:c=45:=by
    have:(c.toNat:Int)=45:=by simpa using d
    exact zH.1 (by show _=45;omega)
   have e:(List.drop 1 (c::r)).take (z6 (c::r).length 1)=r:=by show r.take ((r.length+1)-1)=r;rw[yd];exact zA
   rw[e];exact Am (c::r) r (by unfold AU;rw[g0,if_pos hc];rfl) hl hq
  ·have hc:c≠45:=by rintro rfl;exact absurd d (by decide)
   exact Am (c::r) (c::r) (by unfold AU;rw[g0,if_neg hc]) hl hq
end T24
end Go.Pe
end
section
namespace Go.Pe
open Sp
open Go.Det
theorem FC:∀g sp,RW.sp g=some sp→Ae AS g sp:=
 Aa T173.ok (Aa T174.ok (Aa T176.ok (Aa T152.ok (Aa T105n.ok (Aa T158.ok (Aa T159.ok (Aa T154.ok (Aa T150.ok (Aa T153.ok (fun g sp h=>by cases h))))))))))
theorem Ej{a:AR}(h:Mm a=true):A8 a=true∧Ag (zh a)<(Aj:Int)^4000:=by
 unfold Mm at h;rw[zd,decide_eq_true_eq]at h;refine⟨?_,HI h.1 h.2 (by decide)⟩;unfold A8;exact Ac h.1 (decide_eq_true (by omega))
theorem KM{x y:Int}(hx:Ag x<(Aj:Int)^4000)(hy:Ag y<(Aj:Int)^4000):Ag (x*y)<(Aj:Int)^8000:=by
 rw[Ip];have h0:=AE x;have hp:=AM (b:=Aj) (by decide) 4000;have a1:=zp (zw hy) h0;have a2:=Int.mul_lt_mul_of_pos_right hx hp;have a3:(Aj:Int)^4000*(Aj:Int)^4000=(Aj:Int)^8000:=(Int.pow_add _ 4000 4000).symm;rw[a3]at a2;exact zx a1 a2
theorem wE{x:Int}(h:x<(Aj:Int)^8000):x<(Aj:Int)^9000:=zq h (AJ (by decide) (by decide))
theorem Qn{x y:Int}(hx:Ag x<(Aj:Int)^4000)(hy:Ag y<(Aj:Int)^4000):A8 (CF (x*y))=true:=Dx (wE (KM hx hy))
theorem uD{a b:AR}(ha:A8 a=true)(hb:A8 b=true)(h:Ag (zh a+zh b)<(Aj:Int)^9000):A8 (D9 a b)=true:=by
 have h1:=QZ ha hb;unfold D9 at h1 ⊢;split
 ·rename_i c;rw[if_pos c]at h1;unfold A8;exact Ac h1 rfl
 ·exact Dx h
theorem fX(n:Nat):(2:Int)*(Aj:Int)^n≤(Aj:Int)^(n+1):=by
 rw[zQ,ya];exact zp (by decide) (zw (AM (b:=Aj) (by decide) n))
theorem dX{x y:Int}(hx:Ag x<(Aj:Int)^8000)(hy:Ag y<(Aj:Int)^8000):Ag (x+y)<(Aj:Int)^9000:=by
 have h2:=fX 8000;have h3:(Aj:Int)^8001≤(Aj:Int)^9000:=AJ (by decide) (by decide);have h2:(2:Int)*(Aj:Int)^8000≤(Aj:Int)^8001:=h2;generalize (Aj:Int)^8000=p at*;generalize (Aj:Int)^8001=q at*;generalize (Aj:Int)^9000=r at*;rw[Ai]at*;omega
theorem R8(a:AR):decide (Hf a<0)=decide (zh a<0):=by
 unfold Hf RX;rw[Bool.eq_iff_iff,decide_eq_true_eq,decide_eq_true_eq];split
 ·omega
 ·split<;>omega
theorem WY{n d:AR}(h:K4 n d=true):A8 n=true∧A8 d=true∧zh d≠0:=by
 unfold K4 at h;rw[zd,zd,decide_eq_true_eq]at h;exact⟨h.1.1,h.1.2,h.2⟩
theorem T87.ok:Ae AS 87 nH:=by
 refine Ax (X:=RW) rfl FC (d:=9) (by kernel_rfl) (by kernel_rfl) (by kernel_rfl) (fun(a:List UInt8) ha=>?_) (Ad (by kernel_rfl));have ha:(DW (Aw a)&&DW (zr a)&&decide (a.length≤5999))=true:=ha;rw[zd,zd,decide_eq_true_eq]at ha;obtain⟨⟨ra,rb⟩,hl⟩:=ha;refine zD (T87.An a) (zc (Ac (decide_eq_true rfl) (decide_eq_true (by omega))) (zl (fun c=>zc ra (zc rfl (zf (zL rfl rfl ?_)))) (fun c=>zc ra (zc rb (zf (zL rfl rfl ?_))))))
 ·have c:Bk a=false:=by simpa using c
  show((C1 (Aw a),CX (Aw a)),((1:Int),Dw 1))=((Jy a,Jf a),(IY a,IX a));unfold IY IX AF;rw[c,MH];rfl
 ·have c:Bk a=true:=by simpa using c
  show((C1 (Aw a),CX (Aw a)),(C1 (zr a),CX (zr a)))=((Jy a,Jf a),(IY a,IX a));unfold IY IX AF;rw[c];rfl
theorem T175.ok:Ae AS 175 wR:=by
 refine Ax (X:=RW) rfl FC (d:=9) (by kernel_rfl) (by kernel_rfl) (by kernel_rfl) (fun(i:(Int×List Int)×(Int×List Int)) hi=>?_) (Ad (by kernel_rfl));obtain⟨a,b⟩:=i;obtain⟨ha,hb,h0⟩:=WY (n:=a) (d:=b) hi;refine zD (T175.An a b) (zc (B0 hb).1 ?_);rw[R8];refine zl (fun c=>zc (B0 ha).1 (zc (B0 hb).1 (zj (T175.Au ..) (zc ?_ (zf (zL rfl rfl ?_)))))) (fun c=>zj (T175.Au ..) (zc ?_ (zf (zL rfl rfl ?_))))
 ·have c:zh b<0:=of_decide_eq_true c;have:=HW b;exact Ac (Ac (S8 ha) (S8 hb)) (decide_eq_true (by show 0<zh (CT b);omega))
 ·have c:zh b<0:=of_decide_eq_true c;show GN (CT a) (CT b)=Sp.iQ a b;unfold Sp.iQ;rw[if_pos c]
 ·have c:¬zh b<0:=of_decide_eq_false c;exact Ac (Ac ha hb) (decide_eq_true (by show 0<zh b;omega))
 ·have c:¬zh b<0:=of_decide_eq_false c;show GN a b=Sp.iQ a b;unfold Sp.iQ;rw[if_neg c]
theorem fS:∀g sp,mW.sp g=some sp→Ae AS g sp:=Aa T173.ok (Aa T174.ok (Aa T152.ok (Aa T175.ok (fun g sp h=>by cases h))))
theorem mA{n d:AR}(hd:A8 d=true)(h0:zh d≠0):A8 (Sp.gR n d)=true∧zh (Sp.gR n d)=(yc (zh n) (zh d):Int)∧0<zh (Sp.gR n d):=by
 have e:zh (Sp.gR n d)=(yc (zh n) (zh d):Int):=by
  show zh (Cn _,Cm _)=_;rw[Ke,Fc]
 have hp:0<yc (zh n) (zh d):=Int.gcd_pos_of_ne_zero_right _ h0;refine⟨E6 (Dx ?_),e,by rw[e];omega⟩;rw[Fc,Ai,yj];have hb:=bounds hd;rw[Ai]at hb;have hle:yc (zh n) (zh d)≤(zh d).natAbs:=Nat.gcd_le_right _ (by omega);omega
namespace T104
variable {Q:PV→Ob→Prop}
theorem Am(z1 z2:Int)(n d:AR)(hn:A8 n=true)(hd:A8 d=true)(h0:zh d≠0)(hq:∀ob,Q (.agg [.dat i64 (Mh n d).1.1,.dat (.nlist u64) (Mh n d).1.2,.dat i64 (Mh n d).2.1,.dat (.nlist u64) (Mh n d).2.2]) ob):
  Ends mW (L1 z1 z2 d.1 d.2 n.1 n.2) Q:=by
 obtain⟨g1,_,g3⟩:=mA (n:=n) hd h0;have next:Cz d=false→Ends mW (.ite (A8 (n.1,n.2)&&A8 (d.1,d.2)) (L2 (LP (n.1,n.2) (d.1,d.2)) (LX (n.1,n.2) (d.1,d.2)) z1 z2 d.1 d.2 n.1 n.2) .fail) Q:=by
  intro ho;unfold Mh at hq;rw[if_neg (by rw[ho];decide)]at hq;have k:∀x:AR,A8 x=true→K4 x (Sp.gR n d)=true:=fun x hx=>by unfold K4;exact Ac (Ac hx g1) (decide_eq_true (by omega))
  exact zc (Ac hn hd) (zj (A4 ..) (zc (k n hn) (zc (k d hd) (zf (hq _)))))
 refine zj (Au ..) (zl (fun c=>zl (fun e=>zf ?_) (fun e=>next ?_)) (fun c=>next ?_))
 ·have c:d.2=[]:=by simpa using c
  have e:d.1=1:=by simpa using e
  unfold Mh at hq;rw[if_pos (by unfold Cz;simp[c,e])]at hq;exact hq _
 ·unfold Cz;rw[Bool.and_eq_false_iff];right;simpa using e
 ·unfold Cz;rw[Bool.and_eq_false_iff];left;have:d.2≠[]:=by rintro k;rw[k]at c;simp at c
  simpa using this
theorem ok:Ae AS 104 cQ:=by
 refine Ax (X:=mW) rfl fS (d:=9) (by kernel_rfl) (by kernel_rfl) (by kernel_rfl) (fun(i:(Int×List Int)×(Int×List Int)) hi=>?_) (Ad (by kernel_rfl));obtain⟨n,d⟩:=i;obtain⟨hn,hd,h0⟩:=WY (n:=n) (d:=d) hi;have vn:=HW d;refine zD (An n d) (zc (B0 hd).1 ?_);rw[R8];refine zl (fun c=>zc (B0 hn).1 (zc (B0 hd).1 (Am 0 0 (CT n) (CT d) (S8 hn) (S8 hd) (by omega) (fun ob=>zL rfl rfl ?_)))) (fun c=>Am 0 0 n d hn hd h0 (fun ob=>zL rfl rfl ?_))
 ·have c:zh d<0:=of_decide_eq_true c;show Mh (CT n) (CT d)=V7 n d;unfold V7;rw[if_pos c]
 ·have c:¬zh d<0:=of_decide_eq_false c;show Mh n d=V7 n d;unfold V7;rw[if_neg c]
end T104
theorem T156.ok:Ae AS 156 NT:=by
 refine Ax (X:=RW) rfl FC (d:=9) (by kernel_rfl) (by kernel_rfl) rfl (fun(a:(Int×List Int)×(Int×List Int)) _=>?_) (Ad (by kernel_rfl));refine zD (T156.An a) (zl (fun c=>zf (zL rfl rfl ?_)) (fun c=>zf (zL rfl rfl ?_)))
 ·have c:a.2.2=[]:=by simpa using c
  show(a.2.1==(1:Int))=Cz a.2;unfold Cz;rw[decide_eq_true c,zS];rfl
 ·have c:a.2.2≠[]:=by rintro k;rw[k]at c;simp at c
  show false=Cz a.2;unfold Cz;rw[decide_eq_false c,Bool.false_and]
theorem T157.ok:Ae AS 157 Zb:=by
 refine Ax (X:=RW) rfl FC (d:=9) (by kernel_rfl) (by kernel_rfl) rfl (fun(a:Int×List Int) _=>?_) (Ad (by kernel_rfl));exact zD (T157.An a) (zc rfl (zf (zL rfl rfl rfl)))
theorem T160.ok:Ae AS 160 nG:=by
 refine Ax (X:=RW) rfl FC (d:=9) (by kernel_rfl) (by kernel_rfl) rfl (fun(a:(Int×List Int)×(Int×List Int)) h=>?_) (Ad (by kernel_rfl));exact zD (T160.An a) (zc h (zf (zL rfl rfl rfl)))
theorem T88.ok:Ae AS 88 mX:=by
 refine Ax (X:=RW) rfl FC (d:=9) (by kernel_rfl) (by kernel_rfl) (by kernel_rfl) (fun(i:((Int×List Int)×(Int×List Int))×((Int×List Int)×(Int×List Int))) hi=>?_) (Ad (by kernel_rfl));obtain⟨a,b⟩:=i;have hi:((Mm a.1&&Mm a.2)&&(Mm b.1&&Mm b.2))=true:=hi;rw[zd,zd,zd]at hi;obtain⟨⟨a1,a2⟩,b1,b2⟩:=hi;obtain⟨a1,la1⟩:=Ej a1;obtain⟨a2,la2⟩:=Ej a2;obtain⟨b1,lb1⟩:=Ej b1;obtain⟨b2,lb2⟩:=Ej b2;refine zD (T88.An a b) (zc (Ac a1 b2) (zc (Ac b1 a2) (zc (Ac (Qn la1 lb2) (Qn lb1 la2)) (zf (zL rfl rfl ?_)))));show BW (zh (EK a.1 b.2)) (zh (EK b.1 a.2))=BW _ _;rw[Dd,Dd]
theorem E1{a:AA}(h:yE a=true):A8 a.1=true∧A8 a.2=true∧Ag (zh a.1)<(Aj:Int)^4000∧Ag (zh a.2)<(Aj:Int)^4000∧0<zh a.2:=by
 unfold yE Sp.Ec at h;rw[zd,zd,decide_eq_true_eq]at h;obtain⟨a1,b1⟩:=Ej h.1.1;obtain⟨a2,b2⟩:=Ej h.1.2;exact⟨a1,a2,b1,b2,h.2⟩
theorem Q8:∀g sp,fF.sp g=some sp→Ae AS g sp:=Aa T156.ok (Aa T157.ok (Aa T158.ok (Aa T159.ok (Aa T104.ok (fun g sp h=>by cases h)))))
theorem RS{n d:AR}(hn:A8 n=true)(hd:A8 d=true)(h0:zh d≠0):K4 n d=true:=by
 unfold K4;exact Ac (Ac hn hd) (decide_eq_true h0)
theorem Mo{a b:AR}(ha:Ag (zh a)<(Aj:Int)^4000)(hb:Ag (zh b)<(Aj:Int)^4000):A8 (EK a b)=true:=Qn ha hb
theorem T82.ok:Ae AS 82 Zi:=by
 refine Ax (X:=fF) rfl Q8 (d:=9) (by kernel_rfl) (by kernel_rfl) (by kernel_rfl) (fun(i:((Int×List Int)×(Int×List Int))×((Int×List Int)×(Int×List Int))) hi=>?_) (Ad (by kernel_rfl));obtain⟨a,b⟩:=i;have hi:(yE a&&yE b)=true:=hi;rw[zd]at hi;obtain⟨a1,a2,la1,la2,a0⟩:=E1 hi.1;obtain⟨b1,b2,lb1,lb2,b0⟩:=E1 hi.2;have hd:zh (EK a.2 b.2)≠0:=by rw[Dd];exact zF (ym a0 b0)
 exact zD (T82.An a b) (zc (Ac a1 b1) (zc (Ac a2 b2) (zc (RS (Mo la1 lb1) (Mo la2 lb2) hd) (zf (zL rfl rfl rfl)))))
namespace T80
variable {Q:PV→Ob→Prop}
theorem Am(z1 z2:Int)(a b:AA)(ha:yE a=true)(hb:yE b=true)(hq:∀ob f,f=V7 (D9 (EK a.1 b.2) (EK b.1 a.2)) (EK a.2 b.2)→Q (.agg [.dat i64 f.1.1,.dat (.nlist u64) f.1.2,.dat i64 f.2.1,.dat (.nlist u64) f.2.2]) ob):
  Ends fF (L1 z1 z2 b.1.1 b.1.2 b.2.1 b.2.2 a.1.1 a.1.2 a.2.1 a.2.2) Q:=by
 obtain⟨a1,a2,la1,la2,a0⟩:=E1 ha;obtain⟨b1,b2,lb1,lb2,b0⟩:=E1 hb;have hd:zh (EK a.2 b.2)≠0:=by rw[Dd];exact zF (ym a0 b0)
 have hs:A8 (D9 (EK a.1 b.2) (EK b.1 a.2))=true:=uD (Mo la1 lb2) (Mo lb1 la2) (by rw[Dd,Dd];exact dX (KM la1 lb2) (KM lb1 la2));exact zj (Au ..) (zc (Ac a1 b2) (zc (Ac b1 a2) (zc (Ac (Mo la1 lb2) (Mo lb1 la2)) (zc (Ac a2 b2) (zc (RS hs (Mo la2 lb2) hd) (zf (hq _ _ rfl)))))))
theorem ok:Ae AS 80 Wr:=by
 refine Ax (X:=fF) rfl Q8 (d:=9) (by kernel_rfl) (by kernel_rfl) (by kernel_rfl) (fun(i:((Int×List Int)×(Int×List Int))×((Int×List Int)×(Int×List Int))) hi=>?_) (Ad (by kernel_rfl));obtain⟨a,b⟩:=i;have hi:(yE a&&yE b)=true:=hi;rw[zd]at hi;obtain⟨a1,a2,la1,la2,a0⟩:=E1 hi.1;obtain⟨b1,b2,lb1,lb2,b0⟩:=E1 hi.2;have far:¬(Cz a.2=true∧Cz b.2=true)→Ends fF (L1 0 0 b.1.1 b.1.2 b.2.1 b.2.2 a.1.1 a.1.2 a.2.1 a.2.2) (Af Wr (a,b)):=fun hn=>
  Am 0 0 a b hi.1 hi.2 (fun ob f hf=>zL rfl rfl (by
   show f=Mk a b;unfold Mk;rw[if_neg hn];exact hf))
 refine zD (An a b) (zc rfl (zl (fun c=>zc rfl (zl (fun d=>zc (Ac a1 b1) (zc rfl (zf (zL rfl rfl ?_)))) (fun d=>far (fun k=>by have:=k.2;rw[show Cz b.2=false from d]at this;cases this)))) (fun c=>far (fun k=>by have:=k.1;rw[show Cz a.2=false from c]at this;cases this))));show wX (D9 a.1 b.1)=Mk a b;unfold Mk;rw[if_pos ⟨c,d⟩]
end T80
theorem T161.ok:Ae AS 161 mF:=by
 refine Ax (X:=fF) rfl Q8 (d:=9) (by kernel_rfl) (by kernel_rfl) (by kernel_rfl) (fun(a:(Int×List Int)×(Int×List Int)) hi=>?_) (Ad (by kernel_rfl));have hi:(yE a&&decide (zh a.1≠0))=true:=hi;rw[zd,decide_eq_true_eq]at hi;obtain⟨a1,a2,la1,la2,a0⟩:=E1 hi.1;exact zD (T161.An a) (zc (RS a2 a1 hi.2) (zf (zL rfl rfl rfl)))
end Go.Pe
end
section
namespace Go.Pe
open Sp
open Go.Det
theorem Ud{a:AR}(h:De a=true){k:Nat}(hb:Ag (zh a)<(Aj:Int)^k):a.2.length≤k:=by
 rcases Ol h with⟨h1,_⟩|h1
 ·rw[h1];exact zO _
 ·rw[←h1];exact Js (AE _) hb
theorem FF{a:AR}(h:De a=true)(hb:Ag (zh a)<(Aj:Int)^4000):Mm a=true:=by
 unfold Mm;exact Ac h (decide_eq_true (Ud h hb))
structure EE(f:AA)(q:Rat):Prop where
 n:De f.1=true
 d:De f.2=true
 vn:zh f.1=q.num
 vd:zh f.2=(q.den:Int)
def JE(k:Nat)(q:Rat):Prop:=Ag q.num<(Aj:Int)^k∧(q.den:Int)<(Aj:Int)^k
theorem EE.den_pos{f:AA}{q:Rat}(h:EE f q):0<zh f.2:=by
 rw[h.vd];have:=q.den_pos;omega
theorem EE.D5{f:AA}{q:Rat}(h:EE f q)(hs:JE 4000 q):yE f=true:=by
 unfold yE Sp.Ec;have h2:Ag (zh f.2)=(q.den:Int):=by rw[h.vd,Ai,yj]
 exact Ac (Ac (FF h.n (by rw[h.vn];exact hs.1)) (FF h.d (by rw[h2];exact hs.2))) (decide_eq_true h.den_pos)
theorem UE{x y:Int}:Ag (x/y)≤Ag x:=by
 rw[Ai,Ai];have h1:=Int.natAbs_ediv_le_natAbs x y;omega
theorem oX{a b:AR}(hb:0<zh b):zh (GN a b)=zh a/zh b:=by
 unfold GN;generalize hx:zh a=x;generalize zh b=y at hb;have h1:=Int.mul_ediv_add_emod (Ag x) y;have h2:=Int.emod_nonneg (Ag x) (zF hb);have h3:=Int.emod_lt_of_pos (Ag x) hb;split
 ·next c=>
  rw[YZ,Cg,Ed];obtain⟨c1,c2⟩:=c;symm;rw[yr hb];have e:Ag x= -x:=by rw[Ai];omega
  rw[e]at h1 h2 h3 c2 ⊢;generalize -x/y=q at*;generalize -x % y=r at*;rw[Int.sub_mul,Int.neg_mul,ya q y];generalize y*q=t at*;omega
 ·next c=>
  rw[Cg];unfold Sp.sg;split
  ·next n=>
   have n:x<0:=of_decide_eq_true n;have c2:Ag x % y=0:=yk fun h=>c ⟨n,h⟩
   symm;rw[yr hb];have e:Ag x= -x:=by rw[Ai];omega
   rw[c2]at h1;rw[e]at h1 ⊢;generalize -x/y=q at*;rw[Int.neg_mul,ya q y];generalize y*q=t at*;omega
  ·next n=>
   have n:¬x<0:=fun h=>n (decide_eq_true h)
   have e:Ag x=x:=by rw[Ai];omega
   rw[e]
theorem iS{a b:AR}(ha:A8 a=true)(hb:0<zh b):De (GN a b)=true:=by
 have hab:=bounds ha;have hd:Ag (zh a)/zh b≤Ag (zh a):=Int.ediv_le_self _ (AE _);have hd0:0≤Ag (zh a)/zh b:=Int.ediv_nonneg (AE _) (zw hb);unfold GN;generalize Ag (zh a)/zh b=q at*;have hq:Ag q<(Aj:Int)^9000:=by
  refine zx ?_ hab;rw[Ai];omega
 split
 ·exact QZ (Dx (by rw[HG];exact hq)) (by decide)
 ·refine(ML (k:=9000) ?_ (by omega)).1;unfold Sp.sg;split
  ·rw[HG];exact hq
  ·exact hq
end Go.Pe
end
section
namespace Go.Pe
open Sp
open Go.Det
theorem lY{a b:AR}(hb:0<zh b):zh (Sp.iQ a b)=zh a/zh b:=by
 unfold Sp.iQ;rw[if_neg (by omega)];exact oX hb
theorem Z7{a b:AR}(ha:A8 a=true)(hb:0<zh b):De (Sp.iQ a b)=true:=by
 unfold Sp.iQ;rw[if_neg (by omega)];exact iS ha hb
theorem TC{n d:AR}(hn:A8 n=true)(hd:A8 d=true)(h0:0<zh d):EE (Mh n d) (zK (zh n) (zh d)):=by
 have hs:(zh d).sign=1:=yt h0;have e1:(zK (zh n) (zh d)).num=zh n/(yc (zh n) (zh d):Int):=by
  rw[yy,hs,yw,yI]
 have e2:((zK (zh n) (zh d)).den:Int)=zh d/(yc (zh n) (zh d):Int):=by
  rw[yz,if_neg (zF h0),yI,Int.natCast_ediv];rw[Int.natAbs_of_nonneg (zw h0)]
 obtain⟨g1,g2,g3⟩:=mA (n:=n) hd (zF h0);unfold Mh;split
 ·next c=>
  unfold Cz at c;rw[zd,decide_eq_true_eq,decide_eq_true_eq]at c;have e:zh d=1:=by rw[Bn c.1];exact c.2
  refine⟨(B0 hn).1,(B0 hd).1,?_,?_⟩
  ·rw[e1,e,Int.gcd_one];exact(yJ _).symm
  ·rw[e2,e,Int.gcd_one];exact(yJ _).symm
 ·refine⟨Z7 hn g3,Z7 hd g3,?_,?_⟩
  ·rw[lY g3,e1,g2]
  ·rw[lY g3,e2,g2]
theorem MC{n d:AR}(hn:A8 n=true)(hd:A8 d=true)(h0:zh d≠0):EE (V7 n d) (zK (zh n) (zh d)):=by
 unfold V7;split
 ·next c=>
  have h:=TC (S8 hn) (S8 hd) (by rw[HW];omega);rw[HW,HW]at h;have e:=Rat.divInt_mul_right (n:=zh n) (d:=zh d) (a:= -1) (by decide);rw[Int.mul_neg,yn,Int.mul_neg,yn]at e;rw[e]at h;exact h
 ·exact TC hn hd (by omega)
theorem JE.Yi{k:Nat}{f:AA}{q:Rat}(h:EE f q)(hs:JE k q):Ag (zh f.1)<(Aj:Int)^k∧Ag (zh f.2)<(Aj:Int)^k:=by
 rw[h.vn,h.vd];refine⟨hs.1,?_⟩;rw[Ai,yj];exact hs.2
theorem EE.tB{f:AA}{q:Rat}(h:EE f q):zK (zh f.1) (zh f.2)=q:=by
 rw[h.vn,h.vd];exact zV q
theorem EE.neg{f:AA}{q:Rat}(h:EE f q)(hs:JE 4000 q):EE (oA f) (-q):=by
 have ha:=JE.Yi h hs;have hk:=Ub (k:=4000) h.n (by omega) (by omega) (Ud h.n ha.1);exact⟨hk.1,h.d,by show zh (CT f.1)=_;rw[HW,h.vn,Rat.neg_num],by show zh f.2=_;rw[h.vd,Rat.neg_den]⟩
theorem JE.neg{k:Nat}{q:Rat}(h:JE k q):JE k (-q):=by
 unfold JE;rw[Rat.neg_num,Rat.neg_den,HG];exact h
theorem EE.mul{f g:AA}{p q:Rat}(hf:EE f p)(hg:EE g q)(sp:JE 4000 p)(sq:JE 4000 q):EE (Us f g) (p*q):=by
 have a:=JE.Yi hf sp;have b:=JE.Yi hg sq;have h:=MC (n:=EK f.1 g.1) (d:=EK f.2 g.2) (Mo a.1 b.1) (Mo a.2 b.2) (by rw[Dd];exact zF (ym hf.den_pos hg.den_pos));rw[Dd,Dd, ←Rat.divInt_mul_divInt,hf.tB,hg.tB]at h;exact h
theorem EE.add{f g:AA}{p q:Rat}(hf:EE f p)(hg:EE g q)(sp:JE 4000 p)(sq:JE 4000 q):EE (Mk f g) (p+q):=by
 have a:=JE.Yi hf sp;have b:=JE.Yi hg sq;have ja:=Ej (FF hf.n a.1);have jb:=Ej (FF hg.n b.1);unfold Mk;split
 ·next c=>
  obtain⟨c1,c2⟩:=c;unfold Cz at c1 c2;rw[zd,decide_eq_true_eq,decide_eq_true_eq]at c1 c2;have e1:(p.den:Int)=1:=by rw[←hf.vd,Bn c1.1];exact c1.2
  have e2:(q.den:Int)=1:=by rw[←hg.vd,Bn c2.1];exact c2.2
  have ep:zK p.num 1=p:=by have:=zV p;rw[e1]at this;exact this
  have eq:zK q.num 1=q:=by have:=zV q;rw[e2]at this;exact this
  have es:p+q=zK (p.num+q.num) 1:=by
   have h:=Rat.divInt_add_divInt p.num q.num (d₁:=1) (d₂:=1) (by decide) (by decide);rw[ep,eq,yn,yn,yn]at h;exact h
  refine⟨QZ ja.1 jb.1,by show De (1,Dw 1)=true;rw[MH];rfl,?_,?_⟩
  ·show zh (D9 f.1 g.1)=_;rw[Vs,hf.vn,hg.vn,es,yy];simp
  ·show zh (1,Dw 1)=_;rw[MH,Cg,es,yz];simp
 ·have h:=MC (n:=D9 (EK f.1 g.2) (EK g.1 f.2)) (d:=EK f.2 g.2) (uD (Mo a.1 b.2) (Mo b.1 a.2) (by rw[Dd,Dd];exact dX (KM a.1 b.2) (KM b.1 a.2))) (Mo a.2 b.2) (by rw[Dd];exact zF (ym hf.den_pos hg.den_pos));rw[Vs,Dd,Dd,Dd, ←Rat.divInt_add_divInt _ _ (zF hf.den_pos) (zF hg.den_pos),hf.tB,hg.tB]at h;exact h
theorem EE.sub{f g:AA}{p q:Rat}(hf:EE f p)(hg:EE g q)(sp:JE 4000 p)(sq:JE 4000 q):EE (YG f g) (p-q):=by
 rw[Rat.sub_eq_add_neg];exact hf.add (hg.neg sq) sp sq.neg
theorem EE.inv{f:AA}{p:Rat}(hf:EE f p)(sp:JE 4000 p)(h0:p≠0):EE (TS f) p⁻¹:=by
 have a:=JE.Yi hf sp;have jn:=Ej (FF hf.n a.1);have jd:=Ej (FF hf.d a.2);have h:=MC jd.1 jn.1 (by rw[hf.vn];exact fun h=>h0 (Rat.num_eq_zero.mp h));rw[←Rat.inv_divInt,hf.tB]at h;exact h
end Go.Pe
end
section
namespace Go.Sp
open Go.Lib
theorem MQ{P:Nat→List UInt8→Prop}(h1:∀d,d<10→P d [zy (48+d)])(h2:∀a d,0<a→d<10→P a (decDigits a)→P (10*a+d) (decDigits a++[zy (48+d)]))(n:Nat):P n (decDigits n):=by
 induction n using Nat.strongRecOn with
 |_ n ih=>
  by_cases h:n<10
  ·rw[decDigits_one h];exact h1 n h
  ·have e:n=10*(n/10)+n % 10:=by omega
   have:=h2 (n/10) (n % 10) (by omega) (Nat.mod_lt _ (by decide)) (ih (n/10) (by omega));rw[←Fh _ _ (by omega) (Nat.mod_lt _ (by decide)), ←e]at this;exact this
theorem Jj:∀d:Fin 10,(zy (48+d.1)).toNat=48+d.1:=by decide
theorem JN{d:Nat}(h:d<10):BI (zy (48+d))=true∧GR (zy (48+d))=d:=by
 have e:(zy (48+d)).toNat=48+d:=Jj ⟨d,h⟩;unfold BI GR;rw[e];refine⟨?_,by omega⟩;rw[decide_eq_true (by omega),decide_eq_true (by omega)];rfl
theorem ZA{c:UInt8}(h:BI c=true):c=zy (48+(GR c).toNat)∧(GR c).toNat<10:=by
 obtain⟨h1,h2⟩:=CG h;have hl:(GR c).toNat<10:=by omega
 refine⟨zH.1 ?_,hl⟩;rw[Jj ⟨(GR c).toNat,hl⟩];show c.toNat=48+(GR c).toNat;unfold GR at*;omega
theorem RM(n:Nat):decDigits n≠[]:=MQ (P:=fun _ l=>l≠[]) (fun _ _=>by simp) (fun _ _ _ _ _=>by simp) n
theorem Dr(n:Nat):Ak (decDigits n)=true:=by
 refine MQ (P:=fun _ l=>Ak l=true) (fun d h=>?_) (fun a d _ h ih=>?_) n
 ·unfold Ak;rw[zz,(JN h).1];rfl
 ·unfold Ak at*;rw[List.all_append,ih,zz,(JN h).1];rfl
theorem GS(n:Nat):Az 0 (decDigits n)=n:=by
 refine MQ (P:=fun n l=>Az 0 l=n) (fun d h=>?_) (fun a d _ h ih=>?_) n
 ·show 10*0+GR (zy (48+d))=d;rw[(JN h).2];omega
 ·rw[Cy,ih];show 10*(a:Int)+GR (zy (48+d))=_;rw[(JN h).2];omega
theorem Y1(n:Nat)(h0:0<n):(decDigits n).getD 0 0≠48:=by
 refine MQ (P:=fun n l=>0<n→l.getD 0 0≠48) (fun d h h0=>?_) (fun a d ha _ ih _=>?_) n h0
 ·show zy (48+d)≠48;intro e;have:=Jj ⟨d,h⟩;have e2:=congrArg zC e;rw[show(zy (48+d)).toNat=48+d from this]at e2;have:(48:UInt8).toNat=48:=rfl;omega
 ·have h1:=ih ha;cases hd:decDigits a with
  |nil=>exact absurd hd (RM a)
  |cons c r=>rw[hd]at h1;exact h1
theorem SC(n:Nat):AQ (decDigits n)=true:=by
 unfold AQ;rw[Dr,decide_eq_true (RM n)];rcases zR n with rfl|h
 ·rw[decDigits_one (by decide)];rfl
 ·rw[decide_eq_true (Y1 n h)];rfl
theorem E2{s:List UInt8}(h:AQ s=true):s≠[]∧Ak s=true∧(s.getD 0 0≠48∨s=[48]):=by
 unfold AQ at h;rw[zd,zd,decide_eq_true_eq,Bool.or_eq_true,decide_eq_true_eq,decide_eq_true_eq]at h;exact⟨h.1.1,h.1.2,h.2⟩
theorem Hs{s:List UInt8}(h:AQ s=true)(h0:s≠[48]):0<Az 0 s:=by
 obtain⟨h1,h2,h3⟩:=E2 h;cases s with
 |nil=>exact absurd rfl h1
 |cons c r=>
  have g0:(c::r).getD 0 0=c:=rfl;rw[g0]at h3;have hc:c≠48:=by
   rcases h3 with x|x
   ·exact x
   ·exact absurd x h0
  unfold Ak at h2;rw[zz,zd]at h2;have hd:=CG h2.1;have hr:Ak r=true:=h2.2;have hb:=Bb hr;show 0<Az (10*0+GR c) r;rw[Eh];have hp:(0:Int)<10^r.length:=Int.pow_pos (by decide);have hn:c.toNat≠48:=fun x=>hc (zH.1 x)
  have hg:0<10*0+GR c:=by show 0<10*0+((c.toNat:Int)-48);have hd2:0≤((c.toNat:Int)-48):=hd.1;omega
  have:=ym hg hp;omega
theorem OI{s:List UInt8}(h:AQ s=true):s=decDigits (Az 0 s).toNat:=by
 generalize hn:s.length=n;induction n generalizing s with
 |zero=>exact absurd (zE.1 hn) (E2 h).1
 |succ n ih=>
  obtain⟨h1,h2,h3⟩:=E2 h;obtain⟨t,c,rfl⟩:∃t c,s=t++[c]:=⟨_,_,(List.dropLast_concat_getLast h1).symm⟩;unfold Ak at h2;rw[List.all_append,zd,zz,zd]at h2;obtain⟨h4,h5,_⟩:=h2;obtain⟨b1,b2⟩:=ZA h5;obtain⟨d1,_⟩:=CG h5;rw[Cy];show t++[c]=decDigits (10*Az 0 t+GR c).toNat;by_cases ht:t=[]
  ·subst ht;show[c]=decDigits (10*0+GR c).toNat;rw[show(10*0+GR c).toNat=(GR c).toNat by omega,decDigits_one b2, ←b1]
  ·have g:(t++[c]).getD 0 0=t.getD 0 0:=by
    cases t with
    |nil=>exact absurd rfl ht
    |cons x r=>rfl
   have h6:t.getD 0 0≠48:=by
    rcases h3 with x|x
    ·rw[g]at x;exact x
    ·have h7:=congrArg yA x;rw[zk]at h7;have h8:t.length+1=1:=h7;exact absurd (zE.1 (by omega)) ht
   have hf:AQ t=true:=by
    unfold AQ Ak;rw[decide_eq_true ht,h4,decide_eq_true h6];rfl
   have hp:=Hs hf (fun k=>h6 (by rw[k];rfl));have hi:=ih hf (by rw[zk]at hn;simpa using hn);have e:(10*Az 0 t+GR c).toNat=10*(Az 0 t).toNat+(GR c).toNat:=by omega
   rw[e,Fh _ _ (by omega) b2, ←hi, ←b1]
theorem rD:∀ {a:List UInt8},(∀c∈a,c≠47)→Aw a=a∧AL a=[]∧Bk a=false:=by
 intro a h;have hc:Bk a=false:=by
  unfold Bk;rw[List.any_eq_false];intro x hx;simpa using h x hx
 exact⟨((Go.Pe.BF a).2.2 hc).1,((Go.Pe.BF a).2.2 hc).2,hc⟩
theorem iA:∀ {a:List UInt8} (b:List UInt8),(∀c∈a,c≠47)→Aw (a++47::b)=a∧AL (a++47::b)=b∧Bk (a++47::b)=true:=by
 intro a b h;have hc:Bk (a++47::b)=true:=by
  unfold Bk;rw[List.any_eq_true];exact⟨47,by simp,rfl⟩
 have ha:∀ {a:List UInt8},(∀c∈a,c≠47)→Aw (a++47::b)=a:=by
  intro a;induction a with
  |nil=>intro _;show Aw (47::b)=[];rw[Go.Pe.DM,if_pos rfl]
  |cons x r ih=>
   intro h;show Aw (x::(r++47::b))=_;rw[Go.Pe.DM,if_neg (h x (by simp)),ih (fun c hc=>h c (List.mem_cons_of_mem _ hc))]
 have e:=ha h;refine⟨e,?_,hc⟩;rw[((Go.Pe.BF _).2.1 hc).2,e];simp
theorem Pj{s:List UInt8}(h:Ak s=true):∀c∈s,c≠47:=by
 intro c hc e;unfold Ak at h;rw[zZ]at h;have:=h c hc;rw[e]at this;exact absurd this (by decide)
theorem EZ{s:List UInt8}(h:Ak s=true):s.getD 0 0≠45:=by
 cases s with
 |nil=>decide
 |cons c r=>
  unfold Ak at h;rw[zz,zd]at h;show c≠45;intro e;rw[e]at h;exact absurd h.1 (by decide)
def AX(q:Rat):List UInt8:=if q.den=1 then itoa q.num else itoa q.num++47::decDigits q.den
def A2(s:List UInt8):Rat:=zK (A5 s) (AF s)
theorem C2(n:Int):(∀c∈itoa n,c≠47)∧AU (itoa n)=decDigits n.natAbs∧preB (itoa n)=decide (n<0)∧Ca (itoa n)=n:=by
 unfold itoa;by_cases h:n<0
 ·rw[if_pos h];refine⟨fun c hc=>?_,rfl,(decide_eq_true h).symm,?_⟩
  ·rcases List.mem_cons.1 hc with rfl|hc
   ·decide
   ·exact Pj (Dr _) c hc
  ·show -Az 0 (decDigits n.natAbs)=n;rw[GS];omega
 ·rw[if_neg h];have hm:=EZ (Dr n.toNat);have e:n.toNat=n.natAbs:=by omega
  refine⟨Pj (Dr _),?_,?_,?_⟩
  ·unfold AU;rw[if_neg hm,e]
  ·unfold preB;rw[decide_eq_false hm,decide_eq_false h]
  ·unfold Ca;rw[if_neg hm,GS];omega
theorem E9(q:Rat):Aw (AX q)=itoa q.num∧AL (AX q)=(if q.den=1 then[]else decDigits q.den)∧Bk (AX q)=decide (q.den≠1):=by
 unfold AX;have h:=(C2 q.num).1;by_cases hd:q.den=1
 ·rw[if_pos hd,if_pos hd,decide_eq_false (not_not_intro hd)];exact rD h
 ·rw[if_neg hd,if_neg hd,decide_eq_true hd];exact iA _ h
theorem JC(q:Rat):A5 (AX q)=q.num∧AF (AX q)=q.den:=by
 obtain⟨h1,h2,h3⟩:=E9 q;unfold A5 AF;rw[h1,h2,h3];refine⟨(C2 q.num).2.2.2,?_⟩;by_cases hd:q.den=1
 ·rw[if_neg (by simpa using hd),hd];rfl
 ·rw[if_pos (decide_eq_true hd),if_neg hd];unfold Ca;rw[if_neg (EZ (Dr _)),GS]
theorem DL(q:Rat):A2 (AX q)=q:=by
 unfold A2;rw[(JC q).1,(JC q).2];exact zV q
theorem Pg{p q:Rat}(h:AX p=AX q):p=q:=by
 rw[←DL p,h,DL]
theorem Ri(a:List UInt8):Aw (AU a)=AU (Aw a)∧AL (AU a)=AL a∧Bk (AU a)=Bk a∧preB (Aw a)=preB a:=by
 unfold AU preB;cases a with
 |nil=>exact⟨rfl,rfl,rfl,rfl⟩
 |cons c r=>
  have g0:(c::r).getD 0 0=c:=rfl;rw[g0,Go.Pe.DM];by_cases hc:c=45
  ·subst hc;have e:AL (45::r)=AL r:=by
    unfold AL;rw[yf];cases r.findIdx? (fun x=>x==47)<;>rfl
   exact⟨rfl,e.symm,rfl,rfl⟩
  ·rw[if_neg hc];by_cases h7:c=47
   ·subst h7;exact⟨(Go.Pe.DM _ _),rfl,rfl,rfl⟩
   ·rw[if_neg h7];have g1:(c::Aw r).getD 0 0=c:=rfl;rw[g1,if_neg hc];exact⟨by rw[Go.Pe.DM,if_neg h7],rfl,rfl,rfl⟩
theorem Vi{a:List UInt8}(h:A1 a=0):FL a=true∧(Aw (AU a)).length≤600∧(AL (AU a)).length≤600∧(Bk (AU a)=true→gI (jF a) (hZ a)=1):=by
 unfold A1 at h;cases hf:FL a with
 |false=>rw[if_pos hf]at h;exact absurd h (by decide)
 |true=>
  rw[if_neg (by rw[hf];decide)]at h;split at h
  ·exact absurd h (by decide)
  ·next c=>
   split at h
   ·exact absurd h (by decide)
   ·next d=>exact⟨rfl,by omega,by omega,fun k=>yk fun g=>d ⟨k,g⟩⟩
def F7(k:Nat)(q:Rat):Prop:=q.num.natAbs<10^k∧q.den<10^k
theorem NU{n d:Int}(hd:0<d)(h:yc n d=1):(zK n d).num=n∧((zK n d).den:Int)=d:=by
 have hs:d.sign=1:=yt hd;rw[yy,yz,if_neg (zF hd),hs,yw,yI,h];refine⟨yJ _,?_⟩;rw[Nat.div_one,Int.natAbs_of_nonneg (zw hd)]
theorem N6{s:List UInt8}(h:Ak s=true){k:Nat}(hl:s.length≤k):(Az 0 s).toNat<10^k:=by
 have h1:=Bb h;have h2:(10:Int)^s.length≤10^k:=AJ (by decide) hl;have h3:((10^k:Nat):Int)=(10:Int)^k:=by simp
 omega
theorem N5(k:Nat)(h:k≠0):(1:Int).toNat<10^k:=Nat.one_lt_pow h (by decide)
theorem jP:decDigits (zT 1)=[49]:=by rw[show zT 1=1 from rfl,decDigits_one (by decide)];rfl
theorem K3{s:List UInt8}(h:A1 s=0):AX (A2 s)=s∧(A2 s).num=A5 s∧((A2 s).den:Int)=AF s∧F7 600 (A2 s):=by
 obtain⟨hf,l1,l2,hg⟩:=Vi h;obtain⟨p1,p2,p3,p4⟩:=Ri s;unfold FL at hf;rw[zd,zd]at hf;obtain⟨⟨fa,fm⟩,fb⟩:=hf;unfold jF hZ at hg;obtain⟨A,hA⟩:∃A,A=Aw (AU s):=⟨_,rfl⟩;obtain⟨B,hB⟩:∃B,B=AL (AU s):=⟨_,rfl⟩;rw[←hA]at fa fm l1 hg;rw[←hB]at fb l2 hg;rw[p3]at fb hg;have dA:=(E2 fa).2.1;have ea:=OI fa;have v0:=Bb dA;have hn:A5 s=(if preB s=true then -Az 0 A else Az 0 A)∧Aw s=(if preB s=true then 45::A else A):=by
  have e1:A=AU (Aw s):=by rw[hA,p1]
  unfold A5 Ca;rw[←p4];unfold preB;rw[e1];unfold AU;by_cases hc:(Aw s).getD 0 0=45
  ·rw[if_pos hc,if_pos (decide_eq_true hc),if_pos hc,if_pos (decide_eq_true hc)];refine⟨rfl,?_⟩;cases hs:Aw s with
   |nil=>rw[hs]at hc;exact absurd hc (by decide)
   |cons c r=>
    rw[hs]at hc;have hc:c=45:=hc;rw[hc];rfl
  ·rw[if_neg hc,if_neg (by rw[decide_eq_false hc];decide),if_neg hc,if_neg (by rw[decide_eq_false hc];decide)];exact⟨rfl,rfl⟩
 have hna:(A5 s).natAbs=(Az 0 A).toNat:=by rw[hn.1];split<;>omega
 have hd:0<AF s∧(AF s).toNat<10^600∧yc (A5 s) (AF s)=1∧(Bk s=true→B=decDigits (AF s).toNat∧AF s≠1)∧(Bk s=false→AF s=1):=by
  unfold AF;rw[←p2, ←hB];cases hc:Bk s with
  |false=>
   rw[if_neg (by decide)];exact⟨by decide,N5 600 (by decide),Int.gcd_one,(fun k=>by cases k),fun _=>rfl⟩
  |true=>
   rw[hc]at fb;have fb:(AQ B&&decide (B≠[48])&&decide (B≠[49]))=true:=fb;rw[zd,zd,decide_eq_true_eq,decide_eq_true_eq]at fb;obtain⟨⟨f1,f2⟩,f3⟩:=fb;have dB:=(E2 f1).2.1;have hp:=Hs f1 f2;have er:Ca B=Az 0 B:=by unfold Ca;rw[if_neg (EZ dB)]
   rw[if_pos rfl,er];refine⟨hp,N6 (k:=600) dB l2,?_,fun _=>⟨OI f1,?_⟩,(fun k=>by cases k)⟩
   ·have g:=hg hc;rw[Fc]at g;have g:yc (Az 0 A) (Az 0 B)=1:=by omega
    rw[hn.1];split
    ·rw[Int.neg_gcd];exact g
    ·exact g
   ·intro e;have:=OI f1;rw[e]at this;exact f3 (this.trans jP)
 obtain⟨d0,d1,d2,d3,d4⟩:=hd;obtain⟨r1,r2⟩:=NU (n:=A5 s) d0 d2;have r1:(A2 s).num=A5 s:=r1;have r2:((A2 s).den:Int)=AF s:=r2;have r3:(A2 s).den=(AF s).toNat:=by omega
 refine⟨?_,r1,r2,?_,?_⟩
 ·have ei:itoa (A5 s)=Aw s:=by
   rw[hn.2];unfold itoa;by_cases hb:preB s=true
   ·have hA0:A≠[48]:=by
     have hb2:preB s=true:=hb;rw[hb2]at fm;simpa using fm
    have:=Hs fa hA0;rw[hn.1,if_pos hb,if_pos hb,if_pos (by omega),Int.natAbs_neg];rw[show(Az 0 A).natAbs=(Az 0 A).toNat by omega, ←ea]
   ·rw[hn.1,if_neg hb,if_neg hb,if_neg (by omega), ←ea]
  unfold AX;rw[r1,r3,ei];obtain⟨c1,c2,c3⟩:=Go.Pe.BF s;cases hc:Bk s with
  |false=>
   rw[d4 hc,if_pos (show zT 1=1 from rfl)];exact(c3 hc).1
  |true=>
   obtain⟨k1,k2⟩:=d3 hc;obtain⟨m1,m2⟩:=c2 hc;rw[if_neg (by omega), ←k1,hB,p2,m2];have hx:s.drop (Aw s).length=47::s.drop ((Aw s).length+1):=by
    have h0:∀t:List UInt8,Bk t=true→t.drop (Aw t).length=47::t.drop ((Aw t).length+1):=by
     intro t;induction t with
     |nil=>intro h;cases h
     |cons c r ih=>
      intro h;rw[Go.Pe.DM];by_cases e:c=47
      ·rw[if_pos e,e];rfl
      ·rw[if_neg e];have h2:Bk r=true:=by
        unfold Bk at h ⊢;rw[List.any_cons]at h;simpa [e]using h
       exact ih h2
    exact h0 s hc
   rw[←hx];conv=>lhs;rw[c1]
   have:=zX (Aw s).length s;rw[←c1]at this ⊢;exact this
 ·rw[r1,hna];exact N6 (k:=600) dA l1
 ·rw[r3];exact d1
end Go.Sp
end
section
namespace Go.Sp
def AT(n:Int):List UInt8:=Lib.itoa n
def OO(s:List UInt8)(n:Int):List UInt8:=Lib.repeatL s n.toNat
end Go.Sp
namespace Go.Pe
open Go.Det
noncomputable section
noncomputable def eJ:Ao:=⟨[i64],fun n=>Sp.CS n,[.str],fun n=>Sp.AT n,false⟩
noncomputable def Tz:Ao:=⟨[u64,i64],fun i=>decide (0≤i.1)&&decide (i.1<1000000000000000000)&&decide (i.2=10),[.str],fun i=>Sp.AT i.1,false⟩
noncomputable def Qm:Ao:=⟨[.str,i64],fun i=>decide (0≤i.2)&&decide (i.2≤1000)&&decide (i.1.length≤1000),[.str],fun i=>Sp.OO i.1 i.2,false⟩
noncomputable def oL:Ao:=⟨[By],fun a=>Sp.A8 a,[.str],fun a=>Sp.AT (zh a),false⟩
noncomputable def O5:A9:=X7 [(124,eJ),(218,NZ),(230,FG),(249,Tz),(250,Qm)]
end
end Go.Pe
end
section
namespace Go.Pe
open Sp
open Go.Det
noncomputable section
open List Int Prod
namespace T200
def T(a:Int×List Int):Tr:=tree O5 false 9 200 (Ah ([Sh.pair i64 (Sh.nlist (yF z7))]) a)
def L1(v3:Bool)(v4:List Int)(v5n:Nat)(o0:List Int):Tr:=re ((T (0,[])).R.L) (AI 69 [(3,.dat Sh.bool v3),(4,.dat (Sh.list (yF z7)) v4),(5,.sl 0 1 0 v5n none),(6,.nil)] [(0,.arr false 130 (yF z7) o0)] 1)
theorem An(a:Int×List Int):T a=.ite (!decide (0<length (snd a))) (.ite (CS (fst a)) (.leaf (.dat Sh.str (AT (fst a))) ([(0,.box [.dat i64 (fst a),.dat (Sh.nlist (yF z7)) (snd a)])])) .fail) (.ite (De (fst a,snd a)) (L1 (decide (zh (fst a,snd a)<0)) (Bp (Ag (zh (fst a,snd a)))) 1 ([1000000000000000000])) .fail):=by kernel_rfl
def L2(v3:Bool)(v4:List Int)(v5n v6n:Nat)(o1:List (List UInt8))(o0:List Int):Tr:=re ((stepT O5 (L1 false [] 0 [])).L.L.L.L.L.L.L.L.L) (AI 69 [(3,.dat Sh.bool v3),(4,.dat (Sh.list (yF z7)) v4),(5,.sl 0 1 0 v5n none),(6,.sl 1 1 0 v6n none)] [(1,.arr false 9 Sh.str o1),(0,.arr true 130 (yF z7) o0)] 2)
def L3(v11:Int)(o1:List Int)(o0n:Nat):Tr:=re ((stepT O5 (L1 false [] 0 [])).R.L.L.L) (AI 69 [(6,.nil),(10,.ptr 0 0),(11,.dat i64 v11)] [(1,.arr false 5 (yF IntKind.u8) o1),(0,yp 222 [.ptr 0 0,.sl 1 1 0 o0n none])] 2)
def L4(v11:Int):Tr:=re ((stepT O5 (L1 false [] 0 [])).R.L.R) (AI 69 [(6,.nil),(10,.ptr 0 0),(11,.dat i64 v11)] [(0,yp 222 [.ptr 0 0,.nil])] 1)
def L5(v11:Int):Tr:=re ((stepT O5 (L1 false [] 0 [])).R.R) (AI 69 [(6,.nil),(10,.ptr 0 0),(11,.dat i64 v11)] [(0,yp 222 [PV.nilp,.nil])] 1)
theorem Au(v3:Bool)(v4:List Int)(v5n:Nat)(o0:List Int):stepT O5 (L1 v3 v4 v5n o0)=let a':=Bp (Al v4 % Al (take v5n o0));let b':=Bp (Al v4/Al (take v5n o0));let d':=decide (1≤1)&&decide (0<1)&&decide ((2*1+1000)*16≤281474976710656);let e':=ze .i64 (0-1);let f':=AT (getD a' 0 0);let c':=18-(↑(length f'):Int);.ite (decide ((length v4:Int)>0)) (.ite (decide (0+v5n≤length o0)&&true&&QN v4 (take v5n o0)) (.ite (decide ((↑(length a'):Int)>0)) (.ite (decide (0<(↑(length a'):Int))) (.ite (decide ((0:Sh.T u64)≤getD a' 0 0)&&decide (getD a' 0 0<(1000000000000000000:Sh.T u64))&&decide (10=10)) (.ite (decide ((↑(length b'):Int)>0)) (.ite (decide (0≤ze .i64 c')&&decide (ze .i64 c'≤1000)&&decide (1≤1000)) (.ite (decide (length (OO [(48:UInt8)] (ze .i64 c'))+length f'≤4611686018427387904)) (.ite d' (L2 v3 b' v5n 1 ([OO [(48:UInt8)] (ze .i64 c')++AT (getD a' 0 0)]) o0) .fail) .fail) .fail) (.ite d' (L2 v3 b' v5n 1 ([AT (getD a' 0 0)]) o0) .fail)) .fail) .fail) (.ite (decide ((↑(length b'):Int)>0)) (.ite true (.ite true (.ite true (L2 v3 b' v5n 1 ([OO [(48:UInt8)] (ze .i64 (18-1))++[(48:UInt8)]]) o0) .fail) .fail) .fail) (.ite true (L2 v3 b' v5n 1 ([[(48:UInt8)]]) o0) .fail))) .fail) (.ite v3 (.ite true (.ite true (L3 e' (zN (fun b=>(↑(zC b):Int)) [(45:UInt8)]) 1) .fail) (L4 e')) (L5 e')):=by kernel_rfl
def L6(v6n:Nat)(v11:Int)(o2:List Int)(o1n:Nat)(o0:List (List UInt8)):Tr:=re ((stepT O5 (L2 false [] 0 0 [] [])).R.L.L.L) (AI 69 [(6,.sl 0 1 0 v6n none),(10,.ptr 1 0),(11,.dat i64 v11)] [(2,.arr false 5 (yF IntKind.u8) o2),(1,yp 222 [.ptr 1 0,.sl 2 1 0 o1n none]),(0,.arr false 9 Sh.str o0)] 3)
def L7(v6n:Nat)(v11:Int)(o0:List (List UInt8)):Tr:=re ((stepT O5 (L2 false [] 0 0 [] [])).R.L.R) (AI 69 [(6,.sl 0 1 0 v6n none),(10,.ptr 1 0),(11,.dat i64 v11)] [(1,yp 222 [.ptr 1 0,.nil]),(0,.arr false 9 Sh.str o0)] 2)
def L8(v6n:Nat)(v11:Int)(o0:List (List UInt8)):Tr:=re ((stepT O5 (L2 false [] 0 0 [] [])).R.R) (AI 69 [(6,.sl 0 1 0 v6n none),(10,.ptr 1 0),(11,.dat i64 v11)] [(1,yp 222 [PV.nilp,.nil]),(0,.arr false 9 Sh.str o0)] 2)
theorem A4(v3:Bool)(v4:List Int)(v5n v6n:Nat)(o1:List (List UInt8))(o0:List Int):stepT O5 (L2 v3 v4 v5n v6n o1 o0)=let a':=Bp (Al v4 % Al (take v5n o0));let b':=Bp (Al v4/Al (take v5n o0));let d':=decide ((2*(v6n+1)+1000)*16≤281474976710656);let e':=ze .i64 ((↑v6n:Int)-1);let f':=decide (v6n=length o1);let g':=yq v6n 1;let h':=decide (1≤1)&&true&&f'&&d';let i':=AT (getD a' 0 0);let c':=18-(↑(length i'):Int);.ite (decide ((length v4:Int)>0)) (.ite (decide (0+v5n≤length o0)&&true&&QN v4 (take v5n o0)) (.ite (decide ((↑(length a'):Int)>0)) (.ite (decide (0<(↑(length a'):Int))) (.ite (decide ((0:Sh.T u64)≤getD a' 0 0)&&decide (getD a' 0 0<(1000000000000000000:Sh.T u64))&&decide (10=10)) (.ite (decide ((↑(length b'):Int)>0)) (.ite (decide (0≤ze .i64 c')&&decide (ze .i64 c'≤1000)&&decide (1≤1000)) (.ite (decide (length (OO [(48:UInt8)] (ze .i64 c'))+length i'≤4611686018427387904)) (.ite h' (L2 v3 b' v5n g' (o1++[OO [(48:UInt8)] (ze .i64 c')++AT (getD a' 0 0)]) o0) .fail) .fail) .fail) (.ite h' (L2 v3 b' v5n g' (o1++[AT (getD a' 0 0)]) o0) .fail)) .fail) .fail) (.ite (decide ((↑(length b'):Int)>0)) (.ite true (.ite true (.ite (f'&&d') (L2 v3 b' v5n g' (o1++[OO [(48:UInt8)] (ze .i64 (18-1))++[(48:UInt8)]]) o0) .fail) .fail) .fail) (.ite (f'&&d') (L2 v3 b' v5n g' (o1++[[(48:UInt8)]]) o0) .fail))) .fail) (.ite v3 (.ite true (.ite true (L6 v6n e' (zN (fun b=>(↑(zC b):Int)) [(45:UInt8)]) 1 o1) .fail) (L7 v6n e' o1)) (L8 v6n e' o1)):=by kernel_rfl
theorem Hl(v6n:Nat)(v11:Int)(o2:List Int)(o1n:Nat)(o0:List (List UInt8)):stepT O5 (L6 v6n v11 o2 o1n o0)=let a':=getD o0 (toNat v11) [];.ite (decide (v11≥0)) (.ite (decide (0≤v11)&&decide (v11<(↑v6n:Int))) (.ite (decide (toNat v11<length o0)) (.ite (decide (o1n=length o2)&&decide ((2*(o1n+length (zN (fun b=>(↑(zC b):Int)) a'))+1000)*1≤281474976710656)) (L6 v6n (ze .i64 (v11-1)) (o2++zN (fun b=>(↑(zC b):Int)) a') (yq o1n (length (zN (fun b=>(↑(zC b):Int)) a'))) o0) .fail) .fail) .fail) (.ite (decide (0<o1n)) (.ite (decide (0<(↑o1n:Int))&&decide (toNat (↑o1n:Int)≤length o2)&&decide (toNat (↑o1n:Int)≤9223372036854775807)&&List.all o2 fun x=>decide (0≤x)&&decide (x<256)) (.leaf (.dat Sh.str (zN (fun x=>zy (toNat x)) (take (toNat (↑o1n:Int)) o2))) ([(1,yp 222 [.ptr 1 0,.sl 2 1 0 o1n none]),(0,.arr false 9 Sh.str o0)])) .fail) .fail):=by kernel_rfl
theorem I2(v6n:Nat)(v11:Int)(o0:List (List UInt8)):stepT O5 (L8 v6n v11 o0)=let a':=getD o0 (toNat v11) [];let b':=ze .i64 (v11-1);.ite (decide (v11≥0)) (.ite (decide (0≤v11)&&decide (v11<(↑v6n:Int))) (.ite (decide (toNat v11<length o0)) (.ite (decide (0<length (zN (fun b=>(↑(zC b):Int)) a'))) (.ite (decide ((2*length (zN (fun b=>(↑(zC b):Int)) a')+1000)*1≤281474976710656)) (L6 v6n b' (zN (fun b=>(↑(zC b):Int)) a') (length (zN (fun b=>(↑(zC b):Int)) a')) o0) .fail) (L7 v6n b' o0)) .fail) .fail) .fail:=by kernel_rfl
end T200
end
theorem LB{f:FuncId}{sp:Ao}{q:List V→H→Option (V×H)}(hp:AS.prim f=none)(hfn:∃i,AS.fn f=some i)(hq:AS.spec f=some q)
  (hrun:∀(F:Fz) (h:H) (args:List V) (i:(Bz sp.ins).T),Gh h→Ll F (Ah sp.ins i) args→sp.pre i=true→∃v,q args h=some (v,h)∧PC F (one (Ah sp.outs (sp.f i))) v):Ae AS f sp:=by
 refine .uT ⟨hp,hfn,fun F h args i hfz hlt hgh hargs hpre=>?_⟩;obtain⟨v,h1,h2⟩:=hrun F h args i hgh hargs hpre;refine⟨[(v,h)],1,fun m hm=>?_,fun _=>⟨_,rfl⟩,fun x hx=>?_⟩
 ·obtain⟨m',rfl⟩:∃m',m=m'+1:=⟨m-1,by omega⟩;rw[Bf];simp only[hq,h1]
 ·cases yi.1 hx;exact⟨zI _,fun _ _=>rfl,hlt,F,fun _ _ h=>h,fun _ _ h=>.inl h,hfz,h2⟩
theorem tD:∃cs t fz,(3,O.cells cs t fz)∈Fu∧nY cs Lib.pow10Tab=true:=⟨_,_,_,List.mem_cons_self ..,by kernel_rfl⟩
theorem Xb{h:H}(hg:Gh h):QS h=true:=by
 obtain⟨cs,t,fz,h1,h2⟩:=tD;have h3:=hg _ h1;unfold QS;rw[h3];exact h2
theorem gD:Ae AS 124 eJ:=by
 refine LB (q:=Wg) (by kernel_rfl) (Ad (by kernel_rfl)) rfl fun F h args (n:Int) hg ha hp=>?_
 have hp:Sp.CS n=true:=hp;have ha:args=[.int .i64 n]:=by
  have:=ha (fun _=>none) 0;simp only[Ah,eJ,Ba]at this;obtain⟨v,vs,rfl,h1,rfl⟩:=this;obtain rfl:=Cr h1;rfl
 subst ha;refine⟨.str (Lib.itoa n),?_,fun ρ N=>Jl _⟩;have:=El hp;have c1:decide (-9223372036854775808≤n)=true:=decide_eq_true (by omega);have c2:decide (n≤9223372036854775807)=true:=decide_eq_true (by omega);simp only[Wg,Xb hg,c1,c2,Bool.and_self,cond_true]
theorem XK:Ae AS 250 Qm:=by
 refine LB (q:=Q0) (by kernel_rfl) (Ad (by kernel_rfl)) rfl fun F h args (i:List UInt8×Int) hg ha hp=>?_
 obtain⟨s,n⟩:=i;have hp:(decide (0≤n)&&decide (n≤1000)&&decide (s.length≤1000))=true:=hp;rw[zd,zd,decide_eq_true_eq,decide_eq_true_eq,decide_eq_true_eq]at hp;obtain⟨⟨h0,h1⟩,h2⟩:=hp;obtain⟨c,rfl⟩:=zM h0;have ha:args=[.str s,.int .i64 (c:Int)]:=by
  have:=ha (fun _=>none) 0;simp only[Ah,Qm,Ba]at this;obtain⟨v,vs,rfl,h3,w,ws,rfl,h4,rfl⟩:=this;obtain rfl:=EJ h3;obtain rfl:=Cr h4;rfl
 subst ha;refine⟨.str (Sp.OO s (c:Int)),?_,fun ρ N=>Jl _⟩;have c1:yK c 9223372036854775807=true:=zY (by omega);have c2:yK (Dq s*c) 140737488355328=true:=zY (by
  rw[Cp];have:s.length*c≤1000*1000:=Nat.mul_le_mul h2 (by omega);omega)
 show(bif yK c 9223372036854775807&&yK (Dq s*c) 140737488355328 then some (V.str (Lib.repeatL s c),h)else none)=_;rw[c1,c2];rfl
theorem eS:Ae AS 249 Tz:=by
 refine LB (q:=fmtQ) (by kernel_rfl) (Ad (by kernel_rfl)) rfl fun F h args (i:Int×Int) hg ha hp=>?_
 obtain⟨u,b⟩:=i;have hp:(decide (0≤u)&&decide (u<1000000000000000000)&&decide (b=10))=true:=hp;rw[zd,zd,decide_eq_true_eq,decide_eq_true_eq,decide_eq_true_eq]at hp;obtain⟨⟨h0,h1⟩,rfl⟩:=hp;obtain⟨c,rfl⟩:=zM h0;have ha:args=[.int .u64 (c:Int),.int .i64 10]:=by
  have:=ha (fun _=>none) 0;simp only[Ah,Tz,Ba]at this;obtain⟨v,vs,rfl,h3,w,ws,rfl,h4,rfl⟩:=this;obtain rfl:=Cr h3;obtain rfl:=Cr h4;rfl
 subst ha;refine⟨.str (Sp.AT (c:Int)),?_,fun ρ N=>Jl _⟩;have c1:yK c 18446744073709551615=true:=zY (by omega);have e:Sp.AT (c:Int)=zu c:=Lib.itoa_nonneg _;rw[e];show(bif QS h&&(yK c 18446744073709551615&&Nat.beq 10 10)then some (V.str (zu c),h)else none)=_;rw[Xb hg,c1];rfl
namespace T200
abbrev fI(s:List UInt8):List Int:=zN (fun b=>(↑(zC b):Int)) s
theorem SK:∀s:List UInt8,zN (fun x:Int=>zy (zT x)) (fI s)=s
 |[]=>rfl
 |b::s=>by
  have:=SK s;simp only[fI,List.map_cons]at this ⊢;rw[this];simp
theorem VH:∀s:List UInt8,(List.all (fI s) fun x=>decide ((0:Int)≤x)&&decide (x<(256:Int)))=true
 |[]=>rfl
 |b::s=>by
  have h1:=VH s;have h2:=b.toNat_lt;simp only[fI,List.map_cons,zz]at h1 ⊢;rw[h1,yC,zd,decide_eq_true_eq,decide_eq_true_eq];omega
theorem jB(a b:List UInt8):fI a++fI b=fI (a++b):=by simp[fI]
variable {Q:PV→Ob→Prop}
theorem Ep(o0:List (List UInt8))(T:List UInt8)(hT:T.length≤1000000)(hl:o0.length≤1000000)(hq:∀ob,Q (.dat .str T) ob):∀(i:Nat) (acc:List UInt8) (v11:Int) (n:Nat),i≤o0.length→v11=(i:Int)-1→n=acc.length→0<acc.length→acc++(o0.take i).reverse.flatten=T→
  Ends O5 (L6 o0.length v11 (fI acc) n o0) Q
 |0,acc,v11,n,_,hv,hn,h0,he=>by
  have he:acc=T:=by simpa using he
  subst he hn;refine zj (Hl ..) (zn (decide_eq_false (by omega)) (zc (decide_eq_true h0) (zc (Ac (Ac (Ac (decide_eq_true (by omega)) (decide_eq_true (by simp))) (decide_eq_true (by simp;omega))) (VH acc)) (zf ?_))));have e:zN (fun x:Int=>zy (zT x)) (yB (zT (acc.length:Int)) (fI acc))=acc:=by
   rw[zg,zm (by simp),SK]
  rw[e];exact hq _
 |i+1,acc,v11,n,hi,hv,hn,h0,he=>by
  have hg:List.getD o0 (zT v11) []=o0[i]:=by
   rw[show zT v11=i from by omega];simp[show i<o0.length from hi]
  have hs:acc++o0[i]++(o0.take i).reverse.flatten=T:=by
   have ht:o0.take (i+1)=o0.take i++[o0[i]]:=zW hi;rw[←he,ht,List.reverse_append,yu,List.singleton_append,List.flatten_cons,List.append_assoc]
  have hlen:=congrArg yA hs;simp only[zk]at hlen;refine zj (Hl ..) (zc (decide_eq_true (by omega)) (zc (Ac (decide_eq_true (by omega)) (decide_eq_true (by omega))) (zc (decide_eq_true (by omega)) ?_)));rw[hg];refine zc (Ac (decide_eq_true (by simp[hn])) (decide_eq_true (by rw[zU];omega))) ?_;rw[jB,wr (v11-1) (by omega) (by omega)];exact Ep o0 T hT hl hq i (acc++o0[i]) (v11-1) _ (by omega) (by omega) (by rw[zk,zU,hn];rfl) (by rw[zk];omega) hs
theorem ES(o0:List (List UInt8))(T:List UInt8)(hT:T.length≤1000000)(hl:o0.length≤1000000)(hq:∀ob,Q (.dat .str T) ob)(i:Nat)(hi:i+1=o0.length)(v11:Int)(hv:v11=(i:Int))(hpos:0<(o0[i]'(by omega)).length)(he:o0.reverse.flatten=T):
  Ends O5 (L8 o0.length v11 o0) Q:=by
 have hi':i<o0.length:=by omega
 have hg:List.getD o0 (zT v11) []=o0[i]:=by
  rw[show zT v11=i from by omega];simp[hi']
 have hs:o0[i]++(o0.take i).reverse.flatten=T:=by
  have ht:o0.take (i+1)=o0.take i++[o0[i]]:=zW hi';rw[hi,zA]at ht;rw[←he];conv=>rhs;rw[ht]
  rw[List.reverse_append,yu,List.singleton_append,List.flatten_cons]
 have hlen:=congrArg yA hs;simp only[zk]at hlen;refine zj (I2 ..) (zc (decide_eq_true (by omega)) (zc (Ac (decide_eq_true (by omega)) (decide_eq_true (by omega))) (zc (decide_eq_true (by omega)) ?_)));rw[hg];refine zc (decide_eq_true (by rw[zU];exact hpos)) (zc (decide_eq_true (by rw[zU];omega)) ?_);rw[wr (v11-1) (by omega) (by omega)];exact Ep o0 T hT hl hq i o0[i] (v11-1) _ (by omega) (by omega) (by rw[zU]) hpos hs
end T200
end Go.Pe
end
section
namespace Go.Pe
open Sp
open Go.Det
theorem Sq{r:Int}(h0:0<r)(h1:r<18446744073709551616):Bp r=[r]:=by
 have hd:At Aj [r]:=by
  intro x hx;rw[yi]at hx;subst hx;exact⟨by omega,h1⟩
 have hn:Sp.nz [r]:=by
  unfold Sp.nz;simp;omega
 have:=HJ (b:=Aj) (by decide) hd hn;have hv:zP Aj [r]=r:=by simp[zP]
 rw[hv]at this;exact this.symm
theorem Kf:Bp 0=[]:=by
 unfold Bp;rfl
theorem O1:Al [1000000000000000000]=1000000000000000000:=by simp[Al,zP]
theorem Yn(n:Nat):OO [48] (n:Int)=List.replicate n 48:=by
 unfold OO;rw[zg];induction n with
 |zero=>rfl
 |succ n ih=>rw[Lib.repeatL,ih];rfl
theorem RA(V:Nat):Al (Bp (V:Int))=(V:Int):=CD (b:=Aj) (by decide) (by omega)
theorem ZF{V:Nat}(hV:(V:Int)<(Aj:Int)^9000):QN (Bp (V:Int)) [1000000000000000000]=true:=by
 obtain⟨n1,n2,n3⟩:=CJ (n:=(V:Int)) (by omega) hV (by omega);have h1:=Js (n:=(V:Int)) (by omega) hV;unfold QN;refine Ac (Ac (Ac (Ac n1 ?_) (decide_eq_true h1)) (decide_eq_true (by decide))) (decide_eq_true (by rw[O1];decide));decide
theorem S9(V:Nat):Bp (Al (Bp (V:Int))/Al (yB 1 [1000000000000000000]))=Bp ((V/10^18:Nat):Int):=by
 rw[RA,show yB 1 [(1000000000000000000:Int)]=[1000000000000000000]from rfl,O1];congr 1
theorem R6(V:Nat):Bp (Al (Bp (V:Int)) % Al (yB 1 [1000000000000000000]))=Bp ((V % 10^18:Nat):Int):=by
 rw[RA,show yB 1 [(1000000000000000000:Int)]=[1000000000000000000]from rfl,O1];congr 1
theorem Ig{V:Nat}(h:0<V):0<(Bp (V:Int)).length:=by
 rcases zR (Bp (V:Int)).length with e|e
 ·have h1:=RA V;rw[zE.1 e]at h1;have h2:Al []=0:=rfl;rw[h2]at h1;omega
 ·exact e
end Go.Pe
end
section
namespace Go.Pe
open Sp
open Go.Det
theorem MN:∀(k u:Nat),u<10^(k+1)→Lib.nDigits u≤k+1
 |0,u,h=>by rw[Lib.nDigits_small (by omega)];omega
 |k+1,u,h=>by
  by_cases c:u<10
  ·rw[Lib.nDigits_small c];omega
  ·rw[Lib.nDigits_big c];have:u/10<10^(k+1):=by rw[Nat.pow_succ]at h;omega
   have:=MN k (u/10) this;omega
theorem Qy{r:Nat}(h:r<10^18):(zu r).length≤18:=by
 rw[z8];exact MN 17 r h
theorem KV(r:Nat):AT (r:Int)=zu r:=Lib.itoa_nonneg r
theorem Rr(r:Nat)(h:r<10^18):OO [48] ((18:Int)-((zu r).length:Int))++zu r=Fq 18 r:=by
 have:=Qy h;rw[show(18:Int)-((zu r).length:Int)=((18-(zu r).length:Nat):Int)from by omega,Yn,z8];rfl
structure Small(V:Nat):Prop where
 h:(V:Int)<(Aj:Int)^9000
theorem Small.le{a b:Nat}(h:Small b)(hab:a≤b):Small a:=⟨zx (Int.ofNat_le.mpr hab) h.h⟩
theorem Small.div{V:Nat}(h:Small V):QN (Bp (V:Int)) [1000000000000000000]=true:=ZF h.h
namespace T200
variable {Q:PV→Ob→Prop}
def Exit(neg:Bool)(G:List (List UInt8))(Q:PV→Ob→Prop):Prop:=Ends O5 (.ite neg (.ite true (.ite true (L6 G.length (ze IntKind.i64 ((G.length:Int)-1)) (zN (fun b=>(↑(zC b):Int)) [(45:UInt8)]) 1 G) .fail) (L7 G.length (ze IntKind.i64 ((G.length:Int)-1)) G)) (L8 G.length (ze IntKind.i64 ((G.length:Int)-1)) G)) Q
theorem AZ(neg:Bool)(G:List (List UInt8))(hG:G.length≤1000000)(hfin:Exit neg G Q):∀(f V:Nat) (o1:List (List UInt8)),V<f→Small V→o1++(if V=0 then[]else B8 f V)=G→Ends O5 (L2 neg (Bp (V:Int)) 1 o1.length o1 [1000000000000000000]) Q
 |0,V,o1,h,_,_=>by omega
 |f+1,V,o1,h,hV,he=>by
  rcases zR V with h0|h0
  ·subst h0;have he:o1=G:=by simpa using he
   subst he;refine zj (A4 ..) (zn (by rw[show((0:Nat):Int)=0 from rfl,Kf];rfl) ?_);exact hfin
  have hlt:V % 10^18<10^18:=Nat.mod_lt _ (by decide);rw[if_neg (by omega)]at he;have hg:∀s,s=(if V/10^18=0 then zu (V % 10^18)else Fq 18 (V % 10^18))→(o1++[s])++(if V/10^18=0 then[]else B8 f (V/10^18))=G:=by
   rintro s rfl;rw[←he,List.append_assoc];congr 1;have eg:B8 (f+1) V=if V<10^18 then[zu V]else Fq 18 (V % 10^18)::B8 f (V/10^18):=rfl
   rw[eg];by_cases c:V<10^18
   ·rw[if_pos c,if_pos (by omega),if_pos (by omega),Nat.mod_eq_of_lt c];rfl
   ·rw[if_neg c,if_neg (by omega),if_neg (by omega)];rfl
  have hsz:o1.length+1≤1000000:=by
   have:=congrArg yA (hg _ rfl);simp only[zk,List.length_singleton]at this;omega
  have next:∀s,s=(if V/10^18=0 then zu (V % 10^18)else Fq 18 (V % 10^18))→Ends O5 (L2 neg (Bp ((V/10^18:Nat):Int)) 1 (yq o1.length 1) (o1++[s]) [1000000000000000000]) Q:=by
   intro s hs;have:=AZ neg G hG hfin f (V/10^18) (o1++[s]) (by omega) (hV.le (Nat.div_le_self _ _)) (hg s hs);rw[zk]at this;exact this
  refine zj (A4 ..) (zc (decide_eq_true (by have:=Ig h0;omega)) (zc (Ac rfl hV.div) ?_));rw[S9,R6];rcases zR (V % 10^18)with r0|r0
  ·have q0:V/10^18≠0:=by omega
   rw[r0,show((0:Nat):Int)=0 from rfl,Kf];refine zn rfl (zc (decide_eq_true (by have:=Ig (V:=V/10^18) (by omega);omega)) (zc rfl (zc rfl (zc (Ac (decide_eq_true rfl) (decide_eq_true (by omega))) (next _ ?_)))));have hp:=Rr 0 (by decide);rw[Lib.decDigits_one (by omega)]at hp;rw[if_neg q0,r0, ←hp];rfl
  ·rw[Sq (r:=((V % 10^18:Nat):Int)) (by omega) (by omega)];have hgd:List.getD [((V % 10^18:Nat):Int)] 0 0=((V % 10^18:Nat):Int):=rfl;rw[hgd,KV];have hd:=Qy hlt;have hr18:((V % 10^18:Nat):Int)<1000000000000000000:=by omega
   have h18:0<(zu (V % 10^18)).length:=by
    rw[z8,Lib.nDigits];split<;>omega
   refine zc rfl (zc rfl (zc (Ac (Ac (decide_eq_true (Int.natCast_nonneg _)) (decide_eq_true hr18)) rfl) ?_));rw[wr _ (by omega) (by omega)];by_cases q0:V/10^18=0
   ·rw[q0];refine zn (by rw[show((0:Nat):Int)=0 from rfl,Kf];rfl) (zc (Ac (Ac rfl (decide_eq_true rfl)) (decide_eq_true (by omega))) ?_);have:=next _ rfl;rw[if_pos q0,q0]at this;exact this
   ·have hpad:=Rr _ hlt;refine zc (decide_eq_true (by have:=Ig (V:=V/10^18) (by omega);omega)) (zc (Ac (Ac (decide_eq_true (by omega)) (decide_eq_true (by omega))) rfl) (zc (decide_eq_true ?_) (zc (Ac (Ac rfl (decide_eq_true rfl)) (decide_eq_true (by omega))) (next _ ?_))))
    ·rw[←zk,hpad];unfold Fq;rw[zk,List.length_replicate];omega
    ·rw[if_neg q0];exact hpad
end T200
end Go.Pe
end
