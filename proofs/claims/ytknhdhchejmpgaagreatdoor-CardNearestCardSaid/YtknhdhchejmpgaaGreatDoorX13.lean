import Derived.Test.YtknhdhchejmpgaaGreatDoorX12
import Derived.Test.YtknhdhchejmpgaaGreatDoorX11
import Derived.Test.YtknhdhchejmpgaaGreatDoorX10
import Derived.Test.YtknhdhchejmpgaaGreatDoorX07
import Derived.Test.YtknhdhchejmpgaaGreatDoorX09
/- A part of a proof (no law is stated here). Made by program out of texts by AI agents. -/
open Go.Pe.Ends renaming tt → zc, leaf → zh, At → zm, ite → zo, ff → zq, eq → zQ
open Bool renaming and_eq_true → ze, true_and → yc, and_true → qp
open Go.IntKind renaming wrap → zg, u64 → yn
open Int renaming toNat_natCast → zj, mul_le_mul_of_nonneg_left → zt, lt_of_lt_of_le → zu, le_of_lt → zz, lt_of_le_of_lt → zK, mul_le_mul_of_nonneg_right → zO, ne_of_gt → zS, eq_ofNat_of_zero_le → zZ, pow_succ → ya, toNat → ye, mul_comm → yp, le_trans → yq, gcd → yr, mul_nonneg → yu, tdiv_eq_ediv_of_nonneg → yw, tmod_eq_emod_of_nonneg → yx, natAbs_natCast → yz, mul_pos → y8, mul_one → y9, ediv_eq_iff_of_pos → qf, sign_eq_one_of_pos → qg, one_mul → qj, le_refl → qk, add_assoc → qq, gcd_comm → qx, ediv_one → qy
open List renaming length_drop → zk, length_append → zn, take_of_length_le → zp, length_take → zr, all_cons → zM, take_length → zN, length_eq_zero_iff → zR, getD_eq_getElem?_getD → zT, getElem?_eq_getElem → zW, map → z6, length_map → yf, take_succ_eq_append_getElem → yh, take_append_drop → yi, all_eq_true → yk, findIdx?_cons → yv, mem_singleton → yy, length_cons → qc, reverse_singleton → qh, length → qn, take → qo
open Go.Sp renaming vI → zl, AL → zw, B9 → zx, val → z8, gI → qi, Dj → qt, first → qv, preB → qw
open Go.Lib renaming decDigits → zy, decDigits_length → yo
open UInt8 renaming ofNat → zL, toNat → zP, toNat_inj → zU
open Nat renaming le_refl → zV, zero_le → z7, eq_zero_or_pos → yb, ble_eq_true_of_le → yj, sub → ym, add_sub_cancel → yt, add → qe, ble → qz
open Rat renaming divInt → zX, num_divInt_den → yg, num_divInt → ql, den_divInt → qm
open Go.Pe.Af renaming of → zY
open Classical renaming byContradiction → y7
open Go.Pe.Obj renaming tbox → qd
open Go.Pe.Sh renaming int → qu
section
namespace Go.Pe
open Sp
open Go.Det
namespace T165
theorem Aj{Q:PV→Ob→Prop}(s:List UInt8)(hs:Al s=true)(hl:s.length≤18)(hq:∀ob,Q (.dat i64 (Az 0 s)) ob):∀(r:List UInt8) (i:Nat),s.drop i=r→i≤s.length→Ends Za (L1 s (Az 0 (s.take i)) i) Q
 |[],i,h,hi=>by
  have he:i=s.length:=drop_nil h hi;subst he;rw[zN];exact zm (As ..) (zq (by simp) (zh (hq _)))
 |c::r,i,h,hi=>by
  obtain⟨h1,h2,h3⟩:=drop_cons (d:=0) h;have hb:=Bb (Be hs i);have hlen:(s.take i).length=i:=by rw[zr];omega
  rw[hlen]at hb;have hp:(10:Int)^i≤10^17:=AI (by decide) (by omega);have hc:BJ c=true:=by
   unfold Al at hs;rw[yk]at hs;exact hs c (Nk h)
  have hd:=CJ hc;have hc0:48≤c.toNat∧c.toNat≤57:=by unfold GZ at hd;omega
  have e1:zg .i64 (c.toNat:Int)=(c.toNat:Int):=wr _ (by omega) (by omega);have hp17:(10:Int)^17=100000000000000000:=by decide
  have e2:zg .i64 (zg .i64 (zg .i64 (10*Az 0 (s.take i))+(c.toNat:Int))-48)=Az 0 (s.take (i+1)):=by
   rw[Lv h,CA];show _=10*Az 0 (s.take i)+((c.toNat:Int)-48);generalize Az 0 (s.take i)=D at*;rw[wr (10*D) (by omega) (by omega),wr (10*D+(c.toNat:Int)) (by omega) (by omega),wr _ (by omega) (by omega)];omega
  have e3:zg .i64 ((i:Int)+1)=((i+1:Nat):Int):=by rw[wr _ (by omega) (by omega)];omega
  refine zm (As ..) (zc (by simp;omega) ?_);rw[zj,h2,e1,e2,e3];exact zc (by simp;omega) (Aj s hs hl hq r (i+1) h3 h1)
theorem ok:Ae AT 165 RI:=by
 refine Av (X:=Za) rfl R8 (d:=9) (by kernel_rfl) (by kernel_rfl) (by kernel_rfl) (fun(s:List UInt8) hs=>?_) (Ad (by kernel_rfl));have hs:(decide (s.length≤18)&&Al s)=true:=hs;rw[ze,decide_eq_true_eq]at hs;exact zQ (Am s) (Aj s hs.2 hs.1 (fun ob=>zY rfl rfl rfl) s 0 rfl (z7 _))
end T165
theorem lT:∀g sp,Yh.sp g=some sp→Ae AT g sp:=Aa T165.ok (Aa T168.ok (fun g sp h=>by cases h))
theorem K8{neg:Bool}{w:List Int}{D:Int}(hd:Au zx w)(hv:z8 zx w=D):(B4 neg w,Ar w)=(Sp.rN (if neg=true then -D else D),Sp.rW (if neg=true then -D else D)):=by
 have h0:=Ay (b:=zx) (by decide) hd;rw[hv]at h0;have hw:Ar w=BL D:=by rw[E6 hd];show BL (z8 zx w)=_;rw[hv]
 have hnil:BL D=[]↔D=0:=qA (by decide) h0;have ea:Ag (if neg=true then -D else D)=D:=by rw[Ai];split<;>omega
 unfold B4 Sp.rW Sp.rN;rw[ea,hw];congr 1;cases neg with
 |false=>simp;omega
 |true=>
  simp only[if_true,yc,ne_eq,hnil,decide_eq_decide];omega
end Go.Pe
namespace Go.Pe
open Sp
open Go.Det
namespace T163
variable {Q:PV→Ob→Prop}
theorem vW:(10:Int)^9=1000000000:=by decide
theorem It{s:List UInt8}{m:Nat}(hm:m+9=s.length):Az 0 s=Az 0 (s.take m)*1000000000+Az 0 (s.drop m):=by
 conv=>lhs;rw[←yi m s]
 rw[CA,Eh (s.drop m),zk,show s.length-m=9 by omega,vW]
theorem Ck{s:List UInt8}(hs:Al s=true)(h:s.length≤9):0≤Az 0 s∧Az 0 s<1000000000:=by
 have:=Bb hs;have h2:(10:Int)^s.length≤10^9:=AI (by decide) h;rw[vW]at h2;omega
theorem BS{s:List UInt8}(hs:Al s=true)(h:s.length≤18):DB s=true:=by
 unfold DB;rw[hs,qp];exact decide_eq_true h
theorem CQ(neg:Bool)(D:Int)(hq:∀(w:List Int) ob,Au zx w→z8 zx w=D→Q (.agg [.dat .bool (B4 neg w),.dat li (Ar w)]) ob):∀(f:Nat) (s:List UInt8) (o1:List Int),s.length≤f→Al s=true→o1.length+s.length≤6000→Au zx o1→z8 zx o1+(zx:Int)^o1.length*Az 0 s=D→Ends Yh (L3 s neg o1.length o1) Q:=by
 intro f;induction f with
 |zero=>
  intro s o1 hf hs hl hd he;have h9:s.length≤9:=by omega
  have hv:=Ck hs h9;have ht:(o1++[Bu s]).take (qe o1.length 1)=o1++[Bu s]:=zp (by simp);refine zm (C9 ..) (zq (by simp;omega) (zc (BS hs (by omega)) (zc (by simp;omega) ?_)));rw[ht];refine zc (by simp;omega) (zh (hq _ _ (EM hd hv) ?_));rw[B2];exact he
 |succ f ih=>
  intro s o1 hf hs hl hd he;by_cases h9:s.length≤9
  ·have hv:=Ck hs h9;have ht:(o1++[Bu s]).take (qe o1.length 1)=o1++[Bu s]:=zp (by simp);refine zm (C9 ..) (zq (by simp;omega) (zc (BS hs (by omega)) (zc (by simp;omega) ?_)));rw[ht];refine zc (by simp;omega) (zh (hq _ _ (EM hd hv) ?_));rw[B2];exact he
  ·obtain⟨m,hm⟩:∃m,m+9=s.length:=⟨s.length-9,by omega⟩;have e1:zg .i64 ((s.length:Int)-9)=(m:Int):=by rw[wr _ (by omega) (by omega)];omega
   have e2:(s.drop m).take (ym s.length m)=s.drop m:=zp (by rw[zk];exact zV _);have hv:=Ck (BO hs m) (by rw[zk];omega);refine zm (C9 ..) (zc (by simp;omega) ?_);rw[e1,zj,e2];refine zc (by simp;omega) (zc (BS (BO hs m) (by rw[zk];omega)) (zc (by simp;omega) (zc (by simp;omega) ?_)));have:=ih (s.take m) (o1++[Bu (s.drop m)]) (by rw[zr];omega) (Be hs m) (by simp;omega) (EM hd hv) (by
    rw[B2,zn];show z8 zx o1+(zx:Int)^o1.length*Az 0 (s.drop m)+(zx:Int)^(o1.length+1)*Az 0 (s.take m)=D;rw[I2,qq, ←Int.mul_add, ←he,It hm];congr 2;omega)
   rw[zn]at this;exact this
theorem BP(D:Int)(hq:∀(w:List Int) ob,Au zx w→z8 zx w=D→Q (.agg [.dat .bool (B4 false w),.dat li (Ar w)]) ob):∀(f:Nat) (s:List UInt8) (o1:List Int),s.length≤f→Al s=true→o1.length+s.length≤6000→Au zx o1→z8 zx o1+(zx:Int)^o1.length*Az 0 s=D→Ends Yh (L4 s o1.length o1) Q:=by
 intro f;induction f with
 |zero=>
  intro s o1 hf hs hl hd he;have h9:s.length≤9:=by omega
  have hv:=Ck hs h9;have ht:(o1++[Bu s]).take (qe o1.length 1)=o1++[Bu s]:=zp (by simp);refine zm (Dp ..) (zq (by simp;omega) (zc (BS hs (by omega)) (zc (by simp;omega) ?_)));rw[ht];refine zc (by simp;omega) (zh (hq _ _ (EM hd hv) ?_));rw[B2];exact he
 |succ f ih=>
  intro s o1 hf hs hl hd he;by_cases h9:s.length≤9
  ·have hv:=Ck hs h9;have ht:(o1++[Bu s]).take (qe o1.length 1)=o1++[Bu s]:=zp (by simp);refine zm (Dp ..) (zq (by simp;omega) (zc (BS hs (by omega)) (zc (by simp;omega) ?_)));rw[ht];refine zc (by simp;omega) (zh (hq _ _ (EM hd hv) ?_));rw[B2];exact he
  ·obtain⟨m,hm⟩:∃m,m+9=s.length:=⟨s.length-9,by omega⟩;have e1:zg .i64 ((s.length:Int)-9)=(m:Int):=by rw[wr _ (by omega) (by omega)];omega
   have e2:(s.drop m).take (ym s.length m)=s.drop m:=zp (by rw[zk];exact zV _);have hv:=Ck (BO hs m) (by rw[zk];omega);refine zm (Dp ..) (zc (by simp;omega) ?_);rw[e1,zj,e2];refine zc (by simp;omega) (zc (BS (BO hs m) (by rw[zk];omega)) (zc (by simp;omega) (zc (by simp;omega) ?_)));have:=ih (s.take m) (o1++[Bu (s.drop m)]) (by rw[zr];omega) (Be hs m) (by simp;omega) (EM hd hv) (by
    rw[B2,zn];show z8 zx o1+(zx:Int)^o1.length*Az 0 (s.drop m)+(zx:Int)^(o1.length+1)*Az 0 (s.take m)=D;rw[I2,qq, ←Int.mul_add, ←he,It hm];congr 2;omega)
   rw[zn]at this;exact this
theorem Aj(neg:Bool)(s:List UInt8)(hs:Al s=true)(hl:s.length≤5999)(hq:∀(w:List Int) ob,Au zx w→z8 zx w=Az 0 s→Q (.agg [.dat .bool (B4 neg w),.dat li (Ar w)]) ob):Ends Yh (L1 s neg) Q:=by
 by_cases h9:s.length≤9
 ·have hv:=Ck hs h9;refine zm (As ..) (zq (by simp;omega) (zc (BS hs (by omega)) (zc rfl (zc rfl (zh (hq _ _ (EM (l:=[]) (fun x hx=>by cases hx) hv) ?_))))));show z8 zx [Az 0 s]=_;exact DS _
 ·obtain⟨m,hm⟩:∃m,m+9=s.length:=⟨s.length-9,by omega⟩;have e1:zg .i64 ((s.length:Int)-9)=(m:Int):=by rw[wr _ (by omega) (by omega)];omega
  have e2:(s.drop m).take (ym s.length m)=s.drop m:=zp (by rw[zk];exact zV _);have hv:=Ck (BO hs m) (by rw[zk];omega);refine zm (As ..) (zc (by simp;omega) ?_);rw[e1,zj,e2];refine zc (by simp;omega) (zc (BS (BO hs m) (by rw[zk];omega)) (zc rfl (zc (by simp;omega) ?_)));refine CQ neg (Az 0 s) hq m (s.take m) [Bu (s.drop m)] (by rw[zr];omega) (Be hs m) (by simp;omega) (EM (l:=[]) (fun x hx=>by cases hx) hv) ?_;rw[DS,It hm];show Az 0 (s.drop m)+(zx:Int)^1*_=_;rw[ya,Int.pow_zero,qj,yp];exact Int.add_comm _ _
theorem AU(s:List UInt8)(hs:Al s=true)(hl:s.length≤5999)(hq:∀(w:List Int) ob,Au zx w→z8 zx w=Az 0 s→Q (.agg [.dat .bool (B4 false w),.dat li (Ar w)]) ob):Ends Yh (L2 s) Q:=by
 by_cases h9:s.length≤9
 ·have hv:=Ck hs h9;refine zm (A3 ..) (zq (by simp;omega) (zc (BS hs (by omega)) (zc rfl (zc rfl (zh (hq _ _ (EM (l:=[]) (fun x hx=>by cases hx) hv) ?_))))));show z8 zx [Az 0 s]=_;exact DS _
 ·obtain⟨m,hm⟩:∃m,m+9=s.length:=⟨s.length-9,by omega⟩;have e1:zg .i64 ((s.length:Int)-9)=(m:Int):=by rw[wr _ (by omega) (by omega)];omega
  have e2:(s.drop m).take (ym s.length m)=s.drop m:=zp (by rw[zk];exact zV _);have hv:=Ck (BO hs m) (by rw[zk];omega);refine zm (A3 ..) (zc (by simp;omega) ?_);rw[e1,zj,e2];refine zc (by simp;omega) (zc (BS (BO hs m) (by rw[zk];omega)) (zc rfl (zc (by simp;omega) ?_)));refine BP (Az 0 s) hq m (s.take m) [Bu (s.drop m)] (by rw[zr];omega) (Be hs m) (by simp;omega) (EM (l:=[]) (fun x hx=>by cases hx) hv) ?_;rw[DS,It hm];show Az 0 (s.drop m)+(zx:Int)^1*_=_;rw[ya,Int.pow_zero,qj,yp];exact Int.add_comm _ _
theorem ok:Ae AT 163 QH:=by
 refine Av (X:=Yh) rfl lT (d:=9) (by kernel_rfl) (by kernel_rfl) (by kernel_rfl) (fun(s:List UInt8) hs=>?_) (Ad (by kernel_rfl));have hs:(decide (s.length≤5999)&&(if s.getD 0 0=45 then Al (s.drop 1)else Al s))=true:=hs;rw[ze,decide_eq_true_eq]at hs;obtain⟨hl,hs⟩:=hs;have fin:∀(neg:Bool) (D:Int),B7 s=(if neg=true then -D else D)→∀(w:List Int) ob,Au zx w→z8 zx w=D→Af QH s (.agg [.dat .bool (B4 neg w),.dat li (Ar w)]) ob:=by
  intro neg D hr w ob hd hv;refine zY rfl rfl ?_;show(B4 neg w,Ar w)=(Sp.rN (B7 s),Sp.rW (B7 s));rw[hr];exact K8 hd hv
 refine zQ (Am s) ?_;conv=>zeta
 cases s with
 |nil=>exact zq (by decide) (AU [] rfl (by decide) (fin false 0 rfl))
 |cons c r=>
  have g0:(c::r).getD 0 0=c:=rfl;rw[g0]at hs;rw[g0];refine zc (by simp) (zc (by simp) (zo (fun d=>?_) (fun d=>?_)))
  ·have hc:c=45:=by
    have:(c.toNat:Int)=45:=by simpa using d
    exact zU.1 (by show _=45;omega)
   rw[if_pos hc]at hs;have e:(List.drop 1 (c::r)).take (ym (c::r).length 1)=r:=by show r.take ((r.length+1)-1)=r;rw[yt];exact zN
   rw[d,e];refine zc (by simp) (Aj true r hs (by simp at hl;omega) (fin true _ ?_));unfold B7;rw[g0,if_pos hc,if_pos rfl];rfl
  ·have hc:c≠45:=by
    rintro rfl;exact absurd d (by decide)
   rw[if_neg hc]at hs;rw[d];refine Aj false (c::r) hs hl (fin false _ ?_);unfold B7;rw[g0,if_neg hc,if_neg (by decide)]
end T163
end Go.Pe
end
section
namespace Go.Pe
open Sp
open Go.Det
theorem hZ:∀g sp,Pf.sp g=some sp→Ae AT g sp:=
 Aa T105n.ok (Aa T216.ok (Aa T159.ok (Aa T158.ok (Aa T174.ok (Aa (Gn (by kernel_rfl) (Ad (by kernel_rfl))) (Aa (Gn (by kernel_rfl) (Ad (by kernel_rfl))) (fun g sp h=>by cases h)))))))
theorem Qy(k:Nat):Eg 18 (k:Int)=((min 18 k:Nat):Int):=by unfold Eg;split<;>omega
theorem nX(n:Int):zg .u8 n=n % 256:=by simp[zg,IntKind.bits,IntKind.signed]
theorem dT(k:Nat):(10:Int)^k≤(Ak:Int)^k:=by
 induction k with
 |zero=>exact qk _
 |succ k ih=>
  rw[ya,ya];have h1:=zO ih (show(0:Int)≤10 by decide);have h2:=zt (show(10:Int)≤(Ak:Int)by decide) (zz (AM (b:=Ak) (by decide) k));exact yq h1 h2
theorem FL{n:Int}(h0:0≤n)(h:n<(10:Int)^(6000:Nat)):A5 (CD n)=true:=by
 refine Du ?_;have h1:=dT 6000;have h2:(Ak:Int)^6000≤(Ak:Int)^9000:=AI (by decide) (by decide);have h3:Ag n=n:=by rw[Ai];omega
 rw[h3];exact zu h (yq h1 h2)
theorem MO(m n:Int):Ex (Cq m,Cp m) (Cq n,Cp n)=Cq (m*n)∧Ew (Cq m,Cp m) (Cq n,Cp n)=Cp (m*n):=by
 constructor
 ·show Cq (zl (CD _)*zl (CD _))=_;rw[Cj,Cj]
 ·show Cp (zl (CD _)*zl (CD _))=_;rw[Cj,Cj]
theorem hI{a b:AQ}(h:0≤zl a+zl b):D9 a b=CD (zl a+zl b):=by
 unfold D9;split
 ·next c=>
  have:=Ce c.2.2;rw[Bj c.1,Bj c.2.1]at h ⊢;exact(BU (by omega)).symm
 ·rfl
theorem Mx{m v:Int}(hm:0≤m)(hv:0≤v):Hv (Cq m,Cp m) (v,B1 v)=Cq (m+v)∧HS (Cq m,Cp m) (v,B1 v)=Cp (m+v):=by
 have e1:zl (Cq m,Cp m)=m:=Cj m;have e2:zl (v,B1 v)=v:=by rw[DT,Ec]
 have:=hI (a:=(Cq m,Cp m)) (b:=(v,B1 v)) (by rw[e1,e2];omega);rw[e1,e2]at this;exact⟨congrArg Prod.fst this,congrArg Prod.snd this⟩
theorem MV(n:Nat):Ua ((10:Int),B1 (10:Int)) (n:Int)=Cq (10^n)∧Ue ((10:Int),B1 (10:Int)) (n:Int)=Cp (10^n):=by
 have e:Sp.pI (zl ((10:Int),B1 (10:Int))) (n:Int)=10^n:=by rw[RC,DT,Ec,zj]
 unfold Ua Ue;rw[e];exact⟨rfl,rfl⟩
theorem ZJ:A5 ((10:Int),B1 (10:Int))=true:=by rw[DT];decide
theorem Zo{n:Nat}(h:n≤18):bW (zl ((10:Int),B1 (10:Int))) (n:Int)=true:=by
 unfold bW;have e:Sp.pI (zl ((10:Int),B1 (10:Int))) (n:Int)=10^n:=by rw[RC,DT,Ec,zj]
 rw[e];have h1:(10:Int)^n≤10^18:=AI (by decide) h;have h0:(0:Int)<10^n:=AM (by decide) n;have h2:(10:Int)^18<18446744073709551616^1:=by decide
 have h3:(18446744073709551616:Int)^(1:Nat)≤18446744073709551616^(4000:Nat):=AI (by decide) (by decide);have h4:Ag ((10:Int)^n)=10^n:=by rw[Ai];omega
 rw[h4];exact Ac (Ac (decide_eq_true (by omega)) (decide_eq_true (by omega))) (decide_eq_true (zK h1 (zu h2 h3)))
theorem SN{v:Int}(h0:0≤v)(h:v<1000000000000000000):A5 (v,B1 v)=true:=by
 rw[DT];unfold A5;exact Ac (J9 (C3 (by omega) (by omega))) (decide_eq_true (z7 _))
theorem Wv{w:List UInt8}(hs:Al w=true)(h:w.length≤18):0≤Az 0 w∧Az 0 w<1000000000000000000:=by
 have:=Bb hs;have h2:(10:Int)^w.length≤10^18:=AI (by decide) h;have h3:(10:Int)^18=1000000000000000000:=by decide
 omega
namespace T153
variable {Q:PV→Ob→Prop}
theorem Cd(W:List UInt8)(neg:Bool)(b1:Int)(b1w:List Int)(b0:Int)(w:List UInt8)(n:Nat)(hw:w=W.take n)(hW:Al W=true)(hn:n=min 18 W.length)(h1:1≤W.length)(a o0':Int)(a0:0≤a)(hj:A5 (CD a)=true)(hj2:A5 (CD (a*10^n))=true)
  (hgo:Ends Pf (L5 (W.drop n) neg (Cq (a*10^n+Az 0 w)) (Cp (a*10^n+Az 0 w)) o0') Q):
  ∀(r:List UInt8) (j:Nat),w.drop j=r→j≤w.length→Ends Pf (L7 W neg b1 b1w b0 w (Az 0 (w.take j)) w.length w.length j (w.map fun b=>(b.toNat:Int)) (Cq a) (Cp a) o0') Q
 |[],j,hr,hjw=>by
  have hdw:Al w=true:=by rw[hw];exact Be hW n
  have hwl:w.length=n:=by rw[hw,zr];omega
  have he:j=w.length:=drop_nil hr hjw;subst he;have hv:=Wv hdw (by omega);obtain⟨c,t,hc⟩:∃c t,w=c::t:=by
   cases w with
   |nil=>simp at hwl;omega
   |cons c t=>exact⟨c,t,rfl⟩
  have hc0:((((w.getD 0 0).toNat:Int)==(45:Int))=false):=by
   rw[hc]at hdw ⊢;unfold Al at hdw;rw[zM,ze]at hdw;have:=CJ hdw.1;unfold GZ at this;show(((c.toNat:Int)==(45:Int))=false);simp;omega
  have ht:(W.drop n).take (ym W.length n)=W.drop n:=zp (by rw[zk];exact zV _);have p0:0≤a*10^n:=yu a0 (zz (AM (by decide) n));have jp:A5 (Cq (10^n),Cp (10^n))=true:=by
   refine Fa (FL (n:=(10:Int)^n) (zz (AM (by decide) n)) ?_);have x1:(10:Int)^n≤10^18:=AI (by decide) (by omega);have x2:(10:Int)^18<10^19:=by decide
   have x3:(10:Int)^19≤10^(6000:Nat):=AI (by decide) (by decide);exact zK x1 (zu x2 x3)
  refine zm (FT ..) (zq (by simp) (zc (decide_eq_true (by omega)) ?_));rw[hc0,Qy, ←hn,(MV n).1,(MV n).2,zN];refine zq rfl (zc rfl (zc (Ac ZJ (Zo (by omega))) (zc (Ac hj jp) (zc rfl ?_))));rw[(MO _ _).1,(MO _ _).2,(Mx p0 hv.1).1,(Mx p0 hv.1).2,zj,ht];exact zc (Ac hj2 (SN hv.1 hv.2)) (zc (by simp;omega) hgo)
 |c::r,j,hr,hjw=>by
  have hdw:Al w=true:=by rw[hw];exact Be hW n
  have hwl:w.length=n:=by rw[hw,zr];omega
  obtain⟨g1,g2,g3⟩:=drop_cons (d:=0) hr;have hcd:BJ c=true:=by
   unfold Al at hdw;rw[yk]at hdw;exact hdw c (Nk hr)
  have hd:=CJ hcd;have hlt:(w.take j).length=j:=by rw[zr];omega
  have hb:=Bb (Be hdw j);rw[hlt]at hb;have hp:(10:Int)^j≤10^17:=AI (by decide) (by omega);have hp17:(10:Int)^17=100000000000000000:=by decide
  have gm:(w.map fun b=>(b.toNat:Int)).getD j 0=(c.toNat:Int):=by
   rw[zT,List.getElem?_map,zW g1];have:w[j]=c:=by rw[←g2,zT,zW g1];rfl
   rw[this];rfl
  have e8:zg .u8 ((c.toNat:Int)-48)=GZ c:=by
   rw[nX];unfold GZ at hd ⊢;omega
  have e2:zg .i64 (zg .i64 (Az 0 (w.take j)*10)+zg .i64 (GZ c))=Az 0 (w.take (j+1)):=by
   rw[Lv hr,CA];show _=10*Az 0 (w.take j)+GZ c;generalize Az 0 (w.take j)=D at*;rw[wr (D*10) (by omega) (by omega),wr (GZ c) (by omega) (by omega),wr _ (by omega) (by omega)];omega
  have e3:zg .i64 ((j:Int)+1)=((j+1:Nat):Int):=by rw[wr _ (by omega) (by omega)];omega
  refine zm (FT ..) (zc (by simp;omega) ?_);rw[zj,gm,e8,e2,e3];refine zc (by simp;omega) (zc (by simp;omega) (zq (decide_eq_false (by omega)) ?_));exact Cd W neg b1 b1w b0 w n hw hW hn h1 a o0' a0 hj hj2 hgo r (j+1) g3 g1
theorem CQ(W:List UInt8)(neg:Bool)(b1:Int)(b0:Int)(w:List UInt8)(n:Nat)(hw:w=W.take n)(hW:Al W=true)(hn:n=min 18 W.length)(h1:1≤W.length)(a o0':Int)(ha:a=0)(a0:0≤a)(hj:A5 (CD a)=true)(hj2:A5 (CD (a*10^n))=true)
  (hgo:Ends Pf (L5 (W.drop n) neg (Cq (a*10^n+Az 0 w)) (Cp (a*10^n+Az 0 w)) o0') Q):
  ∀(r:List UInt8) (j:Nat),w.drop j=r→j≤w.length→Ends Pf (L3 W neg b1 b0 w (Az 0 (w.take j)) w.length w.length j (w.map fun b=>(b.toNat:Int)) 0 o0') Q
 |[],j,hr,hjw=>by
  have hdw:Al w=true:=by rw[hw];exact Be hW n
  have hwl:w.length=n:=by rw[hw,zr];omega
  have he:j=w.length:=drop_nil hr hjw;subst he;have hv:=Wv hdw (by omega);obtain⟨c,t,hc⟩:∃c t,w=c::t:=by
   cases w with
   |nil=>simp at hwl;omega
   |cons c t=>exact⟨c,t,rfl⟩
  have hc0:((((w.getD 0 0).toNat:Int)==(45:Int))=false):=by
   rw[hc]at hdw ⊢;unfold Al at hdw;rw[zM,ze]at hdw;have:=CJ hdw.1;unfold GZ at this;show(((c.toNat:Int)==(45:Int))=false);simp;omega
  have ht:(W.drop n).take (ym W.length n)=W.drop n:=zp (by rw[zk];exact zV _);have p0:0≤a*10^n:=yu a0 (zz (AM (by decide) n));have jp:A5 (Cq (10^n),Cp (10^n))=true:=by
   refine Fa (FL (n:=(10:Int)^n) (zz (AM (by decide) n)) ?_);have x1:(10:Int)^n≤10^18:=AI (by decide) (by omega);have x2:(10:Int)^18<10^19:=by decide
   have x3:(10:Int)^19≤10^(6000:Nat):=AI (by decide) (by decide);exact zK x1 (zu x2 x3)
  refine zm (C9 ..) (zq (by simp) (zc (decide_eq_true (by omega)) ?_));rw[hc0,Qy, ←hn,(MV n).1,(MV n).2,zN];refine zq rfl (zc rfl (zc (Ac ZJ (Zo (by omega))) (zc (Ac (show A5 ((0:Int),[])=true by decide) jp) (zc rfl ?_))));rw[show Ex ((0:Int),[]) (Cq (10^n),Cp (10^n))=Cq (a*10^n)by rw[ha];exact(MO 0 _).1,show Ew ((0:Int),[]) (Cq (10^n),Cp (10^n))=Cp (a*10^n)by rw[ha];exact(MO 0 _).2,(Mx p0 hv.1).1,(Mx p0 hv.1).2,zj,ht];exact zc (Ac hj2 (SN hv.1 hv.2)) (zc (by simp;omega) hgo)
 |c::r,j,hr,hjw=>by
  have hdw:Al w=true:=by rw[hw];exact Be hW n
  have hwl:w.length=n:=by rw[hw,zr];omega
  obtain⟨g1,g2,g3⟩:=drop_cons (d:=0) hr;have hcd:BJ c=true:=by
   unfold Al at hdw;rw[yk]at hdw;exact hdw c (Nk hr)
  have hd:=CJ hcd;have hlt:(w.take j).length=j:=by rw[zr];omega
  have hb:=Bb (Be hdw j);rw[hlt]at hb;have hp:(10:Int)^j≤10^17:=AI (by decide) (by omega);have hp17:(10:Int)^17=100000000000000000:=by decide
  have gm:(w.map fun b=>(b.toNat:Int)).getD j 0=(c.toNat:Int):=by
   rw[zT,List.getElem?_map,zW g1];have:w[j]=c:=by rw[←g2,zT,zW g1];rfl
   rw[this];rfl
  have e8:zg .u8 ((c.toNat:Int)-48)=GZ c:=by
   rw[nX];unfold GZ at hd ⊢;omega
  have e2:zg .i64 (zg .i64 (Az 0 (w.take j)*10)+zg .i64 (GZ c))=Az 0 (w.take (j+1)):=by
   rw[Lv hr,CA];show _=10*Az 0 (w.take j)+GZ c;generalize Az 0 (w.take j)=D at*;rw[wr (D*10) (by omega) (by omega),wr (GZ c) (by omega) (by omega),wr _ (by omega) (by omega)];omega
  have e3:zg .i64 ((j:Int)+1)=((j+1:Nat):Int):=by rw[wr _ (by omega) (by omega)];omega
  refine zm (C9 ..) (zc (by simp;omega) ?_);rw[zj,gm,e8,e2,e3];refine zc (by simp;omega) (zc (by simp;omega) (zq (decide_eq_false (by omega)) ?_));exact CQ W neg b1 b0 w n hw hW hn h1 a o0' ha a0 hj hj2 hgo r (j+1) g3 g1
theorem nC(W:List UInt8)(neg:Bool)(o1:Int)(o1w:List Int)(o0:Int)(hW:Al W=true)(h1:1≤W.length)(n:Nat)(hn:n=min 18 W.length)
  (h:Ends Pf (L7 W neg o1 o1w o0 (W.take n) 0 (W.take n).length (W.take n).length 0 ((W.take n).map fun b=>(b.toNat:Int)) o1 o1w o0) Q):Ends Pf (L5 W neg o1 o1w o0) Q:=by
 have hwl:(W.take n).length=n:=by rw[zr];omega
 have hdw:=Be hW n;have hc:((((W.take n).getD 0 0).toNat:Int)==(45:Int))=false∧((((W.take n).getD 0 0).toNat:Int)==(43:Int))=false:=by
  cases hq:W.take n with
  |nil=>rw[hq]at hwl;simp at hwl;omega
  |cons c t=>
   rw[hq]at hdw;unfold Al at hdw;rw[zM,ze]at hdw;have:=CJ hdw.1;unfold GZ at this;show(((c.toNat:Int)==(45:Int))=false)∧(((c.toNat:Int)==(43:Int))=false);constructor<;>(simp;omega)
 refine zm (Gr ..) (zc (by simp;omega) ?_);rw[Qy, ←hn,zj,hc.1,hc.2];exact zc (by simp;omega) (zc (decide_eq_true (by omega)) (zc (decide_eq_true (by omega)) (zc (decide_eq_true (by omega)) (zq rfl (zc (decide_eq_true (by omega)) (zq rfl h))))))
theorem iV(W:List UInt8)(neg:Bool)(o1:Int)(o0:Int)(hW:Al W=true)(h1:1≤W.length)(n:Nat)(hn:n=min 18 W.length)
  (h:Ends Pf (L3 W neg o1 o0 (W.take n) 0 (W.take n).length (W.take n).length 0 ((W.take n).map fun b=>(b.toNat:Int)) o1 o0) Q):Ends Pf (L1 W neg o1 o0) Q:=by
 have hwl:(W.take n).length=n:=by rw[zr];omega
 have hdw:=Be hW n;have hc:((((W.take n).getD 0 0).toNat:Int)==(45:Int))=false∧((((W.take n).getD 0 0).toNat:Int)==(43:Int))=false:=by
  cases hq:W.take n with
  |nil=>rw[hq]at hwl;simp at hwl;omega
  |cons c t=>
   rw[hq]at hdw;unfold Al at hdw;rw[zM,ze]at hdw;have:=CJ hdw.1;unfold GZ at this;show(((c.toNat:Int)==(45:Int))=false)∧(((c.toNat:Int)==(43:Int))=false);constructor<;>(simp;omega)
 refine zm (As ..) (zc (by simp;omega) ?_);rw[Qy, ←hn,zj,hc.1,hc.2];exact zc (by simp;omega) (zc (decide_eq_true (by omega)) (zc (decide_eq_true (by omega)) (zc (decide_eq_true (by omega)) (zq rfl (zc (decide_eq_true (by omega)) (zq rfl h))))))
theorem rK(n:Int)(h:0≤n):(D2 (Cq n,Cp n),D3 (Cq n,Cp n))=CD (-n):=by
 show CV (CD n)=_;unfold CV;split
 ·next c=>
  have:=Cj n;rw[Bj c.1]at this;rw[this,BU (n:= -n)];by_cases hb: -9223372036854775808<n∧n<9223372036854775808
  ·omega
  ·exfalso;have e:CD n=(1,Bo (Ag n)):=by unfold CD;rw[if_neg hb,if_neg (by omega)]
   rw[e]at this;have:(1:Int)=n:=this;omega
 ·rw[Cj]
theorem Wq{a D:Int}{W:List UInt8}{n:Nat}(ha:0≤a)(hW:Al W=true)(hn:n≤W.length)(hD:a*10^W.length+Az 0 W=D):(a*10^n+Az 0 (W.take n))*10^(W.drop n).length+Az 0 (W.drop n)=D∧a≤D∧a*10^n≤D:=by
 have hs:Az 0 W=Az 0 (W.take n)*10^(W.drop n).length+Az 0 (W.drop n):=by
  conv=>lhs;rw[←yi n W]
  rw[CA,Eh]
 have hl:W.length=n+(W.drop n).length:=by rw[zk];omega
 have hp:(10:Int)^W.length=10^n*10^(W.drop n).length:=by rw[←Int.pow_add, ←hl]
 have hb:=(Bb hW).1;have e1:a*10^W.length=a*10^n*10^(W.drop n).length:=by rw[hp,Int.mul_assoc]
 have one:∀k:Nat,(1:Int)≤10^k:=fun k=>by have:=AM (show(0:Int)<10 by decide) k;omega
 have l1:a≤a*10^W.length:=by have:=zt (one W.length) ha;omega
 have l2:a*10^n≤a*10^n*10^(W.drop n).length:=by
  have:=zt (one (W.drop n).length) (yu ha (show(0:Int)≤10^n by have:=one n;omega));omega
 refine⟨?_,by omega,by omega⟩;rw[Int.add_mul, ←e1];omega
theorem Co(neg:Bool)(o0 D:Int)(hD1:D<(10:Int)^(6000:Nat))(hq:∀ob,Q (.agg [.dat i64 (Cq (if neg=true then -D else D)),.dat (.nlist u64) (Cp (if neg=true then -D else D))]) ob):∀(f:Nat) (W:List UInt8) (a:Int),W.length<f→W.length≤6000→0≤a→Al W=true→a*10^W.length+Az 0 W=D→Ends Pf (L5 W neg (Cq a) (Cp a) o0) Q
 |0,W,a,hf,_,_,_,_=>by omega
 |f+1,W,a,hf,h15,ha,hW,he=>by
  cases hW0:W with
  |nil=>
   subst hW0;have he:a=D:=by rw[←he];simp[Az]
   subst he;have hok:=FL ha hD1;refine zm (Gr ..) (zq (by simp) (zo (fun c=>zc (BQ hok).1 (zh ?_)) (fun c=>zh ?_)))
   ·have:=rK a ha;rw[c,if_pos rfl]at hq;have x1:D2 (Cq a,Cp a)=Cq (-a):=congrArg Prod.fst this;have x2:D3 (Cq a,Cp a)=Cp (-a):=congrArg Prod.snd this;rw[x1,x2];exact hq _
   ·rw[c,if_neg (by decide)]at hq;exact hq _
  |cons c t=>
   rw[←hW0];have h1:1≤W.length:=by rw[hW0];simp
   obtain⟨r1,r2,r3⟩:=Wq (n:=min 18 W.length) ha hW (by omega) he;have hv:=(Bb (Be hW (min 18 W.length))).1;have hp:0≤a*10^(min 18 W.length):=yu ha (zz (AM (by decide) _));refine nC W neg _ _ o0 hW h1 _ rfl (Cd W neg _ _ o0 _ _ rfl hW rfl h1 a o0 ha (FL ha (zK r2 hD1)) (FL hp (zK r3 hD1)) ?_ _ 0 rfl (z7 _));exact Co neg o0 D hD1 hq f (W.drop (min 18 W.length)) _ (by rw[zk];omega) (by rw[zk];omega) (by omega) (BO hW _) r1
theorem Aj(neg:Bool)(W:List UInt8)(h15:W.length≤5999)(hW:Al W=true)(hq:∀ob,Q (.agg [.dat i64 (Cq (if neg=true then -Az 0 W else Az 0 W)),.dat (.nlist u64) (Cp (if neg=true then -Az 0 W else Az 0 W))]) ob)(hq0:W=[]→∀ob v,(v=.agg [.dat i64 0,.nil]∨v=.agg [.dat i64 (D2 ((0:Int),[])),.dat (.nlist u64) (D3 ((0:Int),[]))])→Q v ob):Ends Pf (L1 W neg 0 0) Q:=by
 cases hW0:W with
 |nil=>
  refine zm (As ..) (zq (by simp) (zo (fun c=>zc (by decide) (zh (hq0 hW0 _ _ (.inr rfl)))) (fun c=>zh (hq0 hW0 _ _ (.inl rfl)))))
 |cons c t=>
  rw[←hW0];have h1:1≤W.length:=by rw[hW0];simp
  have hD1:Az 0 W<(10:Int)^(6000:Nat):=zu (Bb hW).2 (AI (by decide) (by omega));obtain⟨r1,r2,r3⟩:=Wq (a:=0) (n:=min 18 W.length) (D:=Az 0 W) (qk _) hW (by omega) (by rw[Int.zero_mul,Int.zero_add]);have hv:=(Bb (Be hW (min 18 W.length))).1;refine iV W neg 0 0 hW h1 _ rfl (CQ W neg 0 0 _ _ rfl hW rfl h1 0 0 rfl (qk _) (by decide) (by rw[Int.zero_mul];decide) ?_ _ 0 rfl (z7 _));exact Co neg 0 _ hD1 hq (W.length+1) (W.drop (min 18 W.length)) _ (by rw[zk];omega) (by rw[zk];omega) (by omega) (BO hW _) r1
theorem ok:Ae AT 153 O6:=by
 refine Av (X:=Pf) rfl hZ (d:=9) (by kernel_rfl) (by kernel_rfl) (by kernel_rfl) (fun(s:List UInt8) hs=>?_) (Ad (by kernel_rfl));have hs:(decide (s.length≤5999)&&(if s.getD 0 0=45 then Al (s.drop 1)else Al s))=true:=hs;rw[ze,decide_eq_true_eq]at hs;obtain⟨hl,hs⟩:=hs;have fin:∀D,B7 s=D→∀ob,Af O6 s (.agg [.dat i64 (Cq D),.dat (.nlist u64) (Cp D)]) ob:=by
  rintro D rfl ob;exact zY rfl rfl rfl
 have fin0:B7 s=0→∀ob v,(v=.agg [.dat i64 0,.nil]∨v=.agg [.dat i64 (D2 ((0:Int),[])),.dat (.nlist u64) (D3 ((0:Int),[]))])→Af O6 s v ob:=by
  rintro h ob v (rfl|rfl)
  ·refine zY rfl rfl ?_;show((0:Int),([]:List Int))=(Cq (B7 s),Cp (B7 s));rw[h];rfl
  ·refine zY rfl rfl ?_;show CV ((0:Int),([]:List Int))=(Cq (B7 s),Cp (B7 s));rw[h];rfl
 refine zQ (Am s) ?_;conv=>zeta
 cases s with
 |nil=>
  refine zq (by decide) (zq (by decide) (zm (A3 ..) (zq (by decide) (zh (fin0 rfl _ _ (.inl rfl))))))
 |cons c r=>
  have ht:(c::r).take 1=[c]:=rfl;have g0:(c::r).getD 0 0=c:=rfl;rw[g0]at hs;have e:(List.drop 1 (c::r)).take (ym (c::r).length 1)=r:=by show r.take ((r.length+1)-1)=r;rw[yt];exact zN
  have b1:decide (((c::r).length:Int)≥1)=true:=decide_eq_true (by simp;omega);have b2:decide (1≤(c::r).length)=true:=decide_eq_true (by simp);rw[ht,e];refine zc b1 (zc b2 (zc b1 (zc b2 (zo (fun d=>?_) (fun d=>?_)))))
  ·have hc:c=45:=by simpa using d
   rw[if_pos hc]at hs;rw[d];have hr:B7 (c::r)= -Az 0 r:=by unfold B7;rw[g0,if_pos hc];rfl
   refine zc (by simp) (Aj true r (by simp at hl;omega) hs (fin _ (by rw[hr,if_pos rfl])) (fun h0=>fin0 (by rw[hr,h0];rfl)))
  ·have hc:c≠45:=by rintro rfl;exact absurd d (by decide)
   rw[if_neg hc]at hs;rw[d];have hr:B7 (c::r)=Az 0 (c::r):=by unfold B7;rw[g0,if_neg hc]
   exact Aj false (c::r) hl hs (fin _ (by rw[hr,if_neg (by decide)])) (fun h0=>by cases h0)
end T153
end Go.Pe
end
section
namespace Go.Pe
open Sp
open Go.Det
namespace T83
theorem loop{Q:PV→Ob→Prop}(l:List Int)(hl:l.length≤1000000):∀(r:List Int) (i:Nat),l.drop i=r→i≤l.length→Q (.dat i64 (qv r)) []→Ends IT (L1 l ((l.length:Int)) i) Q
 |[],i,h,hi,hq=>by
  refine zm (As ..) ?_;conv=>zeta
  have:¬i<l.length:=by
   intro h1;have:=List.drop_eq_getElem_cons h1;rw[h]at this;cases this
  have he:i=l.length:=by omega
  subst he;simpa [qv]using hq
 |x::r,i,h,hi,hq=>by
  obtain⟨h1,h2,h3⟩:=drop_cons (d:=0) h;refine zm (As ..) ?_;conv=>zeta
  rw[Kd,if_pos (by simp;omega),Kd,if_pos (by simp;omega),Kd];simp only[zj,h2];by_cases hx:x=0
  ·subst hx;rw[if_neg (by simp),wr _ (by omega) (by omega)];exact loop l hl r (i+1) h3 h1 (by simpa [qv]using hq)
  ·rw[if_pos (by simpa using hx)];simpa [qv,hx]using hq
theorem ok:Ae AT 83 Nz:=by
 refine Av (X:=IT) rfl EP (d:=9) (by kernel_rfl) (by kernel_rfl) rfl (fun l hl=>?_) (Ad (by kernel_rfl));refine zQ (Am l) ?_;conv=>zeta
 exact loop l (by simpa [Nz]using hl) l 0 rfl (z7 _) (zY rfl rfl rfl)
end T83
theorem T85.ok:Ae AT 85 TK:=by
 refine Av (X:=IT) rfl EP (d:=9) (by kernel_rfl) (by kernel_rfl) rfl (fun⟨c,e⟩ _=>?_) (Ad (by kernel_rfl));refine zQ (T85.Am c e) ?_;conv=>zeta
 have key:∀x:Int,x=P4 c e→Af TK (c,e) (.dat i64 x) []:=fun x hx=>zY rfl rfl hx
 simp only[Kd,XT];cases c
 ·exact key _ rfl
 ·exact key _ rfl
theorem iJ:∀g sp,KT.sp g=some sp→Ae AT g sp:=
 Aa T83.ok (Aa T85.ok (Aa T149.ok (Aa T150.ok (Aa T151.ok (Aa T152.ok (Aa T153.ok (Aa T154.ok (Aa T105n.ok (fun g sp h=>by cases h)))))))))
theorem He{s:List UInt8}(h:AR s=true):s≠[]∧Al s=true:=by
 unfold AR at h;rw[ze,ze,decide_eq_true_eq]at h;exact h.1
theorem J6{s:List UInt8}(h:Al s=true)(hl:s.length≤5999):D7 s=true∧B7 s=Az 0 s:=by
 have h0:s.getD 0 0≠45:=by
  cases s with
  |nil=>decide
  |cons c r=>
   unfold Al at h;rw[zM,ze]at h;have:=CJ h.1;rintro he;have he:c=45:=he;subst he;exact absurd this (by decide)
 unfold D7 B7;rw[if_neg h0,if_neg h0,h,qp];exact⟨decide_eq_true hl,rfl⟩
theorem nK{a b L:Int}(ha:0≤a)(hb:0≤b)(h1:a<L)(h2:b<L):0≤qi a b∧qi a b<L:=by
 rw[E3];obtain⟨x,rfl⟩:=zZ ha;obtain⟨y,rfl⟩:=zZ hb;have e:yr (x:Int) (y:Int)=Nat.gcd x y:=rfl;rw[e];refine⟨Int.natCast_nonneg _,?_⟩;rcases yb x with h|h
 ·subst h;rw[Nat.gcd_zero_left];exact h2
 ·have:=Nat.gcd_le_left y h;omega
namespace T77
variable {Q:PV→Ob→Prop}
def E(A B:List UInt8)(br form:Bool):Int:=if form=false then 1 else if 600<A.length∨600<B.length then 4 else if br=true∧qi (Az 0 A) (Az 0 B)≠1 then 1 else 0
theorem EN(A B:List UInt8)(br:Bool)(hA:Al A=true)(hB:br=true→Al B=true)(lA:A.length≤600)(lB:B.length≤600)(hq:∀ob,Q (.dat i64 (if br=true∧qi (Az 0 A) (Az 0 B)≠1 then 1 else 0)) ob):Ends KT (L8 A B br) Q:=by
 refine zm (I5 ..) (zo (fun c=>?_) (fun c=>?_))
 ·have hB:=hB c;obtain⟨r1,r2⟩:=J6 hA (by omega);obtain⟨r3,r4⟩:=J6 hB (by omega);have bA:=Bb hA;have bB:=Bb hB;have uA:Az 0 A<(10:Int)^(6000:Nat):=zu bA.2 (AI (by decide) (by omega));have uB:Az 0 B<(10:Int)^(6000:Nat):=zu bB.2 (AI (by decide) (by omega));have e1:CT A=Cq (Az 0 A):=by unfold CT;rw[r2]
  have e2:C0 A=Cp (Az 0 A):=by unfold C0;rw[r2]
  have e3:CT B=Cq (Az 0 B):=by unfold CT;rw[r4]
  have e4:C0 B=Cp (Az 0 B):=by unfold C0;rw[r4]
  have g1:LM (Cq (Az 0 A),Cp (Az 0 A)) (Cq (Az 0 B),Cp (Az 0 B))=Cq (qi (Az 0 A) (Az 0 B)):=by
   unfold LM;rw[Kz,Kz]
  have g2:Mh (Cq (Az 0 A),Cp (Az 0 A)) (Cq (Az 0 B),Cp (Az 0 B))=Cp (qi (Az 0 A) (Az 0 B)):=by
   unfold Mh;rw[Kz,Kz]
  obtain⟨l1,l2⟩:=nK bA.1 bB.1 uA uB;have ec:X4 (Cq (qi (Az 0 A) (Az 0 B)),Cp (qi (Az 0 A) (Az 0 B))) ((1:Int),B1 (1:Int))=BW (qi (Az 0 A) (Az 0 B)) 1:=by
   unfold X4;rw[Kz,DT,Ec]
  rw[e1,e2,e3,e4,g1,g2,ec];have j1:A5 ((1:Int),B1 (1:Int))=true:=by rw[DT];decide
  refine zc r1 (zc r3 (zc (Ac (Fa (FL bA.1 uA)) (Fa (FL bB.1 uB))) (zc rfl (zc (Ac (Fa (FL l1 l2)) j1) ?_))));refine zm (vC ..) (zc rfl (zh ?_));generalize qi (Az 0 A) (Az 0 B)=g at*;have:P4 (BW g 1 !=0) 1=if br=true∧g≠1 then 1 else 0:=by
   unfold BW P4;by_cases h:g=1
   ·subst h;rw[c];rfl
   ·have x3:(if br=true∧g≠1 then(1:Int)else 0)=1:=if_pos ⟨c,h⟩;rw[x3];rcases Int.lt_or_gt_of_ne h with q|q
    ·rw[if_pos q];rfl
    ·rw[if_neg (by omega),if_pos q];rfl
  rw[this];exact hq _
 ·refine zm qX (zc rfl (zh ?_));rw[if_neg (by rw[c];simp)]at hq;exact hq _
theorem Cd(A B:List UInt8)(br form c d:Bool)(hc:c= !form)(hd:d=true↔600<A.length∨600<B.length)(hf:form=true→Al A=true∧(br=true→Al B=true))(hq:∀ob,Q (.dat i64 (E A B br form)) ob):Ends KT (L7 A B br (qv [P4 c 1,P4 d 4])) Q:=by
 subst hc;unfold E at hq;cases form with
 |false=>
  refine zm (FT ..) (zc ?_ (zh (hq _)));cases d<;>rfl
 |true=>
  rw[if_neg (by decide)]at hq;cases d with
  |true=>
   rw[if_pos (hd.1 rfl)]at hq;exact zm (FT ..) (zc rfl (zh (hq _)))
  |false=>
   have hn:¬(600<A.length∨600<B.length):=fun h=>by have:=hd.2 h;cases this
   rw[if_neg hn]at hq;obtain⟨f1,f2⟩:=hf rfl;exact zm (FT ..) (zq rfl (EN A B br f1 f2 (by omega) (by omega) hq))
theorem BP(A B:List UInt8)(br form:Bool)(hf:form=true→Al A=true∧(br=true→Al B=true))(hq:∀ob,Q (.dat i64 (E A B br form)) ob):Ends KT (L4 A B br form) Q:=by
 refine zm (Dp ..) (zc rfl (zo (fun c=>zc rfl (zc rfl ?_)) (fun c=>zc rfl (zc rfl ?_))))
 ·have c:=of_decide_eq_true c;exact Cd A B br form _ _ rfl ⟨fun _=>.inl (by omega),fun _=>rfl⟩ hf hq
 ·have c:=of_decide_eq_false c;exact Cd A B br form _ _ rfl ⟨fun h=>.inr (by have:=of_decide_eq_true h;omega),fun h=>decide_eq_true (by omega)⟩ hf hq
theorem Co(A B:List UInt8)(br:Bool)(hq:∀ob,Q (.dat i64 (E A B br false)) ob):Ends KT (L5 A B br) Q:=by
 refine zm (Gr ..) (zc rfl (zo (fun c=>zc rfl (zc rfl ?_)) (fun c=>zc rfl (zc rfl ?_))))
 ·have c:=of_decide_eq_true c;exact Cd A B br false _ _ rfl ⟨fun _=>.inl (by omega),fun _=>rfl⟩ (fun h=>by cases h) hq
 ·have c:=of_decide_eq_false c;exact Cd A B br false _ _ rfl ⟨fun h=>.inr (by have:=of_decide_eq_true h;omega),fun h=>decide_eq_true (by omega)⟩ (fun h=>by cases h) hq
theorem Em(A B:List UInt8)(br:Bool)(hf:Al A=true∧(br=true→Al B=true))(hq:∀ob,Q (.dat i64 (E A B br true)) ob):Ends KT (L6 A B br) Q:=by
 refine zm (Hg ..) (zc rfl (zo (fun c=>zc rfl (zc rfl ?_)) (fun c=>zc rfl (zc rfl ?_))))
 ·have c:=of_decide_eq_true c;exact Cd A B br true _ _ rfl ⟨fun _=>.inl (by omega),fun _=>rfl⟩ (fun _=>hf) hq
 ·have c:=of_decide_eq_false c;exact Cd A B br true _ _ rfl ⟨fun h=>.inr (by have:=of_decide_eq_true h;omega),fun h=>decide_eq_true (by omega)⟩ (fun _=>hf) hq
theorem S4{F:Tr}(A B:List UInt8)(br:Bool)(lB:B.length≤1000000)(hA:Al A=true)(form:Bool)(hform:form=(!br||(AR B&&decide (B≠[48])&&decide (B≠[49]))))(hq:∀ob,Q (.dat i64 (E A B br form)) ob)
  (h:(br=true→Ends KT (.ite (decide (B.length≤1000000)) (.ite (AR B) (.ite (!B==[(48:UInt8)]) (L4 A B br (!B==[(49:UInt8)])) (L5 A B br)) (L5 A B br)) .fail) Q)→(br=false→form=true)→Ends KT F Q):Ends KT F Q:=by
 refine h (fun hb=>zc (decide_eq_true lB) ?_) (fun hb=>by rw[hform,hb];rfl);rw[hb]at hform;refine zo (fun c=>zo (fun d=>?_) (fun d=>?_)) (fun c=>?_)
 ·have d:B≠[48]:=by simpa using d
  have e:form=(!B==[(49:UInt8)]):=by
   rw[hform,c,decide_eq_true d];by_cases h:B=[49]
   ·rw[h];rfl
   ·rw[decide_eq_true h];simp[h]
  rw[←e];exact BP A B br form (fun _=>⟨hA,fun _=>(He c).2⟩) hq
 ·have d:B=[48]:=by simpa using d
  have e:form=false:=by rw[hform,decide_eq_false (fun h=>h d)];simp
  rw[e]at hq;exact Co A B br hq
 ·have e:form=false:=by rw[hform,c];simp
  rw[e]at hq;exact Co A B br hq
theorem CP(s:List UInt8):(Ax s).length≤s.length∧(zw s).length≤s.length:=by
 unfold Ax zw;cases s.findIdx? (fun x=>x==47)with
 |none=>simp
 |some i=>simp;omega
theorem XI(s:List UInt8):(AY s).length≤s.length:=by
 unfold AY;split
 ·simp
 ·exact zV _
theorem ok:Ae AT 77 D6:=by
 refine Av (X:=KT) rfl iJ (d:=9) (by kernel_rfl) (by kernel_rfl) (by kernel_rfl) (fun(a:List UInt8) hl=>?_) (Ad (by kernel_rfl));have hl:a.length≤1000000:=of_decide_eq_true hl;have l1:=XI a;obtain⟨l2,l3⟩:=CP (AY a);have hq:∀form,form=FQ a→∀ob,Af D6 a (.dat i64 (E (Ax (AY a)) (zw (AY a)) (Bk (AY a)) form)) ob:=by
  rintro form rfl ob;exact zY rfl rfl rfl
 have hfm:FQ a=(AR (Ax (AY a))&&(!qw a||decide (Ax (AY a)≠[48]))&&(!Bk (AY a)||(AR (zw (AY a))&&decide (zw (AY a)≠[48])&&decide (zw (AY a)≠[49])))):=rfl;refine zQ (Am a) (zc (Ac (decide_eq_true rfl) (decide_eq_true hl)) (zc (Ac (decide_eq_true rfl) (decide_eq_true (by omega))) (zc (decide_eq_true (by omega)) ?_)));generalize Ax (AY a)=A at*;generalize zw (AY a)=B at*;generalize Bk (AY a)=br at*;refine zo (fun c=>?_) (fun c=>?_)
 ·have hA:=(He c).2;refine zo (fun d=>?_) (fun d=>?_)
  ·have ef:FQ a=(!br||(AR B&&decide (B≠[48])&&decide (B≠[49]))):=by rw[hfm,c,d];rfl
   refine S4 A B br (by omega) hA (FQ a) ef (hq _ rfl) (fun h1 h2=>zm (As ..) (zo h1 (fun e=>?_)));have h3:=h2 e;exact Em A B br ⟨hA,fun h=>by rw[e]at h;cases h⟩ (hq true h3.symm)
  ·by_cases hz:A=[48]
   ·have ef:FQ a=false:=by rw[hfm,d,decide_eq_false (fun h=>h hz)];simp
    have e8:(!A==[(48:UInt8)])=false:=by rw[hz];rfl
    rw[e8];refine zm (A3 ..) (zo (fun e=>zq rfl (Co A B br (hq false ef.symm))) (fun e=>BP A B br false (fun h=>by cases h) (hq false ef.symm)))
   ·have e8:(!A==[(48:UInt8)])=true:=by simp[hz]
    have ef:FQ a=(!br||(AR B&&decide (B≠[48])&&decide (B≠[49]))):=by rw[hfm,c,d,decide_eq_true hz];rfl
    rw[e8];refine S4 A B br (by omega) hA (FQ a) ef (hq _ rfl) (fun h1 h2=>zm (A3 ..) (zo (fun e=>zc rfl (h1 e)) (fun e=>?_)));have h3:=h2 e;exact BP A B br true (fun _=>⟨hA,fun h=>by rw[e]at h;cases h⟩) (hq true h3.symm)
 ·have ef:FQ a=false:=by rw[hfm,c];simp
  exact zm (C9 ..) (zo (fun e=>Co A B br (hq false ef.symm)) (fun e=>Co A B br (hq false ef.symm)))
end T77
end Go.Pe
end
section
namespace Go.Pe
open Sp
open Go.Det
theorem DH(c:UInt8)(r:List UInt8):Ax (c::r)=if c=47 then[]else c::Ax r:=by
 unfold Ax;rw[yv];by_cases h:c=47
 ·subst h;rfl
 ·rw[if_neg (by simpa using h),if_neg h];cases r.findIdx? (fun x=>x==47)<;>rfl
namespace T89
theorem Aj{Q:PV→Ob→Prop}(s:List UInt8)(hl:s.length≤1000000):∀(r:List UInt8) (i:Nat),s.drop i=r→i≤s.length→(∀ob,Q (.dat i64 (((i+(Ax r).length:Nat)):Int)) ob)→Ends IT (L1 s i) Q
 |[],i,h,hi,hq=>by
  have he:i=s.length:=drop_nil h hi;subst he;exact zm (As ..) (zq (by simp) (zh (hq _)))
 |c::r,i,h,hi,hq=>by
  obtain⟨h1,h2,h3⟩:=drop_cons (d:=0) h;have e3:zg .i64 ((i:Int)+1)=((i+1:Nat):Int):=by rw[wr _ (by omega) (by omega)];omega
  rw[DH]at hq;refine zm (As ..) (zc (by simp;omega) ?_);rw[zj,h2,e3];refine zc (by simp;omega) (zo (fun d=>?_) (fun d=>?_))
  ·have hc:c=47:=by
    have:(c.toNat:Int)=47:=by simpa using d
    exact zU.1 (by show _=47;omega)
   rw[if_pos hc]at hq;exact zh (hq _)
  ·have hc:c≠47:=by rintro rfl;exact absurd d (by decide)
   rw[if_neg hc]at hq;refine Aj s hl r (i+1) h3 h1 (fun ob=>?_);have:=hq ob;rw[qc]at this;rw[show i+1+(Ax r).length=i+((Ax r).length+1)by omega];exact this
theorem ok:Ae AT 89 K2:=by
 refine Av (X:=IT) rfl EP (d:=9) (by kernel_rfl) (by kernel_rfl) (by kernel_rfl) (fun(s:List UInt8) hl=>?_) (Ad (by kernel_rfl));have hl:s.length≤1000000:=of_decide_eq_true hl;refine zQ (Am s) (Aj s hl s 0 rfl (z7 _) (fun ob=>zY rfl rfl ?_));rw[Nat.zero_add];rfl
end T89
namespace T90
variable {Q:PV→Ob→Prop}
theorem Tf{s:List UInt8}{r:List UInt8}{c:UInt8}{i:Nat}(h:s.drop i=c::r):Al (s.drop i)=(BJ c&&Al (s.drop (i+1))):=by
 obtain⟨_,_,h3⟩:=drop_cons (d:=0) h;rw[h3,h];rfl
theorem Aj(s:List UInt8)(hl:s.length≤1000000):∀(r:List UInt8) (i:Nat),s.drop i=r→i≤s.length→(∀ob,Q (.bl (Al (s.drop i))) ob)→Ends IT (L1 s s i) Q
 |[],i,h,hi,hq=>by
  have he:i=s.length:=drop_nil h hi;rw[h]at hq;subst he;exact zm (As ..) (zq (by simp) (zh (hq _)))
 |c::r,i,h,hi,hq=>by
  obtain⟨h1,h2,h3⟩:=drop_cons (d:=0) h;have e3:zg .i64 ((i:Int)+1)=((i+1:Nat):Int):=by rw[wr _ (by omega) (by omega)];omega
  rw[Tf h]at hq;refine zm (As ..) (zc (by simp;omega) ?_);rw[zj,h2,e3];refine zc (by simp;omega) (zo (fun d=>?_) (fun d=>zc (by simp;omega) (zo (fun e=>?_) (fun e=>?_))))
  ·have d:=of_decide_eq_true d;have hn:BJ c=false:=by unfold BJ;rw[decide_eq_false (by omega)];rfl
   rw[hn]at hq;exact zh (hq _)
  ·have e:=of_decide_eq_true e;have hn:BJ c=false:=by unfold BJ;rw[decide_eq_false (p:=c.toNat≤57) (by omega),Bool.and_false]
   rw[hn]at hq;exact zh (hq _)
  ·have d:=of_decide_eq_false d;have e:=of_decide_eq_false e;have hn:BJ c=true:=by unfold BJ;exact Ac (decide_eq_true (by omega)) (decide_eq_true (by omega))
   rw[hn,yc]at hq;exact Aj s hl r (i+1) h3 h1 hq
theorem AU(s:List UInt8)(hl:s.length≤1000000):∀(r:List UInt8) (i:Nat),s.drop i=r→i≤s.length→(∀ob,Q (.bl (Al (s.drop i))) ob)→Ends IT (L2 s s i) Q
 |[],i,h,hi,hq=>by
  have he:i=s.length:=drop_nil h hi;rw[h]at hq;subst he;exact zm (A3 ..) (zq (by simp) (zh (hq _)))
 |c::r,i,h,hi,hq=>by
  obtain⟨h1,h2,h3⟩:=drop_cons (d:=0) h;have e3:zg .i64 ((i:Int)+1)=((i+1:Nat):Int):=by rw[wr _ (by omega) (by omega)];omega
  rw[Tf h]at hq;refine zm (A3 ..) (zc (by simp;omega) ?_);rw[zj,h2,e3];refine zc (by simp;omega) (zo (fun d=>?_) (fun d=>zc (by simp;omega) (zo (fun e=>?_) (fun e=>?_))))
  ·have d:=of_decide_eq_true d;have hn:BJ c=false:=by unfold BJ;rw[decide_eq_false (by omega)];rfl
   rw[hn]at hq;exact zh (hq _)
  ·have e:=of_decide_eq_true e;have hn:BJ c=false:=by unfold BJ;rw[decide_eq_false (p:=c.toNat≤57) (by omega),Bool.and_false]
   rw[hn]at hq;exact zh (hq _)
  ·have d:=of_decide_eq_false d;have e:=of_decide_eq_false e;have hn:BJ c=true:=by unfold BJ;exact Ac (decide_eq_true (by omega)) (decide_eq_true (by omega))
   rw[hn,yc]at hq;exact AU s hl r (i+1) h3 h1 hq
theorem ok:Ae AT 90 K1:=by
 refine Av (X:=IT) rfl EP (d:=9) (by kernel_rfl) (by kernel_rfl) (by kernel_rfl) (fun(s:List UInt8) hl=>?_) (Ad (by kernel_rfl));have hl:s.length≤1000000:=of_decide_eq_true hl;have hq:∀b ob,b=AR s→Af K1 s (.bl b) ob:=fun b ob hb=>zY rfl rfl hb
 refine zQ (Am s) ?_;conv=>zeta
 cases s with
 |nil=>exact zc rfl (zh (hq _ _ rfl))
 |cons c r=>
  have g0:(c::r).getD 0 0=c:=rfl;rw[g0];refine zq (by simp;omega) (zo (fun d=>zc (by simp) (zo (fun e=>zh (hq _ _ ?_)) (fun e=>?_))) (fun d=>?_))
  ·have d:=of_decide_eq_true d;have hc:c=48:=by
    have:(c.toNat:Int)=48:=by simpa using e
    exact zU.1 (by show _=48;omega)
   have hr:r≠[]:=by rintro rfl;simp at d
   unfold AR;rw[g0,decide_eq_false (p:=c≠48) (fun h=>h hc),decide_eq_false (p:=c::r=[48]) (by intro h;simp at h;exact hr h.2)];simp
  ·have hc:c≠48:=by rintro rfl;exact absurd e (by decide)
   refine Aj (c::r) hl (c::r) 0 rfl (z7 _) (fun ob=>hq _ _ ?_);unfold AR;rw[g0,decide_eq_true hc];simp
  ·have d:=of_decide_eq_false d;have hr:r=[]:=by
    have:r.length=0:=by simp at d;omega
    exact zR.1 this
   subst hr;refine AU [c] hl [c] 0 rfl (z7 _) (fun ob=>hq _ _ ?_);unfold AR;rw[g0];by_cases hc:c=48
   ·subst hc;rfl
   ·rw[decide_eq_true hc];simp
end T90
theorem kZ:∀g sp,jI.sp g=some sp→Ae AT g sp:=Aa T168.ok (fun g sp h=>by cases h)
namespace T107
variable {Q:PV→Ob→Prop}
theorem NP{v:Int}(hv: -9223372036854775808≤v∧v<9223372036854775808):∃q d:Nat,Ag v=d+1000000000*q∧d<1000000000∧zg .i64 (Int.tdiv v 1000000000)=(if v<0 then -(q:Int)else q)∧Int.tmod v 1000000000=(if v<0 then -(d:Int)else d):=by
 refine⟨v.natAbs/1000000000,v.natAbs % 1000000000,by rw[Ai];omega,by omega,?_,?_⟩
 ·by_cases h:v<0
  ·have:=Int.neg_tdiv (-v) 1000000000;rw[Int.neg_neg]at this;rw[this,yw (by omega),if_pos h,wr _ (by omega) (by omega)];omega
  ·rw[yw (by omega),if_neg h,wr _ (by omega) (by omega)];omega
 ·by_cases h:v<0
  ·have:=Int.neg_tmod (-v) 1000000000;rw[Int.neg_neg]at this;rw[this,yx (by omega),if_pos h];omega
  ·rw[yx (by omega),if_neg h];omega
theorem AU(neg:Bool)(D:Int)(hq:∀(w:List Int) ob,Au zx w→z8 zx w=D→Q (.agg [.dat .bool (B4 neg w),.dat li (Ar w)]) ob):∀(f:Nat) (v:Int) (o1:List Int),Ag v<f→(-9223372036854775808≤v∧v<9223372036854775808)→o1.length≤100→(Ag v≠0→Ag v*1000000000^o1.length≤9223372036854775808)→Au zx o1→z8 zx o1+(zx:Int)^o1.length*Ag v=D→Ends jI (L2 v o1.length neg o1) Q
 |0,v,o1,hf,hv,ho,hb,hd,he=>by
  have:=AE v;omega
 |f+1,v,o1,hf,hv,ho,hb,hd,he=>by
  obtain⟨q,d,s1,s2,s3,s4⟩:=NP hv;by_cases h0:v=0
  ·subst h0;have e0:Ag 0=0:=rfl;rw[e0,Int.mul_zero,Int.add_zero]at he;refine zm (A3 ..) (zq rfl ?_);rw[zN];exact zc (by simp;omega) (zh (hq _ _ hd he))
  ·have hne:Ag v≠0:=by rw[Ai];omega
   have hbb:=hb hne;have ho10:o1.length≤10:=by
    rcases Nat.lt_or_ge 10 o1.length with g|g
    ·exfalso;have x1:(1000000000:Int)^11≤1000000000^o1.length:=AI (by decide) g;have x2:(9223372036854775808:Int)<1000000000^11:=by decide
     have x3:=zO (show 1≤Ag v by have:=AE v;omega) (show(0:Int)≤1000000000^o1.length by omega);omega
    ·exact g
   have eq:Ag (if v<0 then -(q:Int)else q)=q:=by rw[Ai];split<;>omega
   have go:Ends jI (L2 (if v<0 then -(q:Int)else q) (qe o1.length 1) neg (o1++[(d:Int)])) Q:=by
    have:=AU neg D hq f (if v<0 then -(q:Int)else q) (o1++[(d:Int)]) (by rw[eq];omega) (by have:=Ai v;split<;>omega) (by simp;omega) (fun _=>by
     rw[eq,zn];show(q:Int)*1000000000^(o1.length+1)≤_;rw[ya, ←Int.mul_assoc,Int.mul_right_comm];have x1:=zO (show(q:Int)*1000000000≤Ag v by omega) (show(0:Int)≤1000000000^o1.length from zz (AM (by decide) _));omega) (EM hd (by omega)) (by
     rw[eq,B2,zn];show z8 zx o1+(zx:Int)^o1.length*(d:Int)+(zx:Int)^(o1.length+1)*(q:Int)=D;rw[I2,qq, ←Int.mul_add, ←he,s1])
    rw[zn]at this;exact this
   refine zm (A3 ..) (zc (by simpa using h0) (zc rfl ?_));rw[s3,s4];refine zo (fun c=>zc (by simp;omega) (zc rfl ?_)) (fun c=>zc (by simp;omega) (zc rfl ?_))
   ·have c:=of_decide_eq_true c;have hn:v<0:=by split at c<;>omega
    rw[if_pos hn]at c;rw[if_pos hn,if_pos hn];rw[if_pos hn]at go;have e5:zg .i64 (0 - -(d:Int))=(d:Int):=by rw[wr _ (by omega) (by omega)];omega
    rw[e5];exact go
   ·have c:=of_decide_eq_false c;have e5:(if v<0 then -(d:Int)else(d:Int))=(d:Int):=by split at c<;>split<;>omega
    rw[e5];exact go
theorem ok:Ae AT 107 J7:=by
 refine Av (X:=jI) rfl kZ (d:=9) (by kernel_rfl) (by kernel_rfl) (by kernel_rfl) (fun(v:Int) hv=>?_) (Ad (by kernel_rfl));have hv:=Ce (n:=v) hv;have fin:∀(w:List Int) ob,Au zx w→z8 zx w=Ag v→Af J7 v (.agg [.dat .bool (B4 (decide (v<0)) w),.dat li (Ar w)]) ob:=by
  intro w ob hd hw;refine zY rfl rfl ?_;have:=K8 (neg:=decide (v<0)) hd hw;have e:(if decide (v<0)=true then -Ag v else Ag v)=v:=by
   rw[Ai];by_cases h:v<0
   ·rw[if_pos (decide_eq_true h)];omega
   ·rw[if_neg (by simpa using h)];omega
  rw[e]at this;exact this
 obtain⟨q,d,s1,s2,s3,s4⟩:=NP hv;have hn:=AE v;refine zQ (Am v) ?_;conv=>zeta
 by_cases h0:v=0
 ·subst h0;exact zm (As ..) (zq rfl (zc rfl (zh (fin [] _ (fun x hx=>by cases hx) rfl))))
 ·have eq:Ag (if v<0 then -(q:Int)else q)=q:=by rw[Ai];split<;>omega
  have go:Ends jI (L2 (if v<0 then -(q:Int)else q) 1 (decide (v<0)) [(d:Int)]) (Af J7 v):=by
   refine AU (decide (v<0)) (Ag v) fin (q+1) _ [(d:Int)] (by rw[eq];omega) (by have:=Ai v;split<;>omega) (by simp) (fun _=>?_) (fun x hx=>by rw[yy]at hx;subst hx;show 0≤_∧_<(1000000000:Int);omega) ?_
   ·rw[eq];show(q:Int)*1000000000^1≤_;have:=Ai v;omega
   ·rw[eq,DS,s1];show(d:Int)+(1000000000:Int)^1*(q:Int)=_;omega
  refine zm (As ..) (zc (by simpa using h0) (zc rfl ?_));rw[s3,s4];refine zo (fun c=>zc rfl (zc rfl ?_)) (fun c=>zc rfl (zc rfl ?_))
  ·have c:=of_decide_eq_true c;have hn:v<0:=by split at c<;>omega
   rw[if_pos hn]at c;rw[if_pos hn,if_pos hn];rw[if_pos hn]at go;have e5:zg .i64 (0 - -(d:Int))=(d:Int):=by rw[wr _ (by omega) (by omega)];omega
   rw[e5];exact go
  ·have c:=of_decide_eq_false c;have e5:(if v<0 then -(d:Int)else(d:Int))=(d:Int):=by split at c<;>split<;>omega
   rw[e5];exact go
end T107
theorem gY:∀g sp,yB.sp g=some sp→Ae AT g sp:=Aa T89.ok (Aa T163.ok (Aa T107.ok (fun g sp h=>by cases h)))
theorem BC:∀(s:List UInt8),Ax s=s.take (Ax s).length∧(Bk s=true→(Ax s).length<s.length∧zw s=s.drop ((Ax s).length+1))∧(Bk s=false→Ax s=s∧zw s=[])
 |[]=>⟨rfl,(fun h=>(by cases h)),fun _=>⟨rfl,rfl⟩⟩
 |c::r=>by
  obtain⟨h1,h2,h3⟩:=BC r;have hB:zw (c::r)=if c=47 then r else zw r:=by
   unfold zw;rw[yv];by_cases h:c=47
   ·subst h;rfl
   ·rw[if_neg (by simpa using h),if_neg h];cases r.findIdx? (fun x=>x==47)<;>rfl
  have hC:Bk (c::r)=(decide (c=47)||Bk r):=by
   unfold Bk;rw[List.any_cons];congr 1
  rw[DH,hB,hC];by_cases h:c=47
  ·rw[if_pos h,if_pos h,decide_eq_true h];exact⟨rfl,(fun _=>⟨by simp,rfl⟩),fun h=>by cases h⟩
  ·rw[if_neg h,if_neg h,decide_eq_false h];refine⟨?_,fun g=>?_,fun g=>?_⟩
   ·rw[qc,List.take_succ_cons, ←h1]
   ·obtain⟨k1,k2⟩:=h2 g;refine⟨by simp;omega,?_⟩;rw[qc,List.drop_succ_cons];exact k2
   ·obtain⟨k1,k2⟩:=h3 g;exact⟨by rw[k1],k2⟩
theorem T91.ok:Ae AT 91 RT:=by
 refine Av (X:=yB) rfl gY (d:=9) (by kernel_rfl) (by kernel_rfl) (by kernel_rfl) (fun(a:List UInt8) ha=>?_) (Ad (by kernel_rfl));have ha:(D7 (Ax a)&&D7 (zw a)&&decide (a.length≤5999))=true:=ha;rw[ze,ze,decide_eq_true_eq]at ha;obtain⟨⟨ra,rb⟩,hl⟩:=ha;obtain⟨c1,c2,c3⟩:=BC a;have es:AV a=((Ax a).length:Int):=rfl;have hle:(Ax a).length≤a.length:=(T77.CP a).1;refine zQ (T91.Am a) (zc (decide_eq_true (by omega)) (zo (fun c=>?_) (fun c=>?_)))
 ·have c:(Ax a).length=a.length:=by
   have:((Ax a).length:Int)=(a.length:Int):=by simpa [es]using c
   omega
  have hc:Bk a=false:=by
   cases h:Bk a with
   |false=>rfl
   |true=>have:=(c2 h).1;omega
  obtain⟨k1,k2⟩:=c3 hc;rw[k1]at ra;refine zc ra (zc rfl (zh (zY rfl rfl ?_)));show((EL a,EK a),(false,Sp.rW 1))=((Bx a,Bp a),(Bg a,Bd a));unfold Bx Bp Bg Bd A8 AF EL EK;rw[k1,hc];rfl
 ·have hlt:(Ax a).length<a.length:=by
   have:((Ax a).length:Int)≠(a.length:Int):=by simpa [es]using c
   omega
  have hc:Bk a=true:=by
   cases h:Bk a with
   |true=>rfl
   |false=>have:=(c3 h).1;rw[this]at hlt;omega
  obtain⟨k1,k2⟩:=c2 hc;have e1:zg .i64 (((Ax a).length:Int)+1)=(((Ax a).length+1:Nat):Int):=by rw[wr _ (by omega) (by omega)];omega
  have e2:(a.drop ((Ax a).length+1)).take (ym a.length ((Ax a).length+1))=a.drop ((Ax a).length+1):=zp (by rw[zk];exact zV _);rw[es,e1,zj,zj,e2, ←c1, ←k2];refine zc (by simp;omega) (zc (by simp;omega) (zc ra (zc rb (zh (zY rfl rfl ?_)))));show((EL (Ax a),EK (Ax a)),(EL (zw a),EK (zw a)))=((Bx a,Bp a),(Bg a,Bd a));unfold Bx Bp Bg Bd A8 AF EL EK;rw[hc];rfl
theorem iD:∀g sp,So.sp g=some sp→Ae AT g sp:=Aa T89.ok (Aa T90.ok (Aa T91.ok (Aa T92.ok (fun g sp h=>by cases h))))
namespace T24
variable {Q:PV→Ob→Prop}
theorem kM{g:Int}(h0:0≤g):BL g=[1]↔g=1:=by
 constructor
 ·intro h;have:=CH (b:=zx) (by decide) h0;have h:Sp.dg zx g=[1]:=h;rw[h]at this;rw[←this];rfl
 ·rintro rfl;rfl
theorem BP(s:List UInt8)(hA:Al (Ax s)=true)(hB:Bk s=true→Al (zw s)=true)(lA:(Ax s).length≤600)(lB:(zw s).length≤600)(hl:s.length≤5999)
  (hq:∀ob,Q (.dat i64 (if Bk s=true∧qi (Az 0 (Ax s)) (Az 0 (zw s))≠1 then 1 else 0)) ob):Ends So (L4 s (AV s)) Q:=by
 obtain⟨c1,c2,c3⟩:=BC s;have es:AV s=((Ax s).length:Int):=rfl;refine zm (Dp ..) ?_;conv=>zeta
 rw[es];refine zo (fun c=>?_) (fun c=>?_)
 ·have c:=of_decide_eq_true c;have hc:Bk s=true:=by
   cases h:Bk s with
   |true=>rfl
   |false=>have:=(c3 h).1;rw[this]at c;omega
  have hB:=hB hc;obtain⟨r1,r2⟩:=J6 hA (by omega);obtain⟨r3,r4⟩:=J6 hB (by omega);have bA:=Bb hA;have bB:=Bb hB;have tR:∀k:Nat,(10:Int)^k≤(zx:Int)^k:=by
   intro k;induction k with
   |zero=>exact qk _
   |succ k ih=>
    rw[ya,ya];have h1:=zO ih (show(0:Int)≤10 by decide);have h2:=zt (show(10:Int)≤(zx:Int)by decide) (zz (AM (b:=zx) (by decide) k));exact yq h1 h2
  have uA:Az 0 (Ax s)<(zx:Int)^600:=zu bA.2 (yq (tR _) (AI (by decide) lA));have uB:Az 0 (zw s)<(zx:Int)^600:=zu bB.2 (yq (tR _) (AI (by decide) lB));have e1:Bp s=BL (Az 0 (Ax s)):=by
   unfold Bp A8 Sp.rW;rw[r2,show Ag (Az 0 (Ax s))=Az 0 (Ax s)by rw[Ai];omega]
  have e2:Bd s=BL (Az 0 (zw s)):=by
   unfold Bd AF Sp.rW;rw[if_pos hc,r4,show Ag (Az 0 (zw s))=Az 0 (zw s)by rw[Ai];omega]
  obtain⟨n1,_,v1,l1⟩:=Gw (k:=600) bA.1 uA (by decide);obtain⟨n2,_,v2,l2⟩:=Gw (k:=600) bB.1 uB (by decide);have rat:Ho s=true:=by
   unfold Ho;rw[r1,r3];exact decide_eq_true hl
  rw[e1,e2];refine zc rat (zm (Gr ..) (zc (Ac (Ac (Ac n1 n2) (decide_eq_true (by omega))) (decide_eq_true (by omega))) ?_));have ec:Cc (BL (Az 0 (Ax s))) (BL (Az 0 (zw s)))=BL (qi (Az 0 (Ax s)) (Az 0 (zw s))):=by
   unfold Cc;rw[v1,v2]
  rw[ec];obtain⟨g0,_⟩:=nK bA.1 bB.1 uA uB;generalize qi (Az 0 (Ax s)) (Az 0 (zw s))=g at*;have h1:=kM g0;by_cases h:g=1
  ·rw[if_neg (fun x=>x.2 h)]at hq;rw[h1.2 h];exact zm (Hg ..) (zq rfl (zc rfl (zq rfl (zh (hq _)))))
  ·rw[if_pos ⟨hc,h⟩]at hq;have hne:BL g≠[1]:=fun x=>h (h1.1 x)
   refine zm (Hg ..) (zo (fun d=>zh (hq _)) (fun d=>?_));have d:(BL g).length=1:=by
    have:((BL g).length:Int)=1:=by simpa using d
    omega
   obtain⟨x,hx⟩:=List.length_eq_one_iff.1 d;rw[hx]at hne ⊢;have hx1:x≠1:=fun e=>hne (by rw[e])
   exact zc rfl (zc (by simpa using hx1) (zh (hq _)))
 ·have c:=of_decide_eq_false c;have hc:Bk s=false:=by
   cases h:Bk s with
   |false=>rfl
   |true=>have:=(c2 h).1;omega
  rw[if_neg (fun x=>by rw[hc]at x;cases x.1)]at hq;exact zh (hq _)
theorem AU(s:List UInt8)(hA:Al (Ax s)=true)(hl:s.length≤1000000)(hq:∀ob,Q (.dat i64 (T77.E (Ax s) (zw s) (Bk s) (!Bk s||(AR (zw s)&&decide (zw s≠[48])&&decide (zw s≠[49]))))) ob):Ends So (L2 s (AV s)) Q:=by
 obtain⟨c1,c2,c3⟩:=BC s;have es:AV s=((Ax s).length:Int):=rfl;have hle:=T77.CP s;have vD:(Bk s=true→Al (zw s)=true)→(∀ob,Q (.dat i64 (T77.E (Ax s) (zw s) (Bk s) true)) ob)→Ends So (L3 s (AV s)) Q:=by
  intro hB hq;unfold T77.E at hq;rw[if_neg (by decide)]at hq;have hlen:s.length=(Ax s).length+(if Bk s=true then 1+(zw s).length else 0):=by
   cases h:Bk s with
   |true=>obtain⟨k1,k2⟩:=c2 h;rw[if_pos rfl,k2,zk];omega
   |false=>obtain⟨k1,k2⟩:=c3 h;rw[if_neg (by decide),k1];rfl
  have hB0:Bk s=false→(zw s).length=0:=fun h=>by rw[(c3 h).2];rfl
  refine zm (C9 ..) ?_;conv=>zeta
  rw[es,wr ((s.length:Int)-((Ax s).length:Int)) (by omega) (by omega),wr _ (by omega) (by omega)];refine zo (fun c=>?_) (fun c=>zo (fun d=>?_) (fun d=>?_))
  ·have c:=of_decide_eq_true c;rw[if_pos (.inl (by omega))]at hq;exact zh (hq _)
  ·have c:=of_decide_eq_false c;have d:=of_decide_eq_true d;have:600<(zw s).length:=by split at hlen<;>omega
   rw[if_pos (.inr this)]at hq;exact zh (hq _)
  ·have c:=of_decide_eq_false c;have d:=of_decide_eq_false d;have hb:(zw s).length≤600:=by
    cases h:Bk s with
    |true=>rw[h,if_pos rfl]at hlen;omega
    |false=>have:=hB0 h;omega
   rw[if_neg (by omega)]at hq;exact BP s hA hB (by omega) hb (by split at hlen<;>omega) hq
 refine zm (A3 ..) ?_;conv=>zeta
 cases hc:Bk s with
 |false=>
  rw[hc]at hq;have hn:¬(AV s<(s.length:Int)):=by rw[es,(c3 hc).1];omega
  exact zq (decide_eq_false hn) (vD (fun h=>by rw[hc]at h;cases h) (by rw[hc];exact hq))
 |true=>
  rw[hc]at hq;obtain⟨k1,k2⟩:=c2 hc;have e1:zg .i64 (((Ax s).length:Int)+1)=(((Ax s).length+1:Nat):Int):=by rw[wr _ (by omega) (by omega)];omega
  have e2:(s.drop ((Ax s).length+1)).take (ym s.length ((Ax s).length+1))=s.drop ((Ax s).length+1):=zp (by rw[zk];exact zV _);rw[es,e1,zj,e2, ←k2];rw[es]at vD;have bad:(!true||(AR (zw s)&&decide (zw s≠[48])&&decide (zw s≠[49])))=false→∀ob,Q (.dat i64 1) ob:=by
   intro h ob;have:=hq ob;rw[h]at this;exact this
  refine zc (by simp;omega) (zc (by simp;omega) (zc (decide_eq_true (by omega)) (zo (fun d=>zh (bad ?_ _)) (fun d=>zc (by simp;omega) (zo (fun e=>zh (bad ?_ _)) (fun e=>zc (by simp;omega) (zo (fun f=>zh (bad ?_ _)) (fun f=>?_))))))))
  ·have d:AR (zw s)=false:=by simpa using d
   rw[d];rfl
  ·have e:zw s=[48]:=by simpa using e
   rw[decide_eq_false (p:=zw s≠[48]) (fun h=>h e)];simp
  ·have f:zw s=[49]:=by simpa using f
   rw[decide_eq_false (p:=zw s≠[49]) (fun h=>h f)];simp
  ·have d:AR (zw s)=true:=by simpa using d
   have e:zw s≠[48]:=by simpa using e
   have f:zw s≠[49]:=by simpa using f
   rw[d,decide_eq_true e,decide_eq_true f]at hq;exact vD (fun _=>(He d).2) (by rw[hc];exact hq)
theorem Aj(a s:List UInt8)(hs:s=AY a)(hl:a.length≤1000000)(hq:∀ob,Q (.dat i64 (AP a)) ob):Ends So (L1 a s) Q:=by
 obtain⟨c1,c2,c3⟩:=BC s;have es:AV s=((Ax s).length:Int):=rfl;have hsl:s.length≤a.length:=by rw[hs];exact T77.XI a
 have hle:=T77.CP s;have hE:AP a=T77.E (Ax s) (zw s) (Bk s) (AR (Ax s)&&(!qw a||decide (Ax s≠[48]))&&(!Bk s||(AR (zw s)&&decide (zw s≠[48])&&decide (zw s≠[49])))):=by rw[hs];rfl
 rw[hE]at hq;have tk:s.take (Ax s).length=Ax s:=c1.symm;refine zm (As ..) ?_;conv=>zeta
 rw[show AV s=((Ax s).length:Int)from rfl,zj,tk];refine zc (decide_eq_true (by omega)) (zc (by simp;omega) (zc (decide_eq_true (by omega)) (zo (fun d=>?_) (fun d=>?_))))
 ·have d:AR (Ax s)=false:=by simpa using d
  rw[d]at hq;exact zh (hq _)
 ·have d:AR (Ax s)=true:=by simpa using d
  have hA:=(He d).2;have hne:a.length≠0:=by
   intro h;have h:=zR.1 h;have:s=[]:=by rw[hs,h];rfl
   rw[this]at d;exact absurd d (by decide)
  rw[d,yc]at hq;refine zc (decide_eq_true (by omega)) (zo (fun e=>zc (by simp;omega) (zo (fun f=>?_) (fun f=>?_))) (fun e=>?_))
  ·have hp:qw a=true:=by
    unfold qw;refine decide_eq_true (zU.1 ?_);have:((a.getD 0 0).toNat:Int)=45:=by simpa using e
    show _=45;omega
   have f:Ax s=[48]:=by simpa using f
   rw[hp,decide_eq_false (p:=Ax s≠[48]) (fun h=>h f)]at hq;exact zh (hq _)
  ·have f:Ax s≠[48]:=by simpa using f
   rw[decide_eq_true f,Bool.or_true,yc]at hq;exact AU s hA (by omega) hq
  ·have hp:qw a=false:=by
    unfold qw;refine decide_eq_false (fun h=>?_);rw[h]at e;exact absurd e (by decide)
   rw[hp,Bool.not_false,Bool.true_or,yc]at hq;exact AU s hA (by omega) hq
theorem ok:Ae AT 24 D6:=by
 refine Av (X:=So) rfl iD (d:=9) (by kernel_rfl) (by kernel_rfl) (by kernel_rfl) (fun(a:List UInt8) hl=>?_) (Ad (by kernel_rfl));have hl:a.length≤1000000:=of_decide_eq_true hl;have hq:∀ob,Af D6 a (.dat i64 (AP a)) ob:=fun ob=>zY rfl rfl rfl
 refine zQ (Am a) ?_;conv=>zeta
 cases a with
 |nil=>exact zq rfl (Aj [] [] rfl hl hq)
 |cons c r=>
  have g0:(c::r).getD 0 0=c:=rfl;rw[g0];refine zc (by simp) (zc (by simp) (zo (fun d=>zc (by simp) ?_) (fun d=>?_)))
  ·have hc:c=45:=by
    have:(c.toNat:Int)=45:=by simpa using d
    exact zU.1 (by show _=45;omega)
   have e:(List.drop 1 (c::r)).take (ym (c::r).length 1)=r:=by show r.take ((r.length+1)-1)=r;rw[yt];exact zN
   rw[e];exact Aj (c::r) r (by unfold AY;rw[g0,if_pos hc];rfl) hl hq
  ·have hc:c≠45:=by rintro rfl;exact absurd d (by decide)
   exact Aj (c::r) (c::r) (by unfold AY;rw[g0,if_neg hc]) hl hq
end T24
end Go.Pe
end
section
namespace Go.Pe
open Sp
open Go.Det
theorem FI:∀g sp,Sn.sp g=some sp→Ae AT g sp:=
 Aa T173.ok (Aa T174.ok (Aa T176.ok (Aa T152.ok (Aa T105n.ok (Aa T158.ok (Aa T159.ok (Aa T154.ok (Aa T150.ok (Aa T153.ok (fun g sp h=>by cases h))))))))))
theorem El{a:AQ}(h:Mv a=true):A5 a=true∧Ag (zl a)<(Ak:Int)^4000:=by
 unfold Mv at h;rw[ze,decide_eq_true_eq]at h;refine⟨?_,HW h.1 h.2 (by decide)⟩;unfold A5;exact Ac h.1 (decide_eq_true (by omega))
theorem J5{x y:Int}(hx:Ag x<(Ak:Int)^4000)(hy:Ag y<(Ak:Int)^4000):Ag (x*y)<(Ak:Int)^8000:=by
 rw[ID];have h0:=AE x;have hp:=AM (b:=Ak) (by decide) 4000;have a1:=zt (zz hy) h0;have a2:=Int.mul_lt_mul_of_pos_right hx hp;have a3:(Ak:Int)^4000*(Ak:Int)^4000=(Ak:Int)^8000:=(Int.pow_add _ 4000 4000).symm;rw[a3]at a2;exact zK a1 a2
theorem xV{x:Int}(h:x<(Ak:Int)^8000):x<(Ak:Int)^9000:=zu h (AI (by decide) (by decide))
theorem QT{x y:Int}(hx:Ag x<(Ak:Int)^4000)(hy:Ag y<(Ak:Int)^4000):A5 (CD (x*y))=true:=Du (xV (J5 hx hy))
theorem tJ{a b:AQ}(ha:A5 a=true)(hb:A5 b=true)(h:Ag (zl a+zl b)<(Ak:Int)^9000):A5 (D9 a b)=true:=by
 have h1:=RG ha hb;unfold D9 at h1 ⊢;split
 ·rename_i c;rw[if_pos c]at h1;unfold A5;exact Ac h1 rfl
 ·exact Du h
theorem lM(n:Nat):(2:Int)*(Ak:Int)^n≤(Ak:Int)^(n+1):=by
 rw[ya,yp];exact zt (by decide) (zz (AM (b:=Ak) (by decide) n))
theorem ZC{x y:Int}(hx:Ag x<(Ak:Int)^8000)(hy:Ag y<(Ak:Int)^8000):Ag (x+y)<(Ak:Int)^9000:=by
 have h2:=lM 8000;have h3:(Ak:Int)^8001≤(Ak:Int)^9000:=AI (by decide) (by decide);have h2:(2:Int)*(Ak:Int)^8000≤(Ak:Int)^8001:=h2;generalize (Ak:Int)^8000=p at*;generalize (Ak:Int)^8001=q at*;generalize (Ak:Int)^9000=r at*;rw[Ai]at*;omega
theorem SI(a:AQ):decide (Hf a<0)=decide (zl a<0):=by
 unfold Hf Pd;rw[Bool.eq_iff_iff,decide_eq_true_eq,decide_eq_true_eq];split
 ·omega
 ·split<;>omega
theorem WL{n d:AQ}(h:Jy n d=true):A5 n=true∧A5 d=true∧zl d≠0:=by
 unfold Jy at h;rw[ze,ze,decide_eq_true_eq]at h;exact⟨h.1.1,h.1.2,h.2⟩
theorem T87.ok:Ae AT 87 Xm:=by
 refine Av (X:=Sn) rfl FI (d:=9) (by kernel_rfl) (by kernel_rfl) (by kernel_rfl) (fun(a:List UInt8) ha=>?_) (Ad (by kernel_rfl));have ha:(D7 (Ax a)&&D7 (zw a)&&decide (a.length≤5999))=true:=ha;rw[ze,ze,decide_eq_true_eq]at ha;obtain⟨⟨ra,rb⟩,hl⟩:=ha;refine zQ (T87.Am a) (zc (Ac (decide_eq_true rfl) (decide_eq_true (by omega))) (zo (fun c=>zc ra (zc rfl (zh (zY rfl rfl ?_)))) (fun c=>zc ra (zc rb (zh (zY rfl rfl ?_))))))
 ·have c:Bk a=false:=by simpa using c
  show((CT (Ax a),C0 (Ax a)),((1:Int),B1 1))=((Mu a,Mk a),(KN a,Ka a));unfold KN Ka AF;rw[c,MU];rfl
 ·have c:Bk a=true:=by simpa using c
  show((CT (Ax a),C0 (Ax a)),(CT (zw a),C0 (zw a)))=((Mu a,Mk a),(KN a,Ka a));unfold KN Ka AF;rw[c];rfl
theorem T175.ok:Ae AT 175 yL:=by
 refine Av (X:=Sn) rfl FI (d:=9) (by kernel_rfl) (by kernel_rfl) (by kernel_rfl) (fun(i:(Int×List Int)×(Int×List Int)) hi=>?_) (Ad (by kernel_rfl));obtain⟨a,b⟩:=i;obtain⟨ha,hb,h0⟩:=WL (n:=a) (d:=b) hi;refine zQ (T175.Am a b) (zc (BQ hb).1 ?_);rw[SI];refine zo (fun c=>zc (BQ ha).1 (zc (BQ hb).1 (zm (T175.As ..) (zc ?_ (zh (zY rfl rfl ?_)))))) (fun c=>zm (T175.As ..) (zc ?_ (zh (zY rfl rfl ?_))))
 ·have c:zl b<0:=of_decide_eq_true c;have:=Jr b;exact Ac (Ac (S7 ha) (S7 hb)) (decide_eq_true (by show 0<zl (CV b);omega))
 ·have c:zl b<0:=of_decide_eq_true c;show Ft (CV a) (CV b)=Sp.iQ a b;unfold Sp.iQ;rw[if_pos c]
 ·have c:¬zl b<0:=of_decide_eq_false c;exact Ac (Ac ha hb) (decide_eq_true (by show 0<zl b;omega))
 ·have c:¬zl b<0:=of_decide_eq_false c;show Ft a b=Sp.iQ a b;unfold Sp.iQ;rw[if_neg c]
theorem lI:∀g sp,oH.sp g=some sp→Ae AT g sp:=Aa T173.ok (Aa T174.ok (Aa T152.ok (Aa T175.ok (fun g sp h=>by cases h))))
theorem nQ{n d:AQ}(hd:A5 d=true)(h0:zl d≠0):A5 (Sp.gR n d)=true∧zl (Sp.gR n d)=(yr (zl n) (zl d):Int)∧0<zl (Sp.gR n d):=by
 have e:zl (Sp.gR n d)=(yr (zl n) (zl d):Int):=by
  show zl (Cq _,Cp _)=_;rw[Kz,E3]
 have hp:0<yr (zl n) (zl d):=Int.gcd_pos_of_ne_zero_right _ h0;refine⟨Fa (Du ?_),e,by rw[e];omega⟩;rw[E3,Ai,yz];have hb:=bounds hd;rw[Ai]at hb;have hle:yr (zl n) (zl d)≤(zl d).natAbs:=Nat.gcd_le_right _ (by omega);omega
namespace T104
variable {Q:PV→Ob→Prop}
theorem Aj(z1 z2:Int)(n d:AQ)(hn:A5 n=true)(hd:A5 d=true)(h0:zl d≠0)(hq:∀ob,Q (.agg [.dat i64 (Mo n d).1.1,.dat (.nlist u64) (Mo n d).1.2,.dat i64 (Mo n d).2.1,.dat (.nlist u64) (Mo n d).2.2]) ob):
  Ends oH (L1 z1 z2 d.1 d.2 n.1 n.2) Q:=by
 obtain⟨g1,_,g3⟩:=nQ (n:=n) hd h0;have next:CC d=false→Ends oH (.ite (A5 (n.1,n.2)&&A5 (d.1,d.2)) (L2 (LM (n.1,n.2) (d.1,d.2)) (Mh (n.1,n.2) (d.1,d.2)) z1 z2 d.1 d.2 n.1 n.2) .fail) Q:=by
  intro ho;unfold Mo at hq;rw[if_neg (by rw[ho];decide)]at hq;have k:∀x:AQ,A5 x=true→Jy x (Sp.gR n d)=true:=fun x hx=>by unfold Jy;exact Ac (Ac hx g1) (decide_eq_true (by omega))
  exact zc (Ac hn hd) (zm (A3 ..) (zc (k n hn) (zc (k d hd) (zh (hq _)))))
 refine zm (As ..) (zo (fun c=>zo (fun e=>zh ?_) (fun e=>next ?_)) (fun c=>next ?_))
 ·have c:d.2=[]:=by simpa using c
  have e:d.1=1:=by simpa using e
  unfold Mo at hq;rw[if_pos (by unfold CC;simp[c,e])]at hq;exact hq _
 ·unfold CC;rw[Bool.and_eq_false_iff];right;simpa using e
 ·unfold CC;rw[Bool.and_eq_false_iff];left;have:d.2≠[]:=by rintro k;rw[k]at c;simp at c
  simpa using this
theorem ok:Ae AT 104 W8:=by
 refine Av (X:=oH) rfl lI (d:=9) (by kernel_rfl) (by kernel_rfl) (by kernel_rfl) (fun(i:(Int×List Int)×(Int×List Int)) hi=>?_) (Ad (by kernel_rfl));obtain⟨n,d⟩:=i;obtain⟨hn,hd,h0⟩:=WL (n:=n) (d:=d) hi;have vn:=Jr d;refine zQ (Am n d) (zc (BQ hd).1 ?_);rw[SI];refine zo (fun c=>zc (BQ hn).1 (zc (BQ hd).1 (Aj 0 0 (CV n) (CV d) (S7 hn) (S7 hd) (by omega) (fun ob=>zY rfl rfl ?_)))) (fun c=>Aj 0 0 n d hn hd h0 (fun ob=>zY rfl rfl ?_))
 ·have c:zl d<0:=of_decide_eq_true c;show Mo (CV n) (CV d)=Sk n d;unfold Sk;rw[if_pos c]
 ·have c:¬zl d<0:=of_decide_eq_false c;show Mo n d=Sk n d;unfold Sk;rw[if_neg c]
end T104
theorem T156.ok:Ae AT 156 OT:=by
 refine Av (X:=Sn) rfl FI (d:=9) (by kernel_rfl) (by kernel_rfl) rfl (fun(a:(Int×List Int)×(Int×List Int)) _=>?_) (Ad (by kernel_rfl));refine zQ (T156.Am a) (zo (fun c=>zh (zY rfl rfl ?_)) (fun c=>zh (zY rfl rfl ?_)))
 ·have c:a.2.2=[]:=by simpa using c
  show(a.2.1==(1:Int))=CC a.2;unfold CC;rw[decide_eq_true c,yc];rfl
 ·have c:a.2.2≠[]:=by rintro k;rw[k]at c;simp at c
  show false=CC a.2;unfold CC;rw[decide_eq_false c,Bool.false_and]
theorem T157.ok:Ae AT 157 aK:=by
 refine Av (X:=Sn) rfl FI (d:=9) (by kernel_rfl) (by kernel_rfl) rfl (fun(a:Int×List Int) _=>?_) (Ad (by kernel_rfl));exact zQ (T157.Am a) (zc rfl (zh (zY rfl rfl rfl)))
theorem T160.ok:Ae AT 160 nP:=by
 refine Av (X:=Sn) rfl FI (d:=9) (by kernel_rfl) (by kernel_rfl) rfl (fun(a:(Int×List Int)×(Int×List Int)) h=>?_) (Ad (by kernel_rfl));exact zQ (T160.Am a) (zc h (zh (zY rfl rfl rfl)))
theorem T88.ok:Ae AT 88 eX:=by
 refine Av (X:=Sn) rfl FI (d:=9) (by kernel_rfl) (by kernel_rfl) (by kernel_rfl) (fun(i:((Int×List Int)×(Int×List Int))×((Int×List Int)×(Int×List Int))) hi=>?_) (Ad (by kernel_rfl));obtain⟨a,b⟩:=i;have hi:((Mv a.1&&Mv a.2)&&(Mv b.1&&Mv b.2))=true:=hi;rw[ze,ze,ze]at hi;obtain⟨⟨a1,a2⟩,b1,b2⟩:=hi;obtain⟨a1,la1⟩:=El a1;obtain⟨a2,la2⟩:=El a2;obtain⟨b1,lb1⟩:=El b1;obtain⟨b2,lb2⟩:=El b2;refine zQ (T88.Am a b) (zc (Ac a1 b2) (zc (Ac b1 a2) (zc (Ac (QT la1 lb2) (QT lb1 la2)) (zh (zY rfl rfl ?_)))));show BW (zl (EH a.1 b.2)) (zl (EH b.1 a.2))=BW _ _;rw[Df,Df]
theorem Fi{a:AA}(h:qt a=true):A5 a.1=true∧A5 a.2=true∧Ag (zl a.1)<(Ak:Int)^4000∧Ag (zl a.2)<(Ak:Int)^4000∧0<zl a.2:=by
 unfold qt Sp.E0 at h;rw[ze,ze,decide_eq_true_eq]at h;obtain⟨a1,b1⟩:=El h.1.1;obtain⟨a2,b2⟩:=El h.1.2;exact⟨a1,a2,b1,b2,h.2⟩
theorem RW:∀g sp,gL.sp g=some sp→Ae AT g sp:=Aa T156.ok (Aa T157.ok (Aa T158.ok (Aa T159.ok (Aa T104.ok (fun g sp h=>by cases h)))))
theorem Rw{n d:AQ}(hn:A5 n=true)(hd:A5 d=true)(h0:zl d≠0):Jy n d=true:=by
 unfold Jy;exact Ac (Ac hn hd) (decide_eq_true h0)
theorem Mr{a b:AQ}(ha:Ag (zl a)<(Ak:Int)^4000)(hb:Ag (zl b)<(Ak:Int)^4000):A5 (EH a b)=true:=QT ha hb
theorem T82.ok:Ae AT 82 T0:=by
 refine Av (X:=gL) rfl RW (d:=9) (by kernel_rfl) (by kernel_rfl) (by kernel_rfl) (fun(i:((Int×List Int)×(Int×List Int))×((Int×List Int)×(Int×List Int))) hi=>?_) (Ad (by kernel_rfl));obtain⟨a,b⟩:=i;have hi:(qt a&&qt b)=true:=hi;rw[ze]at hi;obtain⟨a1,a2,la1,la2,a0⟩:=Fi hi.1;obtain⟨b1,b2,lb1,lb2,b0⟩:=Fi hi.2;have hd:zl (EH a.2 b.2)≠0:=by rw[Df];exact zS (y8 a0 b0)
 exact zQ (T82.Am a b) (zc (Ac a1 b1) (zc (Ac a2 b2) (zc (Rw (Mr la1 lb1) (Mr la2 lb2) hd) (zh (zY rfl rfl rfl)))))
namespace T80
variable {Q:PV→Ob→Prop}
theorem Aj(z1 z2:Int)(a b:AA)(ha:qt a=true)(hb:qt b=true)(hq:∀ob f,f=Sk (D9 (EH a.1 b.2) (EH b.1 a.2)) (EH a.2 b.2)→Q (.agg [.dat i64 f.1.1,.dat (.nlist u64) f.1.2,.dat i64 f.2.1,.dat (.nlist u64) f.2.2]) ob):
  Ends gL (L1 z1 z2 b.1.1 b.1.2 b.2.1 b.2.2 a.1.1 a.1.2 a.2.1 a.2.2) Q:=by
 obtain⟨a1,a2,la1,la2,a0⟩:=Fi ha;obtain⟨b1,b2,lb1,lb2,b0⟩:=Fi hb;have hd:zl (EH a.2 b.2)≠0:=by rw[Df];exact zS (y8 a0 b0)
 have hs:A5 (D9 (EH a.1 b.2) (EH b.1 a.2))=true:=tJ (Mr la1 lb2) (Mr lb1 la2) (by rw[Df,Df];exact ZC (J5 la1 lb2) (J5 lb1 la2));exact zm (As ..) (zc (Ac a1 b2) (zc (Ac b1 a2) (zc (Ac (Mr la1 lb2) (Mr lb1 la2)) (zc (Ac a2 b2) (zc (Rw hs (Mr la2 lb2) hd) (zh (hq _ _ rfl)))))))
theorem ok:Ae AT 80 Ui:=by
 refine Av (X:=gL) rfl RW (d:=9) (by kernel_rfl) (by kernel_rfl) (by kernel_rfl) (fun(i:((Int×List Int)×(Int×List Int))×((Int×List Int)×(Int×List Int))) hi=>?_) (Ad (by kernel_rfl));obtain⟨a,b⟩:=i;have hi:(qt a&&qt b)=true:=hi;rw[ze]at hi;obtain⟨a1,a2,la1,la2,a0⟩:=Fi hi.1;obtain⟨b1,b2,lb1,lb2,b0⟩:=Fi hi.2;have far:¬(CC a.2=true∧CC b.2=true)→Ends gL (L1 0 0 b.1.1 b.1.2 b.2.1 b.2.2 a.1.1 a.1.2 a.2.1 a.2.2) (Af Ui (a,b)):=fun hn=>
  Aj 0 0 a b hi.1 hi.2 (fun ob f hf=>zY rfl rfl (by
   show f=Ly a b;unfold Ly;rw[if_neg hn];exact hf))
 refine zQ (Am a b) (zc rfl (zo (fun c=>zc rfl (zo (fun d=>zc (Ac a1 b1) (zc rfl (zh (zY rfl rfl ?_)))) (fun d=>far (fun k=>by have:=k.2;rw[show CC b.2=false from d]at this;cases this)))) (fun c=>far (fun k=>by have:=k.1;rw[show CC a.2=false from c]at this;cases this))));show yP (D9 a.1 b.1)=Ly a b;unfold Ly;rw[if_pos ⟨c,d⟩]
end T80
theorem T161.ok:Ae AT 161 nI:=by
 refine Av (X:=gL) rfl RW (d:=9) (by kernel_rfl) (by kernel_rfl) (by kernel_rfl) (fun(a:(Int×List Int)×(Int×List Int)) hi=>?_) (Ad (by kernel_rfl));have hi:(qt a&&decide (zl a.1≠0))=true:=hi;rw[ze,decide_eq_true_eq]at hi;obtain⟨a1,a2,la1,la2,a0⟩:=Fi hi.1;exact zQ (T161.Am a) (zc (Rw a2 a1 hi.2) (zh (zY rfl rfl rfl)))
end Go.Pe
end
section
namespace Go.Pe
open Sp
open Go.Det
theorem Vq{a:AQ}(h:C8 a=true){k:Nat}(hb:Ag (zl a)<(Ak:Int)^k):a.2.length≤k:=by
 rcases Oj h with⟨h1,_⟩|h1
 ·rw[h1];exact z7 _
 ·rw[←h1];exact Jz (AE _) hb
theorem FO{a:AQ}(h:C8 a=true)(hb:Ag (zl a)<(Ak:Int)^4000):Mv a=true:=by
 unfold Mv;exact Ac h (decide_eq_true (Vq h hb))
theorem W9{a:AQ}(h:C8 a=true)(hb:Ag (zl a)<(Ak:Int)^9000):A5 a=true:=by
 unfold A5;exact Ac h (decide_eq_true (Vq h hb))
structure EX(f:AA)(q:Rat):Prop where
 n:C8 f.1=true
 d:C8 f.2=true
 vn:zl f.1=q.num
 vd:zl f.2=(q.den:Int)
def Pc(k:Nat)(q:Rat):Prop:=Ag q.num<(Ak:Int)^k∧(q.den:Int)<(Ak:Int)^k
theorem EX.den_pos{f:AA}{q:Rat}(h:EX f q):0<zl f.2:=by
 rw[h.vd];have:=q.den_pos;omega
theorem EX.Dj{f:AA}{q:Rat}(h:EX f q)(hs:Pc 4000 q):qt f=true:=by
 unfold qt Sp.E0;have h2:Ag (zl f.2)=(q.den:Int):=by rw[h.vd,Ai,yz]
 exact Ac (Ac (FO h.n (by rw[h.vn];exact hs.1)) (FO h.d (by rw[h2];exact hs.2))) (decide_eq_true h.den_pos)
theorem VK{x y:Int}:Ag (x/y)≤Ag x:=by
 rw[Ai,Ai];have h1:=Int.natAbs_ediv_le_natAbs x y;omega
theorem fN{a b:AQ}(hb:0<zl b):zl (Ft a b)=zl a/zl b:=by
 unfold Ft;generalize hx:zl a=x;generalize zl b=y at hb;have h1:=Int.mul_ediv_add_emod (Ag x) y;have h2:=Int.emod_nonneg (Ag x) (zS hb);have h3:=Int.emod_lt_of_pos (Ag x) hb;split
 ·next c=>
  rw[dO,Cj,Ec];obtain⟨c1,c2⟩:=c;symm;rw[qf hb];have e:Ag x= -x:=by rw[Ai];omega
  rw[e]at h1 h2 h3 c2 ⊢;generalize -x/y=q at*;generalize -x % y=r at*;rw[Int.sub_mul,Int.neg_mul,yp q y];generalize y*q=t at*;omega
 ·next c=>
  rw[Cj];unfold Sp.sg;split
  ·next n=>
   have n:x<0:=of_decide_eq_true n;have c2:Ag x % y=0:=y7 fun h=>c ⟨n,h⟩
   symm;rw[qf hb];have e:Ag x= -x:=by rw[Ai];omega
   rw[c2]at h1;rw[e]at h1 ⊢;generalize -x/y=q at*;rw[Int.neg_mul,yp q y];generalize y*q=t at*;omega
  ·next n=>
   have n:¬x<0:=fun h=>n (decide_eq_true h)
   have e:Ag x=x:=by rw[Ai];omega
   rw[e]
theorem We{a b:AQ}(ha:A5 a=true)(hb:0<zl b):C8 (Ft a b)=true:=by
 have hab:=bounds ha;have hd:Ag (zl a)/zl b≤Ag (zl a):=Int.ediv_le_self _ (AE _);have hd0:0≤Ag (zl a)/zl b:=Int.ediv_nonneg (AE _) (zz hb);unfold Ft;generalize Ag (zl a)/zl b=q at*;have hq:Ag q<(Ak:Int)^9000:=by
  refine zK ?_ hab;rw[Ai];omega
 split
 ·exact RG (Du (by rw[JI];exact hq)) (by decide)
 ·refine(MC (k:=9000) ?_ (by omega)).1;unfold Sp.sg;split
  ·rw[JI];exact hq
  ·exact hq
end Go.Pe
end
section
namespace Go.Pe
open Sp
open Go.Det
theorem nZ{a b:AQ}(hb:0<zl b):zl (Sp.iQ a b)=zl a/zl b:=by
 unfold Sp.iQ;rw[if_neg (by omega)];exact fN hb
theorem ZS{a b:AQ}(ha:A5 a=true)(hb:0<zl b):C8 (Sp.iQ a b)=true:=by
 unfold Sp.iQ;rw[if_neg (by omega)];exact We ha hb
theorem T8{n d:AQ}(hn:A5 n=true)(hd:A5 d=true)(h0:0<zl d):EX (Mo n d) (zX (zl n) (zl d)):=by
 have hs:(zl d).sign=1:=qg h0;have e1:(zX (zl n) (zl d)).num=zl n/(yr (zl n) (zl d):Int):=by
  rw[ql,hs,qj,qx]
 have e2:((zX (zl n) (zl d)).den:Int)=zl d/(yr (zl n) (zl d):Int):=by
  rw[qm,if_neg (zS h0),qx,Int.natCast_ediv];rw[Int.natAbs_of_nonneg (zz h0)]
 obtain⟨g1,g2,g3⟩:=nQ (n:=n) hd (zS h0);unfold Mo;split
 ·next c=>
  unfold CC at c;rw[ze,decide_eq_true_eq,decide_eq_true_eq]at c;have e:zl d=1:=by rw[Bj c.1];exact c.2
  refine⟨(BQ hn).1,(BQ hd).1,?_,?_⟩
  ·rw[e1,e,Int.gcd_one];exact(qy _).symm
  ·rw[e2,e,Int.gcd_one];exact(qy _).symm
 ·refine⟨ZS hn g3,ZS hd g3,?_,?_⟩
  ·rw[nZ g3,e1,g2]
  ·rw[nZ g3,e2,g2]
theorem IP{n d:AQ}(hn:A5 n=true)(hd:A5 d=true)(h0:zl d≠0):EX (Sk n d) (zX (zl n) (zl d)):=by
 unfold Sk;split
 ·next c=>
  have h:=T8 (S7 hn) (S7 hd) (by rw[Jr];omega);rw[Jr,Jr]at h;have e:=Rat.divInt_mul_right (n:=zl n) (d:=zl d) (a:= -1) (by decide);rw[Int.mul_neg,y9,Int.mul_neg,y9]at e;rw[e]at h;exact h
 ·exact T8 hn hd (by omega)
theorem Pc.aM{k:Nat}{f:AA}{q:Rat}(h:EX f q)(hs:Pc k q):Ag (zl f.1)<(Ak:Int)^k∧Ag (zl f.2)<(Ak:Int)^k:=by
 rw[h.vn,h.vd];refine⟨hs.1,?_⟩;rw[Ai,yz];exact hs.2
theorem EX.tI{f:AA}{q:Rat}(h:EX f q):zX (zl f.1) (zl f.2)=q:=by
 rw[h.vn,h.vd];exact yg q
theorem EX.mul{f g:AA}{p q:Rat}(hf:EX f p)(hg:EX g q)(sp:Pc 4000 p)(sq:Pc 4000 q):EX (Pm f g) (p*q):=by
 have a:=Pc.aM hf sp;have b:=Pc.aM hg sq;have h:=IP (n:=EH f.1 g.1) (d:=EH f.2 g.2) (Mr a.1 b.1) (Mr a.2 b.2) (by rw[Df];exact zS (y8 hf.den_pos hg.den_pos));rw[Df,Df, ←Rat.divInt_mul_divInt,hf.tI,hg.tI]at h;exact h
theorem EX.add{f g:AA}{p q:Rat}(hf:EX f p)(hg:EX g q)(sp:Pc 4000 p)(sq:Pc 4000 q):EX (Ly f g) (p+q):=by
 have a:=Pc.aM hf sp;have b:=Pc.aM hg sq;have ja:=El (FO hf.n a.1);have jb:=El (FO hg.n b.1);unfold Ly;split
 ·next c=>
  obtain⟨c1,c2⟩:=c;unfold CC at c1 c2;rw[ze,decide_eq_true_eq,decide_eq_true_eq]at c1 c2;have e1:(p.den:Int)=1:=by rw[←hf.vd,Bj c1.1];exact c1.2
  have e2:(q.den:Int)=1:=by rw[←hg.vd,Bj c2.1];exact c2.2
  have ep:zX p.num 1=p:=by have:=yg p;rw[e1]at this;exact this
  have eq:zX q.num 1=q:=by have:=yg q;rw[e2]at this;exact this
  have es:p+q=zX (p.num+q.num) 1:=by
   have h:=Rat.divInt_add_divInt p.num q.num (d₁:=1) (d₂:=1) (by decide) (by decide);rw[ep,eq,y9,y9,y9]at h;exact h
  refine⟨RG ja.1 jb.1,by show C8 (1,B1 1)=true;rw[MU];rfl,?_,?_⟩
  ·show zl (D9 f.1 g.1)=_;rw[VH,hf.vn,hg.vn,es,ql];simp
  ·show zl (1,B1 1)=_;rw[MU,Cj,es,qm];simp
 ·have h:=IP (n:=D9 (EH f.1 g.2) (EH g.1 f.2)) (d:=EH f.2 g.2) (tJ (Mr a.1 b.2) (Mr b.1 a.2) (by rw[Df,Df];exact ZC (J5 a.1 b.2) (J5 b.1 a.2))) (Mr a.2 b.2) (by rw[Df];exact zS (y8 hf.den_pos hg.den_pos));rw[VH,Df,Df,Df, ←Rat.divInt_add_divInt _ _ (zS hf.den_pos) (zS hg.den_pos),hf.tI,hg.tI]at h;exact h
theorem EX.inv{f:AA}{p:Rat}(hf:EX f p)(sp:Pc 4000 p)(h0:p≠0):EX (T6 f) p⁻¹:=by
 have a:=Pc.aM hf sp;have jn:=El (FO hf.n a.1);have jd:=El (FO hf.d a.2);have h:=IP jd.1 jn.1 (by rw[hf.vn];exact fun h=>h0 (Rat.num_eq_zero.mp h));rw[←Rat.inv_divInt,hf.tI]at h;exact h
end Go.Pe
end
section
namespace Go.Sp
open Go.Lib
theorem ME{P:Nat→List UInt8→Prop}(h1:∀d,d<10→P d [zL (48+d)])(h2:∀a d,0<a→d<10→P a (decDigits a)→P (10*a+d) (decDigits a++[zL (48+d)]))(n:Nat):P n (decDigits n):=by
 induction n using Nat.strongRecOn with
 |_ n ih=>
  by_cases h:n<10
  ·rw[decDigits_one h];exact h1 n h
  ·have e:n=10*(n/10)+n % 10:=by omega
   have:=h2 (n/10) (n % 10) (by omega) (Nat.mod_lt _ (by decide)) (ih (n/10) (by omega));rw[←Fh _ _ (by omega) (Nat.mod_lt _ (by decide)), ←e]at this;exact this
theorem Jo:∀d:Fin 10,(zL (48+d.1)).toNat=48+d.1:=by decide
theorem Kf{d:Nat}(h:d<10):BJ (zL (48+d))=true∧GZ (zL (48+d))=d:=by
 have e:(zL (48+d)).toNat=48+d:=Jo ⟨d,h⟩;unfold BJ GZ;rw[e];refine⟨?_,by omega⟩;rw[decide_eq_true (by omega),decide_eq_true (by omega)];rfl
theorem cA{c:UInt8}(h:BJ c=true):c=zL (48+(GZ c).toNat)∧(GZ c).toNat<10:=by
 obtain⟨h1,h2⟩:=CJ h;have hl:(GZ c).toNat<10:=by omega
 refine⟨zU.1 ?_,hl⟩;rw[Jo ⟨(GZ c).toNat,hl⟩];show c.toNat=48+(GZ c).toNat;unfold GZ at*;omega
theorem Ro(n:Nat):decDigits n≠[]:=ME (P:=fun _ l=>l≠[]) (fun _ _=>by simp) (fun _ _ _ _ _=>by simp) n
theorem Dx(n:Nat):Al (decDigits n)=true:=by
 refine ME (P:=fun _ l=>Al l=true) (fun d h=>?_) (fun a d _ h ih=>?_) n
 ·unfold Al;rw[zM,(Kf h).1];rfl
 ·unfold Al at*;rw[List.all_append,ih,zM,(Kf h).1];rfl
theorem GG(n:Nat):Az 0 (decDigits n)=n:=by
 refine ME (P:=fun n l=>Az 0 l=n) (fun d h=>?_) (fun a d _ h ih=>?_) n
 ·show 10*0+GZ (zL (48+d))=d;rw[(Kf h).2];omega
 ·rw[CA,ih];show 10*(a:Int)+GZ (zL (48+d))=_;rw[(Kf h).2];omega
theorem bN(n:Nat)(h0:0<n):(decDigits n).getD 0 0≠48:=by
 refine ME (P:=fun n l=>0<n→l.getD 0 0≠48) (fun d h h0=>?_) (fun a d ha _ ih _=>?_) n h0
 ·show zL (48+d)≠48;intro e;have:=Jo ⟨d,h⟩;have e2:=congrArg zP e;rw[show(zL (48+d)).toNat=48+d from this]at e2;have:(48:UInt8).toNat=48:=rfl;omega
 ·have h1:=ih ha;cases hd:decDigits a with
  |nil=>exact absurd hd (Ro a)
  |cons c r=>rw[hd]at h1;exact h1
theorem SV(n:Nat):AR (decDigits n)=true:=by
 unfold AR;rw[Dx,decide_eq_true (Ro n)];rcases yb n with rfl|h
 ·rw[decDigits_one (by decide)];rfl
 ·rw[decide_eq_true (bN n h)];rfl
theorem Fl{s:List UInt8}(h:AR s=true):s≠[]∧Al s=true∧(s.getD 0 0≠48∨s=[48]):=by
 unfold AR at h;rw[ze,ze,decide_eq_true_eq,Bool.or_eq_true,decide_eq_true_eq,decide_eq_true_eq]at h;exact⟨h.1.1,h.1.2,h.2⟩
theorem HG{s:List UInt8}(h:AR s=true)(h0:s≠[48]):0<Az 0 s:=by
 obtain⟨h1,h2,h3⟩:=Fl h;cases s with
 |nil=>exact absurd rfl h1
 |cons c r=>
  have g0:(c::r).getD 0 0=c:=rfl;rw[g0]at h3;have hc:c≠48:=by
   rcases h3 with x|x
   ·exact x
   ·exact absurd x h0
  unfold Al at h2;rw[zM,ze]at h2;have hd:=CJ h2.1;have hr:Al r=true:=h2.2;have hb:=Bb hr;show 0<Az (10*0+GZ c) r;rw[Eh];have hp:(0:Int)<10^r.length:=Int.pow_pos (by decide);have hn:c.toNat≠48:=fun x=>hc (zU.1 x)
  have hg:0<10*0+GZ c:=by show 0<10*0+((c.toNat:Int)-48);have hd2:0≤((c.toNat:Int)-48):=hd.1;omega
  have:=y8 hg hp;omega
theorem N0{s:List UInt8}(h:AR s=true):s=decDigits (Az 0 s).toNat:=by
 generalize hn:s.length=n;induction n generalizing s with
 |zero=>exact absurd (zR.1 hn) (Fl h).1
 |succ n ih=>
  obtain⟨h1,h2,h3⟩:=Fl h;obtain⟨t,c,rfl⟩:∃t c,s=t++[c]:=⟨_,_,(List.dropLast_concat_getLast h1).symm⟩;unfold Al at h2;rw[List.all_append,ze,zM,ze]at h2;obtain⟨h4,h5,_⟩:=h2;obtain⟨b1,b2⟩:=cA h5;obtain⟨d1,_⟩:=CJ h5;rw[CA];show t++[c]=decDigits (10*Az 0 t+GZ c).toNat;by_cases ht:t=[]
  ·subst ht;show[c]=decDigits (10*0+GZ c).toNat;rw[show(10*0+GZ c).toNat=(GZ c).toNat by omega,decDigits_one b2, ←b1]
  ·have g:(t++[c]).getD 0 0=t.getD 0 0:=by
    cases t with
    |nil=>exact absurd rfl ht
    |cons x r=>rfl
   have h6:t.getD 0 0≠48:=by
    rcases h3 with x|x
    ·rw[g]at x;exact x
    ·have h7:=congrArg qn x;rw[zn]at h7;have h8:t.length+1=1:=h7;exact absurd (zR.1 (by omega)) ht
   have hf:AR t=true:=by
    unfold AR Al;rw[decide_eq_true ht,h4,decide_eq_true h6];rfl
   have hp:=HG hf (fun k=>h6 (by rw[k];rfl));have hi:=ih hf (by rw[zn]at hn;simpa using hn);have e:(10*Az 0 t+GZ c).toNat=10*(Az 0 t).toNat+(GZ c).toNat:=by omega
   rw[e,Fh _ _ (by omega) b2, ←hi, ←b1]
theorem qU:∀ {a:List UInt8},(∀c∈a,c≠47)→Ax a=a∧AL a=[]∧Bk a=false:=by
 intro a h;have hc:Bk a=false:=by
  unfold Bk;rw[List.any_eq_false];intro x hx;simpa using h x hx
 exact⟨((Go.Pe.BC a).2.2 hc).1,((Go.Pe.BC a).2.2 hc).2,hc⟩
theorem kO:∀ {a:List UInt8} (b:List UInt8),(∀c∈a,c≠47)→Ax (a++47::b)=a∧AL (a++47::b)=b∧Bk (a++47::b)=true:=by
 intro a b h;have hc:Bk (a++47::b)=true:=by
  unfold Bk;rw[List.any_eq_true];exact⟨47,by simp,rfl⟩
 have ha:∀ {a:List UInt8},(∀c∈a,c≠47)→Ax (a++47::b)=a:=by
  intro a;induction a with
  |nil=>intro _;show Ax (47::b)=[];rw[Go.Pe.DH,if_pos rfl]
  |cons x r ih=>
   intro h;show Ax (x::(r++47::b))=_;rw[Go.Pe.DH,if_neg (h x (by simp)),ih (fun c hc=>h c (List.mem_cons_of_mem _ hc))]
 have e:=ha h;refine⟨e,?_,hc⟩;rw[((Go.Pe.BC _).2.1 hc).2,e];simp
theorem P8{s:List UInt8}(h:Al s=true):∀c∈s,c≠47:=by
 intro c hc e;unfold Al at h;rw[yk]at h;have:=h c hc;rw[e]at this;exact absurd this (by decide)
theorem EW{s:List UInt8}(h:Al s=true):s.getD 0 0≠45:=by
 cases s with
 |nil=>decide
 |cons c r=>
  unfold Al at h;rw[zM,ze]at h;show c≠45;intro e;rw[e]at h;exact absurd h.1 (by decide)
def A0(q:Rat):List UInt8:=if q.den=1 then itoa q.num else itoa q.num++47::decDigits q.den
def AW(s:List UInt8):Rat:=zX (A8 s) (AF s)
theorem CY(n:Int):(∀c∈itoa n,c≠47)∧AY (itoa n)=decDigits n.natAbs∧preB (itoa n)=decide (n<0)∧B7 (itoa n)=n:=by
 unfold itoa;by_cases h:n<0
 ·rw[if_pos h];refine⟨fun c hc=>?_,rfl,(decide_eq_true h).symm,?_⟩
  ·rcases List.mem_cons.1 hc with rfl|hc
   ·decide
   ·exact P8 (Dx _) c hc
  ·show -Az 0 (decDigits n.natAbs)=n;rw[GG];omega
 ·rw[if_neg h];have hm:=EW (Dx n.toNat);have e:n.toNat=n.natAbs:=by omega
  refine⟨P8 (Dx _),?_,?_,?_⟩
  ·unfold AY;rw[if_neg hm,e]
  ·unfold preB;rw[decide_eq_false hm,decide_eq_false h]
  ·unfold B7;rw[if_neg hm,GG];omega
theorem Ez(q:Rat):Ax (A0 q)=itoa q.num∧AL (A0 q)=(if q.den=1 then[]else decDigits q.den)∧Bk (A0 q)=decide (q.den≠1):=by
 unfold A0;have h:=(CY q.num).1;by_cases hd:q.den=1
 ·rw[if_pos hd,if_pos hd,decide_eq_false (not_not_intro hd)];exact qU h
 ·rw[if_neg hd,if_neg hd,decide_eq_true hd];exact kO _ h
theorem Jk(q:Rat):A8 (A0 q)=q.num∧AF (A0 q)=q.den:=by
 obtain⟨h1,h2,h3⟩:=Ez q;unfold A8 AF;rw[h1,h2,h3];refine⟨(CY q.num).2.2.2,?_⟩;by_cases hd:q.den=1
 ·rw[if_neg (by simpa using hd),hd];rfl
 ·rw[if_pos (decide_eq_true hd),if_neg hd];unfold B7;rw[if_neg (EW (Dx _)),GG]
theorem DM(q:Rat):AW (A0 q)=q:=by
 unfold AW;rw[(Jk q).1,(Jk q).2];exact yg q
theorem YJ{p q:Rat}(h:A0 p=A0 q):p=q:=by
 rw[←DM p,h,DM]
theorem QN(a:List UInt8):Ax (AY a)=AY (Ax a)∧AL (AY a)=AL a∧Bk (AY a)=Bk a∧preB (Ax a)=preB a:=by
 unfold AY preB;cases a with
 |nil=>exact⟨rfl,rfl,rfl,rfl⟩
 |cons c r=>
  have g0:(c::r).getD 0 0=c:=rfl;rw[g0,Go.Pe.DH];by_cases hc:c=45
  ·subst hc;have e:AL (45::r)=AL r:=by
    unfold AL;rw[yv];cases r.findIdx? (fun x=>x==47)<;>rfl
   exact⟨rfl,e.symm,rfl,rfl⟩
  ·rw[if_neg hc];by_cases h7:c=47
   ·subst h7;exact⟨(Go.Pe.DH _ _),rfl,rfl,rfl⟩
   ·rw[if_neg h7];have g1:(c::Ax r).getD 0 0=c:=rfl;rw[g1,if_neg hc];exact⟨by rw[Go.Pe.DH,if_neg h7],rfl,rfl,rfl⟩
theorem U3{a:List UInt8}(h:AP a=0):FQ a=true∧(Ax (AY a)).length≤600∧(AL (AY a)).length≤600∧(Bk (AY a)=true→gI (mQ a) (mT a)=1):=by
 unfold AP at h;cases hf:FQ a with
 |false=>rw[if_pos hf]at h;exact absurd h (by decide)
 |true=>
  rw[if_neg (by rw[hf];decide)]at h;split at h
  ·exact absurd h (by decide)
  ·next c=>
   split at h
   ·exact absurd h (by decide)
   ·next d=>exact⟨rfl,by omega,by omega,fun k=>y7 fun g=>d ⟨k,g⟩⟩
def DO(k:Nat)(q:Rat):Prop:=q.num.natAbs<10^k∧q.den<10^k
theorem Nn{n d:Int}(hd:0<d)(h:yr n d=1):(zX n d).num=n∧((zX n d).den:Int)=d:=by
 have hs:d.sign=1:=qg hd;rw[ql,qm,if_neg (zS hd),hs,qj,qx,h];refine⟨qy _,?_⟩;rw[Nat.div_one,Int.natAbs_of_nonneg (zz hd)]
theorem OW{s:List UInt8}(h:Al s=true){k:Nat}(hl:s.length≤k):(Az 0 s).toNat<10^k:=by
 have h1:=Bb h;have h2:(10:Int)^s.length≤10^k:=AI (by decide) hl;have h3:((10^k:Nat):Int)=(10:Int)^k:=by simp
 omega
theorem Nt(k:Nat)(h:k≠0):(1:Int).toNat<10^k:=Nat.one_lt_pow h (by decide)
theorem iY:decDigits (ye 1)=[49]:=by rw[show ye 1=1 from rfl,decDigits_one (by decide)];rfl
theorem Ln{s:List UInt8}(h:AP s=0):A0 (AW s)=s∧(AW s).num=A8 s∧((AW s).den:Int)=AF s∧DO 600 (AW s):=by
 obtain⟨hf,l1,l2,hg⟩:=U3 h;obtain⟨p1,p2,p3,p4⟩:=QN s;unfold FQ at hf;rw[ze,ze]at hf;obtain⟨⟨fa,fm⟩,fb⟩:=hf;unfold mQ mT at hg;obtain⟨A,hA⟩:∃A,A=Ax (AY s):=⟨_,rfl⟩;obtain⟨B,hB⟩:∃B,B=AL (AY s):=⟨_,rfl⟩;rw[←hA]at fa fm l1 hg;rw[←hB]at fb l2 hg;rw[p3]at fb hg;have dA:=(Fl fa).2.1;have ea:=N0 fa;have v0:=Bb dA;have hn:A8 s=(if preB s=true then -Az 0 A else Az 0 A)∧Ax s=(if preB s=true then 45::A else A):=by
  have e1:A=AY (Ax s):=by rw[hA,p1]
  unfold A8 B7;rw[←p4];unfold preB;rw[e1];unfold AY;by_cases hc:(Ax s).getD 0 0=45
  ·rw[if_pos hc,if_pos (decide_eq_true hc),if_pos hc,if_pos (decide_eq_true hc)];refine⟨rfl,?_⟩;cases hs:Ax s with
   |nil=>rw[hs]at hc;exact absurd hc (by decide)
   |cons c r=>
    rw[hs]at hc;have hc:c=45:=hc;rw[hc];rfl
  ·rw[if_neg hc,if_neg (by rw[decide_eq_false hc];decide),if_neg hc,if_neg (by rw[decide_eq_false hc];decide)];exact⟨rfl,rfl⟩
 have hna:(A8 s).natAbs=(Az 0 A).toNat:=by rw[hn.1];split<;>omega
 have hd:0<AF s∧(AF s).toNat<10^600∧yr (A8 s) (AF s)=1∧(Bk s=true→B=decDigits (AF s).toNat∧AF s≠1)∧(Bk s=false→AF s=1):=by
  unfold AF;rw[←p2, ←hB];cases hc:Bk s with
  |false=>
   rw[if_neg (by decide)];exact⟨by decide,Nt 600 (by decide),Int.gcd_one,(fun k=>by cases k),fun _=>rfl⟩
  |true=>
   rw[hc]at fb;have fb:(AR B&&decide (B≠[48])&&decide (B≠[49]))=true:=fb;rw[ze,ze,decide_eq_true_eq,decide_eq_true_eq]at fb;obtain⟨⟨f1,f2⟩,f3⟩:=fb;have dB:=(Fl f1).2.1;have hp:=HG f1 f2;have er:B7 B=Az 0 B:=by unfold B7;rw[if_neg (EW dB)]
   rw[if_pos rfl,er];refine⟨hp,OW (k:=600) dB l2,?_,fun _=>⟨N0 f1,?_⟩,(fun k=>by cases k)⟩
   ·have g:=hg hc;rw[E3]at g;have g:yr (Az 0 A) (Az 0 B)=1:=by omega
    rw[hn.1];split
    ·rw[Int.neg_gcd];exact g
    ·exact g
   ·intro e;have:=N0 f1;rw[e]at this;exact f3 (this.trans iY)
 obtain⟨d0,d1,d2,d3,d4⟩:=hd;obtain⟨r1,r2⟩:=Nn (n:=A8 s) d0 d2;have r1:(AW s).num=A8 s:=r1;have r2:((AW s).den:Int)=AF s:=r2;have r3:(AW s).den=(AF s).toNat:=by omega
 refine⟨?_,r1,r2,?_,?_⟩
 ·have ei:itoa (A8 s)=Ax s:=by
   rw[hn.2];unfold itoa;by_cases hb:preB s=true
   ·have hA0:A≠[48]:=by
     have hb2:preB s=true:=hb;rw[hb2]at fm;simpa using fm
    have:=HG fa hA0;rw[hn.1,if_pos hb,if_pos hb,if_pos (by omega),Int.natAbs_neg];rw[show(Az 0 A).natAbs=(Az 0 A).toNat by omega, ←ea]
   ·rw[hn.1,if_neg hb,if_neg hb,if_neg (by omega), ←ea]
  unfold A0;rw[r1,r3,ei];obtain⟨c1,c2,c3⟩:=Go.Pe.BC s;cases hc:Bk s with
  |false=>
   rw[d4 hc,if_pos (show ye 1=1 from rfl)];exact(c3 hc).1
  |true=>
   obtain⟨k1,k2⟩:=d3 hc;obtain⟨m1,m2⟩:=c2 hc;rw[if_neg (by omega), ←k1,hB,p2,m2];have hx:s.drop (Ax s).length=47::s.drop ((Ax s).length+1):=by
    have h0:∀t:List UInt8,Bk t=true→t.drop (Ax t).length=47::t.drop ((Ax t).length+1):=by
     intro t;induction t with
     |nil=>intro h;cases h
     |cons c r ih=>
      intro h;rw[Go.Pe.DH];by_cases e:c=47
      ·rw[if_pos e,e];rfl
      ·rw[if_neg e];have h2:Bk r=true:=by
        unfold Bk at h ⊢;rw[List.any_cons]at h;simpa [e]using h
       exact ih h2
    exact h0 s hc
   rw[←hx];conv=>lhs;rw[c1]
   have:=yi (Ax s).length s;rw[←c1]at this ⊢;exact this
 ·rw[r1,hna];exact OW (k:=600) dA l1
 ·rw[r3];exact d1
end Go.Sp
end
section
namespace Go.Sp
def AX(n:Int):List UInt8:=Lib.itoa n
def OU(s:List UInt8)(n:Int):List UInt8:=Lib.repeatL s n.toNat
end Go.Sp
namespace Go.Pe
open Go.Det
noncomputable section
noncomputable def dX:Ao:=⟨[i64],fun n=>Sp.BG n,[.str],fun n=>Sp.AX n,false⟩
noncomputable def Tg:Ao:=⟨[u64,i64],fun i=>decide (0≤i.1)&&decide (i.1<1000000000000000000)&&decide (i.2=10),[.str],fun i=>Sp.AX i.1,false⟩
noncomputable def Qw:Ao:=⟨[.str,i64],fun i=>decide (0≤i.2)&&decide (i.2≤1000)&&decide (i.1.length≤1000),[.str],fun i=>Sp.OU i.1 i.2,false⟩
noncomputable def pB:Ao:=⟨[BE],fun a=>Sp.A5 a,[.str],fun a=>Sp.AX (zl a),false⟩
noncomputable def Ph:A6:=X7 [(124,dX),(218,O2),(230,FE),(249,Tg),(250,Qw)]
end
end Go.Pe
end
section
namespace Go.Pe
open Sp
open Go.Det
noncomputable section
open List Int Prod
namespace T200
def T(a:Int×List Int):Tr:=tree Ph false 9 200 (Ah ([Sh.pair i64 (Sh.nlist (qu yn))]) a)
def L1(v3:Bool)(v4:List Int)(v5n:Nat)(o0:List Int):Tr:=re ((T (0,[])).R.L) (AH 69 [(3,.dat Sh.bool v3),(4,.dat (Sh.list (qu yn)) v4),(5,.sl 0 1 0 v5n none),(6,.nil)] [(0,.arr false 130 (qu yn) o0)] 1)
theorem Am(a:Int×List Int):T a=.ite (!decide (0<length (snd a))) (.ite (BG (fst a)) (.leaf (.dat Sh.str (AX (fst a))) ([(0,.box [.dat i64 (fst a),.dat (Sh.nlist (qu yn)) (snd a)])])) .fail) (.ite (C8 (fst a,snd a)) (L1 (decide (zl (fst a,snd a)<0)) (Bo (Ag (zl (fst a,snd a)))) 1 ([1000000000000000000])) .fail):=by kernel_rfl
def L2(v3:Bool)(v4:List Int)(v5n v6n:Nat)(o1:List (List UInt8))(o0:List Int):Tr:=re ((stepT Ph (L1 false [] 0 [])).L.L.L.L.L.L.L.L.L) (AH 69 [(3,.dat Sh.bool v3),(4,.dat (Sh.list (qu yn)) v4),(5,.sl 0 1 0 v5n none),(6,.sl 1 1 0 v6n none)] [(1,.arr false 9 Sh.str o1),(0,.arr true 130 (qu yn) o0)] 2)
def L3(v11:Int)(o1:List Int)(o0n:Nat):Tr:=re ((stepT Ph (L1 false [] 0 [])).R.L.L.L) (AH 69 [(6,.nil),(10,.ptr 0 0),(11,.dat i64 v11)] [(1,.arr false 5 (qu IntKind.u8) o1),(0,qd 222 [.ptr 0 0,.sl 1 1 0 o0n none])] 2)
def L4(v11:Int):Tr:=re ((stepT Ph (L1 false [] 0 [])).R.L.R) (AH 69 [(6,.nil),(10,.ptr 0 0),(11,.dat i64 v11)] [(0,qd 222 [.ptr 0 0,.nil])] 1)
def L5(v11:Int):Tr:=re ((stepT Ph (L1 false [] 0 [])).R.R) (AH 69 [(6,.nil),(10,.ptr 0 0),(11,.dat i64 v11)] [(0,qd 222 [PV.nilp,.nil])] 1)
theorem As(v3:Bool)(v4:List Int)(v5n:Nat)(o0:List Int):stepT Ph (L1 v3 v4 v5n o0)=let a':=Bo (An v4 % An (take v5n o0));let b':=Bo (An v4/An (take v5n o0));let d':=decide (1≤1)&&decide (0<1)&&decide ((2*1+1000)*16≤281474976710656);let e':=zg .i64 (0-1);let f':=AX (getD a' 0 0);let c':=18-(↑(length f'):Int);.ite (decide ((length v4:Int)>0)) (.ite (decide (0+v5n≤length o0)&&true&&Re v4 (take v5n o0)) (.ite (decide ((↑(length a'):Int)>0)) (.ite (decide (0<(↑(length a'):Int))) (.ite (decide ((0:Sh.T u64)≤getD a' 0 0)&&decide (getD a' 0 0<(1000000000000000000:Sh.T u64))&&decide (10=10)) (.ite (decide ((↑(length b'):Int)>0)) (.ite (decide (0≤zg .i64 c')&&decide (zg .i64 c'≤1000)&&decide (1≤1000)) (.ite (decide (length (OU [(48:UInt8)] (zg .i64 c'))+length f'≤4611686018427387904)) (.ite d' (L2 v3 b' v5n 1 ([OU [(48:UInt8)] (zg .i64 c')++AX (getD a' 0 0)]) o0) .fail) .fail) .fail) (.ite d' (L2 v3 b' v5n 1 ([AX (getD a' 0 0)]) o0) .fail)) .fail) .fail) (.ite (decide ((↑(length b'):Int)>0)) (.ite true (.ite true (.ite true (L2 v3 b' v5n 1 ([OU [(48:UInt8)] (zg .i64 (18-1))++[(48:UInt8)]]) o0) .fail) .fail) .fail) (.ite true (L2 v3 b' v5n 1 ([[(48:UInt8)]]) o0) .fail))) .fail) (.ite v3 (.ite true (.ite true (L3 e' (z6 (fun b=>(↑(zP b):Int)) [(45:UInt8)]) 1) .fail) (L4 e')) (L5 e')):=by kernel_rfl
def L6(v6n:Nat)(v11:Int)(o2:List Int)(o1n:Nat)(o0:List (List UInt8)):Tr:=re ((stepT Ph (L2 false [] 0 0 [] [])).R.L.L.L) (AH 69 [(6,.sl 0 1 0 v6n none),(10,.ptr 1 0),(11,.dat i64 v11)] [(2,.arr false 5 (qu IntKind.u8) o2),(1,qd 222 [.ptr 1 0,.sl 2 1 0 o1n none]),(0,.arr false 9 Sh.str o0)] 3)
def L7(v6n:Nat)(v11:Int)(o0:List (List UInt8)):Tr:=re ((stepT Ph (L2 false [] 0 0 [] [])).R.L.R) (AH 69 [(6,.sl 0 1 0 v6n none),(10,.ptr 1 0),(11,.dat i64 v11)] [(1,qd 222 [.ptr 1 0,.nil]),(0,.arr false 9 Sh.str o0)] 2)
def L8(v6n:Nat)(v11:Int)(o0:List (List UInt8)):Tr:=re ((stepT Ph (L2 false [] 0 0 [] [])).R.R) (AH 69 [(6,.sl 0 1 0 v6n none),(10,.ptr 1 0),(11,.dat i64 v11)] [(1,qd 222 [PV.nilp,.nil]),(0,.arr false 9 Sh.str o0)] 2)
theorem A3(v3:Bool)(v4:List Int)(v5n v6n:Nat)(o1:List (List UInt8))(o0:List Int):stepT Ph (L2 v3 v4 v5n v6n o1 o0)=let a':=Bo (An v4 % An (take v5n o0));let b':=Bo (An v4/An (take v5n o0));let d':=decide ((2*(v6n+1)+1000)*16≤281474976710656);let e':=zg .i64 ((↑v6n:Int)-1);let f':=decide (v6n=length o1);let g':=qe v6n 1;let h':=decide (1≤1)&&true&&f'&&d';let i':=AX (getD a' 0 0);let c':=18-(↑(length i'):Int);.ite (decide ((length v4:Int)>0)) (.ite (decide (0+v5n≤length o0)&&true&&Re v4 (take v5n o0)) (.ite (decide ((↑(length a'):Int)>0)) (.ite (decide (0<(↑(length a'):Int))) (.ite (decide ((0:Sh.T u64)≤getD a' 0 0)&&decide (getD a' 0 0<(1000000000000000000:Sh.T u64))&&decide (10=10)) (.ite (decide ((↑(length b'):Int)>0)) (.ite (decide (0≤zg .i64 c')&&decide (zg .i64 c'≤1000)&&decide (1≤1000)) (.ite (decide (length (OU [(48:UInt8)] (zg .i64 c'))+length i'≤4611686018427387904)) (.ite h' (L2 v3 b' v5n g' (o1++[OU [(48:UInt8)] (zg .i64 c')++AX (getD a' 0 0)]) o0) .fail) .fail) .fail) (.ite h' (L2 v3 b' v5n g' (o1++[AX (getD a' 0 0)]) o0) .fail)) .fail) .fail) (.ite (decide ((↑(length b'):Int)>0)) (.ite true (.ite true (.ite (f'&&d') (L2 v3 b' v5n g' (o1++[OU [(48:UInt8)] (zg .i64 (18-1))++[(48:UInt8)]]) o0) .fail) .fail) .fail) (.ite (f'&&d') (L2 v3 b' v5n g' (o1++[[(48:UInt8)]]) o0) .fail))) .fail) (.ite v3 (.ite true (.ite true (L6 v6n e' (z6 (fun b=>(↑(zP b):Int)) [(45:UInt8)]) 1 o1) .fail) (L7 v6n e' o1)) (L8 v6n e' o1)):=by kernel_rfl
theorem Hg(v6n:Nat)(v11:Int)(o2:List Int)(o1n:Nat)(o0:List (List UInt8)):stepT Ph (L6 v6n v11 o2 o1n o0)=let a':=getD o0 (toNat v11) [];.ite (decide (v11≥0)) (.ite (decide (0≤v11)&&decide (v11<(↑v6n:Int))) (.ite (decide (toNat v11<length o0)) (.ite (decide (o1n=length o2)&&decide ((2*(o1n+length (z6 (fun b=>(↑(zP b):Int)) a'))+1000)*1≤281474976710656)) (L6 v6n (zg .i64 (v11-1)) (o2++z6 (fun b=>(↑(zP b):Int)) a') (qe o1n (length (z6 (fun b=>(↑(zP b):Int)) a'))) o0) .fail) .fail) .fail) (.ite (decide (0<o1n)) (.ite (decide (0<(↑o1n:Int))&&decide (toNat (↑o1n:Int)≤length o2)&&decide (toNat (↑o1n:Int)≤9223372036854775807)&&List.all o2 fun x=>decide (0≤x)&&decide (x<256)) (.leaf (.dat Sh.str (z6 (fun x=>zL (toNat x)) (take (toNat (↑o1n:Int)) o2))) ([(1,qd 222 [.ptr 1 0,.sl 2 1 0 o1n none]),(0,.arr false 9 Sh.str o0)])) .fail) .fail):=by kernel_rfl
theorem I5(v6n:Nat)(v11:Int)(o0:List (List UInt8)):stepT Ph (L8 v6n v11 o0)=let a':=getD o0 (toNat v11) [];let b':=zg .i64 (v11-1);.ite (decide (v11≥0)) (.ite (decide (0≤v11)&&decide (v11<(↑v6n:Int))) (.ite (decide (toNat v11<length o0)) (.ite (decide (0<length (z6 (fun b=>(↑(zP b):Int)) a'))) (.ite (decide ((2*length (z6 (fun b=>(↑(zP b):Int)) a')+1000)*1≤281474976710656)) (L6 v6n b' (z6 (fun b=>(↑(zP b):Int)) a') (length (z6 (fun b=>(↑(zP b):Int)) a')) o0) .fail) (L7 v6n b' o0)) .fail) .fail) .fail:=by kernel_rfl
end T200
end
theorem Ld{f:FuncId}{sp:Ao}{q:List V→H→Option (V×H)}(hp:AT.prim f=none)(hfn:∃i,AT.fn f=some i)(hq:AT.spec f=some q)
  (hrun:∀(F:Fz) (h:H) (args:List V) (i:(By sp.ins).T),Gh h→K0 F (Ah sp.ins i) args→sp.pre i=true→∃v,q args h=some (v,h)∧PC F (one (Ah sp.outs (sp.f i))) v):Ae AT f sp:=by
 refine .wR ⟨hp,hfn,fun F h args i hfz hlt hgh hargs hpre=>?_⟩;obtain⟨v,h1,h2⟩:=hrun F h args i hgh hargs hpre;refine⟨[(v,h)],1,fun m hm=>?_,fun _=>⟨_,rfl⟩,fun x hx=>?_⟩
 ·obtain⟨m',rfl⟩:∃m',m=m'+1:=⟨m-1,by omega⟩;rw[Bf];simp only[hq,h1]
 ·cases yy.1 hx;exact⟨zV _,fun _ _=>rfl,hlt,F,fun _ _ h=>h,fun _ _ h=>.inl h,hfz,h2⟩
theorem uR:∃cs t fz,(3,O.cells cs t fz)∈Fu∧qM cs Lib.pow10Tab=true:=⟨_,_,_,List.mem_cons_self ..,by kernel_rfl⟩
theorem XJ{h:H}(hg:Gh h):Sc h=true:=by
 obtain⟨cs,t,fz,h1,h2⟩:=uR;have h3:=hg _ h1;unfold Sc;rw[h3];exact h2
theorem lG:Ae AT 124 dX:=by
 refine Ld (q:=W3) (by kernel_rfl) (Ad (by kernel_rfl)) rfl fun F h args (n:Int) hg ha hp=>?_
 have hp:Sp.BG n=true:=hp;have ha:args=[.int .i64 n]:=by
  have:=ha (fun _=>none) 0;simp only[Ah,dX,Ba]at this;obtain⟨v,vs,rfl,h1,rfl⟩:=this;obtain rfl:=Cu h1;rfl
 subst ha;refine⟨.str (Lib.itoa n),?_,fun ρ N=>Jt _⟩;have:=Ce hp;have c1:decide (-9223372036854775808≤n)=true:=decide_eq_true (by omega);have c2:decide (n≤9223372036854775807)=true:=decide_eq_true (by omega);simp only[W3,XJ hg,c1,c2,Bool.and_self,cond_true]
theorem X5:Ae AT 250 Qw:=by
 refine Ld (q:=Rt) (by kernel_rfl) (Ad (by kernel_rfl)) rfl fun F h args (i:List UInt8×Int) hg ha hp=>?_
 obtain⟨s,n⟩:=i;have hp:(decide (0≤n)&&decide (n≤1000)&&decide (s.length≤1000))=true:=hp;rw[ze,ze,decide_eq_true_eq,decide_eq_true_eq,decide_eq_true_eq]at hp;obtain⟨⟨h0,h1⟩,h2⟩:=hp;obtain⟨c,rfl⟩:=zZ h0;have ha:args=[.str s,.int .i64 (c:Int)]:=by
  have:=ha (fun _=>none) 0;simp only[Ah,Qw,Ba]at this;obtain⟨v,vs,rfl,h3,w,ws,rfl,h4,rfl⟩:=this;obtain rfl:=EG h3;obtain rfl:=Cu h4;rfl
 subst ha;refine⟨.str (Sp.OU s (c:Int)),?_,fun ρ N=>Jt _⟩;have c1:qz c 9223372036854775807=true:=yj (by omega);have c2:qz (Dk s*c) 140737488355328=true:=yj (by
  rw[Cs];have:s.length*c≤1000*1000:=Nat.mul_le_mul h2 (by omega);omega)
 show(bif qz c 9223372036854775807&&qz (Dk s*c) 140737488355328 then some (V.str (Lib.repeatL s c),h)else none)=_;rw[c1,c2];rfl
theorem cY:Ae AT 249 Tg:=by
 refine Ld (q:=fmtQ) (by kernel_rfl) (Ad (by kernel_rfl)) rfl fun F h args (i:Int×Int) hg ha hp=>?_
 obtain⟨u,b⟩:=i;have hp:(decide (0≤u)&&decide (u<1000000000000000000)&&decide (b=10))=true:=hp;rw[ze,ze,decide_eq_true_eq,decide_eq_true_eq,decide_eq_true_eq]at hp;obtain⟨⟨h0,h1⟩,rfl⟩:=hp;obtain⟨c,rfl⟩:=zZ h0;have ha:args=[.int .u64 (c:Int),.int .i64 10]:=by
  have:=ha (fun _=>none) 0;simp only[Ah,Tg,Ba]at this;obtain⟨v,vs,rfl,h3,w,ws,rfl,h4,rfl⟩:=this;obtain rfl:=Cu h3;obtain rfl:=Cu h4;rfl
 subst ha;refine⟨.str (Sp.AX (c:Int)),?_,fun ρ N=>Jt _⟩;have c1:qz c 18446744073709551615=true:=yj (by omega);have e:Sp.AX (c:Int)=zy c:=Lib.itoa_nonneg _;rw[e];show(bif Sc h&&(qz c 18446744073709551615&&Nat.beq 10 10)then some (V.str (zy c),h)else none)=_;rw[XJ hg,c1];rfl
namespace T200
abbrev gM(s:List UInt8):List Int:=z6 (fun b=>(↑(zP b):Int)) s
theorem T4:∀s:List UInt8,z6 (fun x:Int=>zL (ye x)) (gM s)=s
 |[]=>rfl
 |b::s=>by
  have:=T4 s;simp only[gM,List.map_cons]at this ⊢;rw[this];simp
theorem Wg:∀s:List UInt8,(List.all (gM s) fun x=>decide ((0:Int)≤x)&&decide (x<(256:Int)))=true
 |[]=>rfl
 |b::s=>by
  have h1:=Wg s;have h2:=b.toNat_lt;simp only[gM,List.map_cons,zM]at h1 ⊢;rw[h1,qp,ze,decide_eq_true_eq,decide_eq_true_eq];omega
theorem iO(a b:List UInt8):gM a++gM b=gM (a++b):=by simp[gM]
variable {Q:PV→Ob→Prop}
theorem Em(o0:List (List UInt8))(T:List UInt8)(hT:T.length≤1000000)(hl:o0.length≤1000000)(hq:∀ob,Q (.dat .str T) ob):∀(i:Nat) (acc:List UInt8) (v11:Int) (n:Nat),i≤o0.length→v11=(i:Int)-1→n=acc.length→0<acc.length→acc++(o0.take i).reverse.flatten=T→
  Ends Ph (L6 o0.length v11 (gM acc) n o0) Q
 |0,acc,v11,n,_,hv,hn,h0,he=>by
  have he:acc=T:=by simpa using he
  subst he hn;refine zm (Hg ..) (zq (decide_eq_false (by omega)) (zc (decide_eq_true h0) (zc (Ac (Ac (Ac (decide_eq_true (by omega)) (decide_eq_true (by simp))) (decide_eq_true (by simp;omega))) (Wg acc)) (zh ?_))));have e:z6 (fun x:Int=>zL (ye x)) (qo (ye (acc.length:Int)) (gM acc))=acc:=by
   rw[zj,zp (by simp),T4]
  rw[e];exact hq _
 |i+1,acc,v11,n,hi,hv,hn,h0,he=>by
  have hg:List.getD o0 (ye v11) []=o0[i]:=by
   rw[show ye v11=i from by omega];simp[show i<o0.length from hi]
  have hs:acc++o0[i]++(o0.take i).reverse.flatten=T:=by
   have ht:o0.take (i+1)=o0.take i++[o0[i]]:=yh hi;rw[←he,ht,List.reverse_append,qh,List.singleton_append,List.flatten_cons,List.append_assoc]
  have hlen:=congrArg qn hs;simp only[zn]at hlen;refine zm (Hg ..) (zc (decide_eq_true (by omega)) (zc (Ac (decide_eq_true (by omega)) (decide_eq_true (by omega))) (zc (decide_eq_true (by omega)) ?_)));rw[hg];refine zc (Ac (decide_eq_true (by simp[hn])) (decide_eq_true (by rw[yf];omega))) ?_;rw[iO,wr (v11-1) (by omega) (by omega)];exact Em o0 T hT hl hq i (acc++o0[i]) (v11-1) _ (by omega) (by omega) (by rw[zn,yf,hn];rfl) (by rw[zn];omega) hs
theorem EN(o0:List (List UInt8))(T:List UInt8)(hT:T.length≤1000000)(hl:o0.length≤1000000)(hq:∀ob,Q (.dat .str T) ob)(i:Nat)(hi:i+1=o0.length)(v11:Int)(hv:v11=(i:Int))(hpos:0<(o0[i]'(by omega)).length)(he:o0.reverse.flatten=T):
  Ends Ph (L8 o0.length v11 o0) Q:=by
 have hi':i<o0.length:=by omega
 have hg:List.getD o0 (ye v11) []=o0[i]:=by
  rw[show ye v11=i from by omega];simp[hi']
 have hs:o0[i]++(o0.take i).reverse.flatten=T:=by
  have ht:o0.take (i+1)=o0.take i++[o0[i]]:=yh hi';rw[hi,zN]at ht;rw[←he];conv=>rhs;rw[ht]
  rw[List.reverse_append,qh,List.singleton_append,List.flatten_cons]
 have hlen:=congrArg qn hs;simp only[zn]at hlen;refine zm (I5 ..) (zc (decide_eq_true (by omega)) (zc (Ac (decide_eq_true (by omega)) (decide_eq_true (by omega))) (zc (decide_eq_true (by omega)) ?_)));rw[hg];refine zc (decide_eq_true (by rw[yf];exact hpos)) (zc (decide_eq_true (by rw[yf];omega)) ?_);rw[wr (v11-1) (by omega) (by omega)];exact Em o0 T hT hl hq i o0[i] (v11-1) _ (by omega) (by omega) (by rw[yf]) hpos hs
end T200
end Go.Pe
end
section
namespace Go.Pe
open Sp
open Go.Det
theorem Tn{r:Int}(h0:0<r)(h1:r<18446744073709551616):Bo r=[r]:=by
 have hd:Au Ak [r]:=by
  intro x hx;rw[yy]at hx;subst hx;exact⟨by omega,h1⟩
 have hn:Sp.nz [r]:=by
  unfold Sp.nz;simp;omega
 have:=HN (b:=Ak) (by decide) hd hn;have hv:z8 Ak [r]=r:=by simp[z8]
 rw[hv]at this;exact this.symm
theorem Ky:Bo 0=[]:=by
 unfold Bo;rfl
theorem OQ:An [1000000000000000000]=1000000000000000000:=by simp[An,z8]
theorem Yj(n:Nat):OU [48] (n:Int)=List.replicate n 48:=by
 unfold OU;rw[zj];induction n with
 |zero=>rfl
 |succ n ih=>rw[Lib.repeatL,ih];rfl
theorem Si(V:Nat):An (Bo (V:Int))=(V:Int):=CH (b:=Ak) (by decide) (by omega)
theorem eW{V:Nat}(hV:(V:Int)<(Ak:Int)^9000):Re (Bo (V:Int)) [1000000000000000000]=true:=by
 obtain⟨n1,n2,n3⟩:=CL (n:=(V:Int)) (by omega) hV (by omega);have h1:=Jz (n:=(V:Int)) (by omega) hV;unfold Re;refine Ac (Ac (Ac (Ac n1 ?_) (decide_eq_true h1)) (decide_eq_true (by decide))) (decide_eq_true (by rw[OQ];decide));decide
theorem Ts(V:Nat):Bo (An (Bo (V:Int))/An (qo 1 [1000000000000000000]))=Bo ((V/10^18:Nat):Int):=by
 rw[Si,show qo 1 [(1000000000000000000:Int)]=[1000000000000000000]from rfl,OQ];congr 1
theorem Tx(V:Nat):Bo (An (Bo (V:Int)) % An (qo 1 [1000000000000000000]))=Bo ((V % 10^18:Nat):Int):=by
 rw[Si,show qo 1 [(1000000000000000000:Int)]=[1000000000000000000]from rfl,OQ];congr 1
theorem Is{V:Nat}(h:0<V):0<(Bo (V:Int)).length:=by
 rcases yb (Bo (V:Int)).length with e|e
 ·have h1:=Si V;rw[zR.1 e]at h1;have h2:An []=0:=rfl;rw[h2]at h1;omega
 ·exact e
end Go.Pe
end
section
namespace Go.Pe
open Sp
open Go.Det
theorem MZ:∀(k u:Nat),u<10^(k+1)→Lib.nDigits u≤k+1
 |0,u,h=>by rw[Lib.nDigits_small (by omega)];omega
 |k+1,u,h=>by
  by_cases c:u<10
  ·rw[Lib.nDigits_small c];omega
  ·rw[Lib.nDigits_big c];have:u/10<10^(k+1):=by rw[Nat.pow_succ]at h;omega
   have:=MZ k (u/10) this;omega
theorem Ra{r:Nat}(h:r<10^18):(zy r).length≤18:=by
 rw[yo];exact MZ 17 r h
theorem Lf(r:Nat):AX (r:Int)=zy r:=Lib.itoa_nonneg r
theorem Rn(r:Nat)(h:r<10^18):OU [48] ((18:Int)-((zy r).length:Int))++zy r=Fv 18 r:=by
 have:=Ra h;rw[show(18:Int)-((zy r).length:Int)=((18-(zy r).length:Nat):Int)from by omega,Yj,yo];rfl
structure Small(V:Nat):Prop where
 h:(V:Int)<(Ak:Int)^9000
theorem Small.le{a b:Nat}(h:Small b)(hab:a≤b):Small a:=⟨zK (Int.ofNat_le.mpr hab) h.h⟩
theorem Small.div{V:Nat}(h:Small V):Re (Bo (V:Int)) [1000000000000000000]=true:=eW h.h
namespace T200
variable {Q:PV→Ob→Prop}
def Exit(neg:Bool)(G:List (List UInt8))(Q:PV→Ob→Prop):Prop:=Ends Ph (.ite neg (.ite true (.ite true (L6 G.length (zg IntKind.i64 ((G.length:Int)-1)) (z6 (fun b=>(↑(zP b):Int)) [(45:UInt8)]) 1 G) .fail) (L7 G.length (zg IntKind.i64 ((G.length:Int)-1)) G)) (L8 G.length (zg IntKind.i64 ((G.length:Int)-1)) G)) Q
theorem AU(neg:Bool)(G:List (List UInt8))(hG:G.length≤1000000)(hfin:Exit neg G Q):∀(f V:Nat) (o1:List (List UInt8)),V<f→Small V→o1++(if V=0 then[]else B8 f V)=G→Ends Ph (L2 neg (Bo (V:Int)) 1 o1.length o1 [1000000000000000000]) Q
 |0,V,o1,h,_,_=>by omega
 |f+1,V,o1,h,hV,he=>by
  rcases yb V with h0|h0
  ·subst h0;have he:o1=G:=by simpa using he
   subst he;refine zm (A3 ..) (zq (by rw[show((0:Nat):Int)=0 from rfl,Ky];rfl) ?_);exact hfin
  have hlt:V % 10^18<10^18:=Nat.mod_lt _ (by decide);rw[if_neg (by omega)]at he;have hg:∀s,s=(if V/10^18=0 then zy (V % 10^18)else Fv 18 (V % 10^18))→(o1++[s])++(if V/10^18=0 then[]else B8 f (V/10^18))=G:=by
   rintro s rfl;rw[←he,List.append_assoc];congr 1;have eg:B8 (f+1) V=if V<10^18 then[zy V]else Fv 18 (V % 10^18)::B8 f (V/10^18):=rfl
   rw[eg];by_cases c:V<10^18
   ·rw[if_pos c,if_pos (by omega),if_pos (by omega),Nat.mod_eq_of_lt c];rfl
   ·rw[if_neg c,if_neg (by omega),if_neg (by omega)];rfl
  have hsz:o1.length+1≤1000000:=by
   have:=congrArg qn (hg _ rfl);simp only[zn,List.length_singleton]at this;omega
  have next:∀s,s=(if V/10^18=0 then zy (V % 10^18)else Fv 18 (V % 10^18))→Ends Ph (L2 neg (Bo ((V/10^18:Nat):Int)) 1 (qe o1.length 1) (o1++[s]) [1000000000000000000]) Q:=by
   intro s hs;have:=AU neg G hG hfin f (V/10^18) (o1++[s]) (by omega) (hV.le (Nat.div_le_self _ _)) (hg s hs);rw[zn]at this;exact this
  refine zm (A3 ..) (zc (decide_eq_true (by have:=Is h0;omega)) (zc (Ac rfl hV.div) ?_));rw[Ts,Tx];rcases yb (V % 10^18)with r0|r0
  ·have q0:V/10^18≠0:=by omega
   rw[r0,show((0:Nat):Int)=0 from rfl,Ky];refine zq rfl (zc (decide_eq_true (by have:=Is (V:=V/10^18) (by omega);omega)) (zc rfl (zc rfl (zc (Ac (decide_eq_true rfl) (decide_eq_true (by omega))) (next _ ?_)))));have hp:=Rn 0 (by decide);rw[Lib.decDigits_one (by omega)]at hp;rw[if_neg q0,r0, ←hp];rfl
  ·rw[Tn (r:=((V % 10^18:Nat):Int)) (by omega) (by omega)];have hgd:List.getD [((V % 10^18:Nat):Int)] 0 0=((V % 10^18:Nat):Int):=rfl;rw[hgd,Lf];have hd:=Ra hlt;have hr18:((V % 10^18:Nat):Int)<1000000000000000000:=by omega
   have h18:0<(zy (V % 10^18)).length:=by
    rw[yo,Lib.nDigits];split<;>omega
   refine zc rfl (zc rfl (zc (Ac (Ac (decide_eq_true (Int.natCast_nonneg _)) (decide_eq_true hr18)) rfl) ?_));rw[wr _ (by omega) (by omega)];by_cases q0:V/10^18=0
   ·rw[q0];refine zq (by rw[show((0:Nat):Int)=0 from rfl,Ky];rfl) (zc (Ac (Ac rfl (decide_eq_true rfl)) (decide_eq_true (by omega))) ?_);have:=next _ rfl;rw[if_pos q0,q0]at this;exact this
   ·have hpad:=Rn _ hlt;refine zc (decide_eq_true (by have:=Is (V:=V/10^18) (by omega);omega)) (zc (Ac (Ac (decide_eq_true (by omega)) (decide_eq_true (by omega))) rfl) (zc (decide_eq_true ?_) (zc (Ac (Ac rfl (decide_eq_true rfl)) (decide_eq_true (by omega))) (next _ ?_))))
    ·rw[←zn,hpad];unfold Fv;rw[zn,List.length_replicate];omega
    ·rw[if_neg q0];exact hpad
end T200
end Go.Pe
end
