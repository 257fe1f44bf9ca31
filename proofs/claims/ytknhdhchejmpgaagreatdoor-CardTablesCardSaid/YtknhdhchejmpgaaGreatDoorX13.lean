import Derived.Test.YtknhdhchejmpgaaGreatDoorX12
import Derived.Test.YtknhdhchejmpgaaGreatDoorX11
import Derived.Test.YtknhdhchejmpgaaGreatDoorX10
import Derived.Test.YtknhdhchejmpgaaGreatDoorX07
import Derived.Test.YtknhdhchejmpgaaGreatDoorX09
/- A part of a proof (no law is stated here). Made by program out of texts by AI agents. -/
open Go.Pe.Ends renaming tt → zc, leaf → zf, As → zj, ite → zl, ff → zn, eq → zI
open Bool renaming and_eq_true → zd, true_and → zX, and_true → yO
open Go.IntKind renaming wrap → ze, u64 → yh
open Int renaming toNat_natCast → zg, mul_le_mul_of_nonneg_left → zq, lt_of_lt_of_le → zr, natAbs_natCast → zt, le_of_lt → zz, lt_of_le_of_lt → zA, mul_le_mul_of_nonneg_right → zF, ne_of_gt → zK, eq_ofNat_of_zero_le → zS, pow_succ → zW, natAbs_mul → zY, toNat → zZ, mul_comm → yk, le_trans → ym, gcd → yn, mul_nonneg → yp, tdiv_eq_ediv_of_nonneg → yr, tmod_eq_emod_of_nonneg → yt, natAbs_ediv_le_natAbs → yy, mul_pos → yA, mul_one → yB, ediv_eq_iff_of_pos → yE, sign_eq_one_of_pos → yF, one_mul → yI, le_refl → yJ, add_assoc → yP, gcd_comm → yU, ediv_one → yV
open Go.Sp renaming vI → zh, AO → zu, B9 → zy, val → zV, gI → yH, De → yQ, first → yS, preB → yT
open List renaming length_drop → zi, length_append → zk, take_of_length_le → zm, length_take → zp, all_cons → zC, take_length → zE, length_eq_zero_iff → zJ, length_cons → zM, getD_eq_getElem?_getD → zN, getElem?_eq_getElem → zQ, map → zT, length_map → z7, take_succ_eq_append_getElem → yb, take_append_drop → yc, all_eq_true → yf, findIdx?_cons → yq, mem_singleton → yu, reverse_singleton → yG, length → yM, take → yN
open Go.Lib renaming decDigits → zo, itoa → zD, decDigits_length → zP
open Rat renaming num_divInt_den → zw, divInt → zG, divInt_add_divInt → yd, num_eq_zero → yj, num_divInt → yv, den_divInt → yw, neg_num → yK, neg_den → yL
open Nat renaming le_refl → zB, zero_le → zU, eq_zero_or_pos → z8, lt_of_le_of_lt → ya, ble_eq_true_of_le → ye, sub → yg, pow_le_pow_right → yi, add_sub_cancel → yo, lt_of_lt_of_le → yx, add → yD, ble → yW, pow_succ → yX
open UInt8 renaming ofNat → zH, toNat → zL, toNat_inj → zO
open Go.Pe.Af renaming of → zR
open Classical renaming byContradiction → yz
open Go.Pe.Obj renaming tbox → yC
open Go.Pe.Sh renaming int → yR
section
namespace Go.Pe
open Sp
open Go.Det
namespace T165
theorem Aj{Q:PV→Ob→Prop}(s:List UInt8)(hs:Al s=true)(hl:s.length≤18)(hq:∀ob,Q (.dat i64 (AA 0 s)) ob):∀(r:List UInt8) (i:Nat),s.drop i=r→i≤s.length→Ends XU (L1 s (AA 0 (s.take i)) i) Q
 |[],i,h,hi=>by
  have he:i=s.length:=drop_nil h hi;subst he;rw[zE];exact zj (Ar ..) (zn (by simp) (zf (hq _)))
 |c::r,i,h,hi=>by
  obtain⟨h1,h2,h3⟩:=drop_cons (d:=0) h;have hb:=Be (Bc hs i);have hlen:(s.take i).length=i:=by rw[zp];omega
  rw[hlen]at hb;have hp:(10:Int)^i≤10^17:=AL (by decide) (by omega);have hc:BJ c=true:=by
   unfold Al at hs;rw[yf]at hs;exact hs c (NQ h)
  have hd:=CH hc;have hc0:48≤c.toNat∧c.toNat≤57:=by unfold Hb at hd;omega
  have e1:ze .i64 (c.toNat:Int)=(c.toNat:Int):=wr _ (by omega) (by omega);have hp17:(10:Int)^17=100000000000000000:=by decide
  have e2:ze .i64 (ze .i64 (ze .i64 (10*AA 0 (s.take i))+(c.toNat:Int))-48)=AA 0 (s.take (i+1)):=by
   rw[K3 h,CB];show _=10*AA 0 (s.take i)+((c.toNat:Int)-48);generalize AA 0 (s.take i)=D at*;rw[wr (10*D) (by omega) (by omega),wr (10*D+(c.toNat:Int)) (by omega) (by omega),wr _ (by omega) (by omega)];omega
  have e3:ze .i64 ((i:Int)+1)=((i+1:Nat):Int):=by rw[wr _ (by omega) (by omega)];omega
  refine zj (Ar ..) (zc (by simp;omega) ?_);rw[zg,h2,e1,e2,e3];exact zc (by simp;omega) (Aj s hs hl hq r (i+1) h3 h1)
theorem ok:Ae AV 165 Rn:=by
 refine AB (X:=XU) rfl QU (d:=9) (by kernel_rfl) (by kernel_rfl) (by kernel_rfl) (fun(s:List UInt8) hs=>?_) (Ad (by kernel_rfl));have hs:(decide (s.length≤18)&&Al s)=true:=hs;rw[zd,decide_eq_true_eq]at hs;exact zI (An s) (Aj s hs.2 hs.1 (fun ob=>zR rfl rfl rfl) s 0 rfl (zU _))
end T165
theorem lF:∀g sp,YC.sp g=some sp→Ae AV g sp:=Ac T165.ok (Ac T168.ok (fun g sp h=>by cases h))
theorem Lv{neg:Bool}{w:List Int}{D:Int}(hd:Av zy w)(hv:zV zy w=D):(B5 neg w,Au w)=(Sp.rN (if neg=true then -D else D),Sp.rW (if neg=true then -D else D)):=by
 have h0:=Az (b:=zy) (by decide) hd;rw[hv]at h0;have hw:Au w=BN D:=by rw[Fj hd];show BN (zV zy w)=_;rw[hv]
 have hnil:BN D=[]↔D=0:=qS (by decide) h0;have ea:Ag (if neg=true then -D else D)=D:=by rw[Ai];split<;>omega
 unfold B5 Sp.rW Sp.rN;rw[ea,hw];congr 1;cases neg with
 |false=>simp;omega
 |true=>
  simp only[if_true,zX,ne_eq,hnil,decide_eq_decide];omega
end Go.Pe
namespace Go.Pe
open Sp
open Go.Det
namespace T163
variable {Q:PV→Ob→Prop}
theorem uS:(10:Int)^9=1000000000:=by decide
theorem IB{s:List UInt8}{m:Nat}(hm:m+9=s.length):AA 0 s=AA 0 (s.take m)*1000000000+AA 0 (s.drop m):=by
 conv=>lhs;rw[←yc m s]
 rw[CB,Ec (s.drop m),zi,show s.length-m=9 by omega,uS]
theorem Cj{s:List UInt8}(hs:Al s=true)(h:s.length≤9):0≤AA 0 s∧AA 0 s<1000000000:=by
 have:=Be hs;have h2:(10:Int)^s.length≤10^9:=AL (by decide) h;rw[uS]at h2;omega
theorem BU{s:List UInt8}(hs:Al s=true)(h:s.length≤18):Dx s=true:=by
 unfold Dx;rw[hs,yO];exact decide_eq_true h
theorem Cs(neg:Bool)(D:Int)(hq:∀(w:List Int) ob,Av zy w→zV zy w=D→Q (.agg [.dat .bool (B5 neg w),.dat li (Au w)]) ob):∀(f:Nat) (s:List UInt8) (o1:List Int),s.length≤f→Al s=true→o1.length+s.length≤6000→Av zy o1→zV zy o1+(zy:Int)^o1.length*AA 0 s=D→Ends YC (L3 s neg o1.length o1) Q:=by
 intro f;induction f with
 |zero=>
  intro s o1 hf hs hl hd he;have h9:s.length≤9:=by omega
  have hv:=Cj hs h9;have ht:(o1++[Bv s]).take (yD o1.length 1)=o1++[Bv s]:=zm (by simp);refine zj (CN ..) (zn (by simp;omega) (zc (BU hs (by omega)) (zc (by simp;omega) ?_)));rw[ht];refine zc (by simp;omega) (zf (hq _ _ (ER hd hv) ?_));rw[B6];exact he
 |succ f ih=>
  intro s o1 hf hs hl hd he;by_cases h9:s.length≤9
  ·have hv:=Cj hs h9;have ht:(o1++[Bv s]).take (yD o1.length 1)=o1++[Bv s]:=zm (by simp);refine zj (CN ..) (zn (by simp;omega) (zc (BU hs (by omega)) (zc (by simp;omega) ?_)));rw[ht];refine zc (by simp;omega) (zf (hq _ _ (ER hd hv) ?_));rw[B6];exact he
  ·obtain⟨m,hm⟩:∃m,m+9=s.length:=⟨s.length-9,by omega⟩;have e1:ze .i64 ((s.length:Int)-9)=(m:Int):=by rw[wr _ (by omega) (by omega)];omega
   have e2:(s.drop m).take (yg s.length m)=s.drop m:=zm (by rw[zi];exact zB _);have hv:=Cj (BO hs m) (by rw[zi];omega);refine zj (CN ..) (zc (by simp;omega) ?_);rw[e1,zg,e2];refine zc (by simp;omega) (zc (BU (BO hs m) (by rw[zi];omega)) (zc (by simp;omega) (zc (by simp;omega) ?_)));have:=ih (s.take m) (o1++[Bv (s.drop m)]) (by rw[zp];omega) (Bc hs m) (by simp;omega) (ER hd hv) (by
    rw[B6,zk];show zV zy o1+(zy:Int)^o1.length*AA 0 (s.drop m)+(zy:Int)^(o1.length+1)*AA 0 (s.take m)=D;rw[Jl,yP, ←Int.mul_add, ←he,IB hm];congr 2;omega)
   rw[zk]at this;exact this
theorem BR(D:Int)(hq:∀(w:List Int) ob,Av zy w→zV zy w=D→Q (.agg [.dat .bool (B5 false w),.dat li (Au w)]) ob):∀(f:Nat) (s:List UInt8) (o1:List Int),s.length≤f→Al s=true→o1.length+s.length≤6000→Av zy o1→zV zy o1+(zy:Int)^o1.length*AA 0 s=D→Ends YC (L4 s o1.length o1) Q:=by
 intro f;induction f with
 |zero=>
  intro s o1 hf hs hl hd he;have h9:s.length≤9:=by omega
  have hv:=Cj hs h9;have ht:(o1++[Bv s]).take (yD o1.length 1)=o1++[Bv s]:=zm (by simp);refine zj (Dm ..) (zn (by simp;omega) (zc (BU hs (by omega)) (zc (by simp;omega) ?_)));rw[ht];refine zc (by simp;omega) (zf (hq _ _ (ER hd hv) ?_));rw[B6];exact he
 |succ f ih=>
  intro s o1 hf hs hl hd he;by_cases h9:s.length≤9
  ·have hv:=Cj hs h9;have ht:(o1++[Bv s]).take (yD o1.length 1)=o1++[Bv s]:=zm (by simp);refine zj (Dm ..) (zn (by simp;omega) (zc (BU hs (by omega)) (zc (by simp;omega) ?_)));rw[ht];refine zc (by simp;omega) (zf (hq _ _ (ER hd hv) ?_));rw[B6];exact he
  ·obtain⟨m,hm⟩:∃m,m+9=s.length:=⟨s.length-9,by omega⟩;have e1:ze .i64 ((s.length:Int)-9)=(m:Int):=by rw[wr _ (by omega) (by omega)];omega
   have e2:(s.drop m).take (yg s.length m)=s.drop m:=zm (by rw[zi];exact zB _);have hv:=Cj (BO hs m) (by rw[zi];omega);refine zj (Dm ..) (zc (by simp;omega) ?_);rw[e1,zg,e2];refine zc (by simp;omega) (zc (BU (BO hs m) (by rw[zi];omega)) (zc (by simp;omega) (zc (by simp;omega) ?_)));have:=ih (s.take m) (o1++[Bv (s.drop m)]) (by rw[zp];omega) (Bc hs m) (by simp;omega) (ER hd hv) (by
    rw[B6,zk];show zV zy o1+(zy:Int)^o1.length*AA 0 (s.drop m)+(zy:Int)^(o1.length+1)*AA 0 (s.take m)=D;rw[Jl,yP, ←Int.mul_add, ←he,IB hm];congr 2;omega)
   rw[zk]at this;exact this
theorem Aj(neg:Bool)(s:List UInt8)(hs:Al s=true)(hl:s.length≤5999)(hq:∀(w:List Int) ob,Av zy w→zV zy w=AA 0 s→Q (.agg [.dat .bool (B5 neg w),.dat li (Au w)]) ob):Ends YC (L1 s neg) Q:=by
 by_cases h9:s.length≤9
 ·have hv:=Cj hs h9;refine zj (Ar ..) (zn (by simp;omega) (zc (BU hs (by omega)) (zc rfl (zc rfl (zf (hq _ _ (ER (l:=[]) (fun x hx=>by cases hx) hv) ?_))))));show zV zy [AA 0 s]=_;exact DT _
 ·obtain⟨m,hm⟩:∃m,m+9=s.length:=⟨s.length-9,by omega⟩;have e1:ze .i64 ((s.length:Int)-9)=(m:Int):=by rw[wr _ (by omega) (by omega)];omega
  have e2:(s.drop m).take (yg s.length m)=s.drop m:=zm (by rw[zi];exact zB _);have hv:=Cj (BO hs m) (by rw[zi];omega);refine zj (Ar ..) (zc (by simp;omega) ?_);rw[e1,zg,e2];refine zc (by simp;omega) (zc (BU (BO hs m) (by rw[zi];omega)) (zc rfl (zc (by simp;omega) ?_)));refine Cs neg (AA 0 s) hq m (s.take m) [Bv (s.drop m)] (by rw[zp];omega) (Bc hs m) (by simp;omega) (ER (l:=[]) (fun x hx=>by cases hx) hv) ?_;rw[DT,IB hm];show AA 0 (s.drop m)+(zy:Int)^1*_=_;rw[zW,Int.pow_zero,yI,yk];exact Int.add_comm _ _
theorem AS(s:List UInt8)(hs:Al s=true)(hl:s.length≤5999)(hq:∀(w:List Int) ob,Av zy w→zV zy w=AA 0 s→Q (.agg [.dat .bool (B5 false w),.dat li (Au w)]) ob):Ends YC (L2 s) Q:=by
 by_cases h9:s.length≤9
 ·have hv:=Cj hs h9;refine zj (A1 ..) (zn (by simp;omega) (zc (BU hs (by omega)) (zc rfl (zc rfl (zf (hq _ _ (ER (l:=[]) (fun x hx=>by cases hx) hv) ?_))))));show zV zy [AA 0 s]=_;exact DT _
 ·obtain⟨m,hm⟩:∃m,m+9=s.length:=⟨s.length-9,by omega⟩;have e1:ze .i64 ((s.length:Int)-9)=(m:Int):=by rw[wr _ (by omega) (by omega)];omega
  have e2:(s.drop m).take (yg s.length m)=s.drop m:=zm (by rw[zi];exact zB _);have hv:=Cj (BO hs m) (by rw[zi];omega);refine zj (A1 ..) (zc (by simp;omega) ?_);rw[e1,zg,e2];refine zc (by simp;omega) (zc (BU (BO hs m) (by rw[zi];omega)) (zc rfl (zc (by simp;omega) ?_)));refine BR (AA 0 s) hq m (s.take m) [Bv (s.drop m)] (by rw[zp];omega) (Bc hs m) (by simp;omega) (ER (l:=[]) (fun x hx=>by cases hx) hv) ?_;rw[DT,IB hm];show AA 0 (s.drop m)+(zy:Int)^1*_=_;rw[zW,Int.pow_zero,yI,yk];exact Int.add_comm _ _
theorem ok:Ae AV 163 Q9:=by
 refine AB (X:=YC) rfl lF (d:=9) (by kernel_rfl) (by kernel_rfl) (by kernel_rfl) (fun(s:List UInt8) hs=>?_) (Ad (by kernel_rfl));have hs:(decide (s.length≤5999)&&(if s.getD 0 0=45 then Al (s.drop 1)else Al s))=true:=hs;rw[zd,decide_eq_true_eq]at hs;obtain⟨hl,hs⟩:=hs;have fin:∀(neg:Bool) (D:Int),Ca s=(if neg=true then -D else D)→∀(w:List Int) ob,Av zy w→zV zy w=D→Af Q9 s (.agg [.dat .bool (B5 neg w),.dat li (Au w)]) ob:=by
  intro neg D hr w ob hd hv;refine zR rfl rfl ?_;show(B5 neg w,Au w)=(Sp.rN (Ca s),Sp.rW (Ca s));rw[hr];exact Lv hd hv
 refine zI (An s) ?_;conv=>zeta
 cases s with
 |nil=>exact zn (by decide) (AS [] rfl (by decide) (fin false 0 rfl))
 |cons c r=>
  have g0:(c::r).getD 0 0=c:=rfl;rw[g0]at hs;rw[g0];refine zc (by simp) (zc (by simp) (zl (fun d=>?_) (fun d=>?_)))
  ·have hc:c=45:=by
    have:(c.toNat:Int)=45:=by simpa using d
    exact zO.1 (by show _=45;omega)
   rw[if_pos hc]at hs;have e:(List.drop 1 (c::r)).take (yg (c::r).length 1)=r:=by show r.take ((r.length+1)-1)=r;rw[yo];exact zE
   rw[d,e];refine zc (by simp) (Aj true r hs (by simp at hl;omega) (fin true _ ?_));unfold Ca;rw[g0,if_pos hc,if_pos rfl];rfl
  ·have hc:c≠45:=by
    rintro rfl;exact absurd d (by decide)
   rw[if_neg hc]at hs;rw[d];refine Aj false (c::r) hs hl (fin false _ ?_);unfold Ca;rw[g0,if_neg hc,if_neg (by decide)]
end T163
end Go.Pe
end
section
namespace Go.Pe
open Sp
open Go.Det
theorem lN:∀g sp,O7.sp g=some sp→Ae AV g sp:=
 Ac T105n.ok (Ac T216.ok (Ac T159.ok (Ac T158.ok (Ac T174.ok (Ac (GD (by kernel_rfl) (Ad (by kernel_rfl))) (Ac (GD (by kernel_rfl) (Ad (by kernel_rfl))) (fun g sp h=>by cases h)))))))
theorem RE(k:Nat):D9 18 (k:Int)=((min 18 k:Nat):Int):=by unfold D9;split<;>omega
theorem mG(n:Int):ze .u8 n=n % 256:=by simp[ze,IntKind.bits,IntKind.signed]
theorem dU(k:Nat):(10:Int)^k≤(Ak:Int)^k:=by
 induction k with
 |zero=>exact yJ _
 |succ k ih=>
  rw[zW,zW];have h1:=zF ih (show(0:Int)≤10 by decide);have h2:=zq (show(10:Int)≤(Ak:Int)by decide) (zz (AN (b:=Ak) (by decide) k));exact ym h1 h2
theorem FN{n:Int}(h0:0≤n)(h:n<(10:Int)^(6000:Nat)):Ba (CG n)=true:=by
 refine Du ?_;have h1:=dU 6000;have h2:(Ak:Int)^6000≤(Ak:Int)^9000:=AL (by decide) (by decide);have h3:Ag n=n:=by rw[Ai];omega
 rw[h3];exact zr h (ym h1 h2)
theorem MD(m n:Int):EA (Cp m,Cn m) (Cp n,Cn n)=Cp (m*n)∧Ez (Cp m,Cn m) (Cp n,Cn n)=Cn (m*n):=by
 constructor
 ·show Cp (zh (CG _)*zh (CG _))=_;rw[Cg,Cg]
 ·show Cn (zh (CG _)*zh (CG _))=_;rw[Cg,Cg]
theorem gM{a b:AT}(h:0≤zh a+zh b):D7 a b=CG (zh a+zh b):=by
 unfold D7;split
 ·next c=>
  have:=Em c.2.2;rw[Bn c.1,Bn c.2.1]at h ⊢;exact(BT (by omega)).symm
 ·rfl
theorem MS{m v:Int}(hm:0≤m)(hv:0≤v):HQ (Cp m,Cn m) (v,Eg v)=Cp (m+v)∧HJ (Cp m,Cn m) (v,Eg v)=Cn (m+v):=by
 have e1:zh (Cp m,Cn m)=m:=Cg m;have e2:zh (v,Eg v)=v:=by rw[D2,Eh]
 have:=gM (a:=(Cp m,Cn m)) (b:=(v,Eg v)) (by rw[e1,e2];omega);rw[e1,e2]at this;exact⟨congrArg Prod.fst this,congrArg Prod.snd this⟩
theorem MH(n:Nat):S7 ((10:Int),Eg (10:Int)) (n:Int)=Cp (10^n)∧Tg ((10:Int),Eg (10:Int)) (n:Int)=Cn (10^n):=by
 have e:Sp.pI (zh ((10:Int),Eg (10:Int))) (n:Int)=10^n:=by rw[QI,D2,Eh,zg]
 unfold S7 Tg;rw[e];exact⟨rfl,rfl⟩
theorem eZ:Ba ((10:Int),Eg (10:Int))=true:=by rw[D2];decide
theorem cR{n:Nat}(h:n≤18):aK (zh ((10:Int),Eg (10:Int))) (n:Int)=true:=by
 unfold aK;have e:Sp.pI (zh ((10:Int),Eg (10:Int))) (n:Int)=10^n:=by rw[QI,D2,Eh,zg]
 rw[e];have h1:(10:Int)^n≤10^18:=AL (by decide) h;have h0:(0:Int)<10^n:=AN (by decide) n;have h2:(10:Int)^18<18446744073709551616^1:=by decide
 have h3:(18446744073709551616:Int)^(1:Nat)≤18446744073709551616^(4000:Nat):=AL (by decide) (by decide);have h4:Ag ((10:Int)^n)=10^n:=by rw[Ai];omega
 rw[h4];exact Aa (Aa (decide_eq_true (by omega)) (decide_eq_true (by omega))) (decide_eq_true (zA h1 (zr h2 h3)))
theorem TC{v:Int}(h0:0≤v)(h:v<1000000000000000000):Ba (v,Eg v)=true:=by
 rw[D2];unfold Ba;exact Aa (My (Ds (by omega) (by omega))) (decide_eq_true (zU _))
theorem Wy{w:List UInt8}(hs:Al w=true)(h:w.length≤18):0≤AA 0 w∧AA 0 w<1000000000000000000:=by
 have:=Be hs;have h2:(10:Int)^w.length≤10^18:=AL (by decide) h;have h3:(10:Int)^18=1000000000000000000:=by decide
 omega
namespace T153
variable {Q:PV→Ob→Prop}
theorem Cc(W:List UInt8)(neg:Bool)(b1:Int)(b1w:List Int)(b0:Int)(w:List UInt8)(n:Nat)(hw:w=W.take n)(hW:Al W=true)(hn:n=min 18 W.length)(h1:1≤W.length)(a o0':Int)(a0:0≤a)(hj:Ba (CG a)=true)(hj2:Ba (CG (a*10^n))=true)
  (hgo:Ends O7 (L5 (W.drop n) neg (Cp (a*10^n+AA 0 w)) (Cn (a*10^n+AA 0 w)) o0') Q):
  ∀(r:List UInt8) (j:Nat),w.drop j=r→j≤w.length→Ends O7 (L7 W neg b1 b1w b0 w (AA 0 (w.take j)) w.length w.length j (w.map fun b=>(b.toNat:Int)) (Cp a) (Cn a) o0') Q
 |[],j,hr,hjw=>by
  have hdw:Al w=true:=by rw[hw];exact Bc hW n
  have hwl:w.length=n:=by rw[hw,zp];omega
  have he:j=w.length:=drop_nil hr hjw;subst he;have hv:=Wy hdw (by omega);obtain⟨c,t,hc⟩:∃c t,w=c::t:=by
   cases w with
   |nil=>simp at hwl;omega
   |cons c t=>exact⟨c,t,rfl⟩
  have hc0:((((w.getD 0 0).toNat:Int)==(45:Int))=false):=by
   rw[hc]at hdw ⊢;unfold Al at hdw;rw[zC,zd]at hdw;have:=CH hdw.1;unfold Hb at this;show(((c.toNat:Int)==(45:Int))=false);simp;omega
  have ht:(W.drop n).take (yg W.length n)=W.drop n:=zm (by rw[zi];exact zB _);have p0:0≤a*10^n:=yp a0 (zz (AN (by decide) n));have jp:Ba (Cp (10^n),Cn (10^n))=true:=by
   refine Fp (FN (n:=(10:Int)^n) (zz (AN (by decide) n)) ?_);have x1:(10:Int)^n≤10^18:=AL (by decide) (by omega);have x2:(10:Int)^18<10^19:=by decide
   have x3:(10:Int)^19≤10^(6000:Nat):=AL (by decide) (by decide);exact zA x1 (zr x2 x3)
  refine zj (FH ..) (zn (by simp) (zc (decide_eq_true (by omega)) ?_));rw[hc0,RE, ←hn,(MH n).1,(MH n).2,zE];refine zn rfl (zc rfl (zc (Aa eZ (cR (by omega))) (zc (Aa hj jp) (zc rfl ?_))));rw[(MD _ _).1,(MD _ _).2,(MS p0 hv.1).1,(MS p0 hv.1).2,zg,ht];exact zc (Aa hj2 (TC hv.1 hv.2)) (zc (by simp;omega) hgo)
 |c::r,j,hr,hjw=>by
  have hdw:Al w=true:=by rw[hw];exact Bc hW n
  have hwl:w.length=n:=by rw[hw,zp];omega
  obtain⟨g1,g2,g3⟩:=drop_cons (d:=0) hr;have hcd:BJ c=true:=by
   unfold Al at hdw;rw[yf]at hdw;exact hdw c (NQ hr)
  have hd:=CH hcd;have hlt:(w.take j).length=j:=by rw[zp];omega
  have hb:=Be (Bc hdw j);rw[hlt]at hb;have hp:(10:Int)^j≤10^17:=AL (by decide) (by omega);have hp17:(10:Int)^17=100000000000000000:=by decide
  have gm:(w.map fun b=>(b.toNat:Int)).getD j 0=(c.toNat:Int):=by
   rw[zN,List.getElem?_map,zQ g1];have:w[j]=c:=by rw[←g2,zN,zQ g1];rfl
   rw[this];rfl
  have e8:ze .u8 ((c.toNat:Int)-48)=Hb c:=by
   rw[mG];unfold Hb at hd ⊢;omega
  have e2:ze .i64 (ze .i64 (AA 0 (w.take j)*10)+ze .i64 (Hb c))=AA 0 (w.take (j+1)):=by
   rw[K3 hr,CB];show _=10*AA 0 (w.take j)+Hb c;generalize AA 0 (w.take j)=D at*;rw[wr (D*10) (by omega) (by omega),wr (Hb c) (by omega) (by omega),wr _ (by omega) (by omega)];omega
  have e3:ze .i64 ((j:Int)+1)=((j+1:Nat):Int):=by rw[wr _ (by omega) (by omega)];omega
  refine zj (FH ..) (zc (by simp;omega) ?_);rw[zg,gm,e8,e2,e3];refine zc (by simp;omega) (zc (by simp;omega) (zn (decide_eq_false (by omega)) ?_));exact Cc W neg b1 b1w b0 w n hw hW hn h1 a o0' a0 hj hj2 hgo r (j+1) g3 g1
theorem Cs(W:List UInt8)(neg:Bool)(b1:Int)(b0:Int)(w:List UInt8)(n:Nat)(hw:w=W.take n)(hW:Al W=true)(hn:n=min 18 W.length)(h1:1≤W.length)(a o0':Int)(ha:a=0)(a0:0≤a)(hj:Ba (CG a)=true)(hj2:Ba (CG (a*10^n))=true)
  (hgo:Ends O7 (L5 (W.drop n) neg (Cp (a*10^n+AA 0 w)) (Cn (a*10^n+AA 0 w)) o0') Q):
  ∀(r:List UInt8) (j:Nat),w.drop j=r→j≤w.length→Ends O7 (L3 W neg b1 b0 w (AA 0 (w.take j)) w.length w.length j (w.map fun b=>(b.toNat:Int)) 0 o0') Q
 |[],j,hr,hjw=>by
  have hdw:Al w=true:=by rw[hw];exact Bc hW n
  have hwl:w.length=n:=by rw[hw,zp];omega
  have he:j=w.length:=drop_nil hr hjw;subst he;have hv:=Wy hdw (by omega);obtain⟨c,t,hc⟩:∃c t,w=c::t:=by
   cases w with
   |nil=>simp at hwl;omega
   |cons c t=>exact⟨c,t,rfl⟩
  have hc0:((((w.getD 0 0).toNat:Int)==(45:Int))=false):=by
   rw[hc]at hdw ⊢;unfold Al at hdw;rw[zC,zd]at hdw;have:=CH hdw.1;unfold Hb at this;show(((c.toNat:Int)==(45:Int))=false);simp;omega
  have ht:(W.drop n).take (yg W.length n)=W.drop n:=zm (by rw[zi];exact zB _);have p0:0≤a*10^n:=yp a0 (zz (AN (by decide) n));have jp:Ba (Cp (10^n),Cn (10^n))=true:=by
   refine Fp (FN (n:=(10:Int)^n) (zz (AN (by decide) n)) ?_);have x1:(10:Int)^n≤10^18:=AL (by decide) (by omega);have x2:(10:Int)^18<10^19:=by decide
   have x3:(10:Int)^19≤10^(6000:Nat):=AL (by decide) (by decide);exact zA x1 (zr x2 x3)
  refine zj (CN ..) (zn (by simp) (zc (decide_eq_true (by omega)) ?_));rw[hc0,RE, ←hn,(MH n).1,(MH n).2,zE];refine zn rfl (zc rfl (zc (Aa eZ (cR (by omega))) (zc (Aa (show Ba ((0:Int),[])=true by decide) jp) (zc rfl ?_))));rw[show EA ((0:Int),[]) (Cp (10^n),Cn (10^n))=Cp (a*10^n)by rw[ha];exact(MD 0 _).1,show Ez ((0:Int),[]) (Cp (10^n),Cn (10^n))=Cn (a*10^n)by rw[ha];exact(MD 0 _).2,(MS p0 hv.1).1,(MS p0 hv.1).2,zg,ht];exact zc (Aa hj2 (TC hv.1 hv.2)) (zc (by simp;omega) hgo)
 |c::r,j,hr,hjw=>by
  have hdw:Al w=true:=by rw[hw];exact Bc hW n
  have hwl:w.length=n:=by rw[hw,zp];omega
  obtain⟨g1,g2,g3⟩:=drop_cons (d:=0) hr;have hcd:BJ c=true:=by
   unfold Al at hdw;rw[yf]at hdw;exact hdw c (NQ hr)
  have hd:=CH hcd;have hlt:(w.take j).length=j:=by rw[zp];omega
  have hb:=Be (Bc hdw j);rw[hlt]at hb;have hp:(10:Int)^j≤10^17:=AL (by decide) (by omega);have hp17:(10:Int)^17=100000000000000000:=by decide
  have gm:(w.map fun b=>(b.toNat:Int)).getD j 0=(c.toNat:Int):=by
   rw[zN,List.getElem?_map,zQ g1];have:w[j]=c:=by rw[←g2,zN,zQ g1];rfl
   rw[this];rfl
  have e8:ze .u8 ((c.toNat:Int)-48)=Hb c:=by
   rw[mG];unfold Hb at hd ⊢;omega
  have e2:ze .i64 (ze .i64 (AA 0 (w.take j)*10)+ze .i64 (Hb c))=AA 0 (w.take (j+1)):=by
   rw[K3 hr,CB];show _=10*AA 0 (w.take j)+Hb c;generalize AA 0 (w.take j)=D at*;rw[wr (D*10) (by omega) (by omega),wr (Hb c) (by omega) (by omega),wr _ (by omega) (by omega)];omega
  have e3:ze .i64 ((j:Int)+1)=((j+1:Nat):Int):=by rw[wr _ (by omega) (by omega)];omega
  refine zj (CN ..) (zc (by simp;omega) ?_);rw[zg,gm,e8,e2,e3];refine zc (by simp;omega) (zc (by simp;omega) (zn (decide_eq_false (by omega)) ?_));exact Cs W neg b1 b0 w n hw hW hn h1 a o0' ha a0 hj hj2 hgo r (j+1) g3 g1
theorem iJ(W:List UInt8)(neg:Bool)(o1:Int)(o1w:List Int)(o0:Int)(hW:Al W=true)(h1:1≤W.length)(n:Nat)(hn:n=min 18 W.length)
  (h:Ends O7 (L7 W neg o1 o1w o0 (W.take n) 0 (W.take n).length (W.take n).length 0 ((W.take n).map fun b=>(b.toNat:Int)) o1 o1w o0) Q):Ends O7 (L5 W neg o1 o1w o0) Q:=by
 have hwl:(W.take n).length=n:=by rw[zp];omega
 have hdw:=Bc hW n;have hc:((((W.take n).getD 0 0).toNat:Int)==(45:Int))=false∧((((W.take n).getD 0 0).toNat:Int)==(43:Int))=false:=by
  cases hq:W.take n with
  |nil=>rw[hq]at hwl;simp at hwl;omega
  |cons c t=>
   rw[hq]at hdw;unfold Al at hdw;rw[zC,zd]at hdw;have:=CH hdw.1;unfold Hb at this;show(((c.toNat:Int)==(45:Int))=false)∧(((c.toNat:Int)==(43:Int))=false);constructor<;>(simp;omega)
 refine zj (Gy ..) (zc (by simp;omega) ?_);rw[RE, ←hn,zg,hc.1,hc.2];exact zc (by simp;omega) (zc (decide_eq_true (by omega)) (zc (decide_eq_true (by omega)) (zc (decide_eq_true (by omega)) (zn rfl (zc (decide_eq_true (by omega)) (zn rfl h))))))
theorem iD(W:List UInt8)(neg:Bool)(o1:Int)(o0:Int)(hW:Al W=true)(h1:1≤W.length)(n:Nat)(hn:n=min 18 W.length)
  (h:Ends O7 (L3 W neg o1 o0 (W.take n) 0 (W.take n).length (W.take n).length 0 ((W.take n).map fun b=>(b.toNat:Int)) o1 o0) Q):Ends O7 (L1 W neg o1 o0) Q:=by
 have hwl:(W.take n).length=n:=by rw[zp];omega
 have hdw:=Bc hW n;have hc:((((W.take n).getD 0 0).toNat:Int)==(45:Int))=false∧((((W.take n).getD 0 0).toNat:Int)==(43:Int))=false:=by
  cases hq:W.take n with
  |nil=>rw[hq]at hwl;simp at hwl;omega
  |cons c t=>
   rw[hq]at hdw;unfold Al at hdw;rw[zC,zd]at hdw;have:=CH hdw.1;unfold Hb at this;show(((c.toNat:Int)==(45:Int))=false)∧(((c.toNat:Int)==(43:Int))=false);constructor<;>(simp;omega)
 refine zj (Ar ..) (zc (by simp;omega) ?_);rw[RE, ←hn,zg,hc.1,hc.2];exact zc (by simp;omega) (zc (decide_eq_true (by omega)) (zc (decide_eq_true (by omega)) (zc (decide_eq_true (by omega)) (zn rfl (zc (decide_eq_true (by omega)) (zn rfl h))))))
theorem nO(n:Int)(h:0≤n):(DY (Cp n,Cn n),DW (Cp n,Cn n))=CG (-n):=by
 show CR (CG n)=_;unfold CR;split
 ·next c=>
  have:=Cg n;rw[Bn c.1]at this;rw[this,BT (n:= -n)];by_cases hb: -9223372036854775808<n∧n<9223372036854775808
  ·omega
  ·exfalso;have e:CG n=(1,Bp (Ag n)):=by unfold CG;rw[if_neg hb,if_neg (by omega)]
   rw[e]at this;have:(1:Int)=n:=this;omega
 ·rw[Cg]
theorem VP{a D:Int}{W:List UInt8}{n:Nat}(ha:0≤a)(hW:Al W=true)(hn:n≤W.length)(hD:a*10^W.length+AA 0 W=D):(a*10^n+AA 0 (W.take n))*10^(W.drop n).length+AA 0 (W.drop n)=D∧a≤D∧a*10^n≤D:=by
 have hs:AA 0 W=AA 0 (W.take n)*10^(W.drop n).length+AA 0 (W.drop n):=by
  conv=>lhs;rw[←yc n W]
  rw[CB,Ec]
 have hl:W.length=n+(W.drop n).length:=by rw[zi];omega
 have hp:(10:Int)^W.length=10^n*10^(W.drop n).length:=by rw[←Int.pow_add, ←hl]
 have hb:=(Be hW).1;have e1:a*10^W.length=a*10^n*10^(W.drop n).length:=by rw[hp,Int.mul_assoc]
 have one:∀k:Nat,(1:Int)≤10^k:=fun k=>by have:=AN (show(0:Int)<10 by decide) k;omega
 have l1:a≤a*10^W.length:=by have:=zq (one W.length) ha;omega
 have l2:a*10^n≤a*10^n*10^(W.drop n).length:=by
  have:=zq (one (W.drop n).length) (yp ha (show(0:Int)≤10^n by have:=one n;omega));omega
 refine⟨?_,by omega,by omega⟩;rw[Int.add_mul, ←e1];omega
theorem Ck(neg:Bool)(o0 D:Int)(hD1:D<(10:Int)^(6000:Nat))(hq:∀ob,Q (.agg [.dat i64 (Cp (if neg=true then -D else D)),.dat (.nlist u64) (Cn (if neg=true then -D else D))]) ob):∀(f:Nat) (W:List UInt8) (a:Int),W.length<f→W.length≤6000→0≤a→Al W=true→a*10^W.length+AA 0 W=D→Ends O7 (L5 W neg (Cp a) (Cn a) o0) Q
 |0,W,a,hf,_,_,_,_=>by omega
 |f+1,W,a,hf,h15,ha,hW,he=>by
  cases hW0:W with
  |nil=>
   subst hW0;have he:a=D:=by rw[←he];simp[AA]
   subst he;have hok:=FN ha hD1;refine zj (Gy ..) (zn (by simp) (zl (fun c=>zc (B1 hok).1 (zf ?_)) (fun c=>zf ?_)))
   ·have:=nO a ha;rw[c,if_pos rfl]at hq;have x1:DY (Cp a,Cn a)=Cp (-a):=congrArg Prod.fst this;have x2:DW (Cp a,Cn a)=Cn (-a):=congrArg Prod.snd this;rw[x1,x2];exact hq _
   ·rw[c,if_neg (by decide)]at hq;exact hq _
  |cons c t=>
   rw[←hW0];have h1:1≤W.length:=by rw[hW0];simp
   obtain⟨r1,r2,r3⟩:=VP (n:=min 18 W.length) ha hW (by omega) he;have hv:=(Be (Bc hW (min 18 W.length))).1;have hp:0≤a*10^(min 18 W.length):=yp ha (zz (AN (by decide) _));refine iJ W neg _ _ o0 hW h1 _ rfl (Cc W neg _ _ o0 _ _ rfl hW rfl h1 a o0 ha (FN ha (zA r2 hD1)) (FN hp (zA r3 hD1)) ?_ _ 0 rfl (zU _));exact Ck neg o0 D hD1 hq f (W.drop (min 18 W.length)) _ (by rw[zi];omega) (by rw[zi];omega) (by omega) (BO hW _) r1
theorem Aj(neg:Bool)(W:List UInt8)(h15:W.length≤5999)(hW:Al W=true)(hq:∀ob,Q (.agg [.dat i64 (Cp (if neg=true then -AA 0 W else AA 0 W)),.dat (.nlist u64) (Cn (if neg=true then -AA 0 W else AA 0 W))]) ob)(hq0:W=[]→∀ob v,(v=.agg [.dat i64 0,.nil]∨v=.agg [.dat i64 (DY ((0:Int),[])),.dat (.nlist u64) (DW ((0:Int),[]))])→Q v ob):Ends O7 (L1 W neg 0 0) Q:=by
 cases hW0:W with
 |nil=>
  refine zj (Ar ..) (zn (by simp) (zl (fun c=>zc (by decide) (zf (hq0 hW0 _ _ (.inr rfl)))) (fun c=>zf (hq0 hW0 _ _ (.inl rfl)))))
 |cons c t=>
  rw[←hW0];have h1:1≤W.length:=by rw[hW0];simp
  have hD1:AA 0 W<(10:Int)^(6000:Nat):=zr (Be hW).2 (AL (by decide) (by omega));obtain⟨r1,r2,r3⟩:=VP (a:=0) (n:=min 18 W.length) (D:=AA 0 W) (yJ _) hW (by omega) (by rw[Int.zero_mul,Int.zero_add]);have hv:=(Be (Bc hW (min 18 W.length))).1;refine iD W neg 0 0 hW h1 _ rfl (Cs W neg 0 0 _ _ rfl hW rfl h1 0 0 rfl (yJ _) (by decide) (by rw[Int.zero_mul];decide) ?_ _ 0 rfl (zU _));exact Ck neg 0 _ hD1 hq (W.length+1) (W.drop (min 18 W.length)) _ (by rw[zi];omega) (by rw[zi];omega) (by omega) (BO hW _) r1
theorem ok:Ae AV 153 M0:=by
 refine AB (X:=O7) rfl lN (d:=9) (by kernel_rfl) (by kernel_rfl) (by kernel_rfl) (fun(s:List UInt8) hs=>?_) (Ad (by kernel_rfl));have hs:(decide (s.length≤5999)&&(if s.getD 0 0=45 then Al (s.drop 1)else Al s))=true:=hs;rw[zd,decide_eq_true_eq]at hs;obtain⟨hl,hs⟩:=hs;have fin:∀D,Ca s=D→∀ob,Af M0 s (.agg [.dat i64 (Cp D),.dat (.nlist u64) (Cn D)]) ob:=by
  rintro D rfl ob;exact zR rfl rfl rfl
 have fin0:Ca s=0→∀ob v,(v=.agg [.dat i64 0,.nil]∨v=.agg [.dat i64 (DY ((0:Int),[])),.dat (.nlist u64) (DW ((0:Int),[]))])→Af M0 s v ob:=by
  rintro h ob v (rfl|rfl)
  ·refine zR rfl rfl ?_;show((0:Int),([]:List Int))=(Cp (Ca s),Cn (Ca s));rw[h];rfl
  ·refine zR rfl rfl ?_;show CR ((0:Int),([]:List Int))=(Cp (Ca s),Cn (Ca s));rw[h];rfl
 refine zI (An s) ?_;conv=>zeta
 cases s with
 |nil=>
  refine zn (by decide) (zn (by decide) (zj (A1 ..) (zn (by decide) (zf (fin0 rfl _ _ (.inl rfl))))))
 |cons c r=>
  have ht:(c::r).take 1=[c]:=rfl;have g0:(c::r).getD 0 0=c:=rfl;rw[g0]at hs;have e:(List.drop 1 (c::r)).take (yg (c::r).length 1)=r:=by show r.take ((r.length+1)-1)=r;rw[yo];exact zE
  have b1:decide (((c::r).length:Int)≥1)=true:=decide_eq_true (by simp;omega);have b2:decide (1≤(c::r).length)=true:=decide_eq_true (by simp);rw[ht,e];refine zc b1 (zc b2 (zc b1 (zc b2 (zl (fun d=>?_) (fun d=>?_)))))
  ·have hc:c=45:=by simpa using d
   rw[if_pos hc]at hs;rw[d];have hr:Ca (c::r)= -AA 0 r:=by unfold Ca;rw[g0,if_pos hc];rfl
   refine zc (by simp) (Aj true r (by simp at hl;omega) hs (fin _ (by rw[hr,if_pos rfl])) (fun h0=>fin0 (by rw[hr,h0];rfl)))
  ·have hc:c≠45:=by rintro rfl;exact absurd d (by decide)
   rw[if_neg hc]at hs;rw[d];have hr:Ca (c::r)=AA 0 (c::r):=by unfold Ca;rw[g0,if_neg hc]
   exact Aj false (c::r) hl hs (fin _ (by rw[hr,if_neg (by decide)])) (fun h0=>by cases h0)
end T153
end Go.Pe
end
section
namespace Go.Pe
open Sp
open Go.Det
namespace T83
theorem loop{Q:PV→Ob→Prop}(l:List Int)(hl:l.length≤1000000):∀(r:List Int) (i:Nat),l.drop i=r→i≤l.length→Q (.dat i64 (yS r)) []→Ends I4 (L1 l ((l.length:Int)) i) Q
 |[],i,h,hi,hq=>by
  refine zj (Ar ..) ?_;conv=>zeta
  have:¬i<l.length:=by
   intro h1;have:=List.drop_eq_getElem_cons h1;rw[h]at this;cases this
  have he:i=l.length:=by omega
  subst he;simpa [yS]using hq
 |x::r,i,h,hi,hq=>by
  obtain⟨h1,h2,h3⟩:=drop_cons (d:=0) h;refine zj (Ar ..) ?_;conv=>zeta
  rw[JV,if_pos (by simp;omega),JV,if_pos (by simp;omega),JV];simp only[zg,h2];by_cases hx:x=0
  ·subst hx;rw[if_neg (by simp),wr _ (by omega) (by omega)];exact loop l hl r (i+1) h3 h1 (by simpa [yS]using hq)
  ·rw[if_pos (by simpa using hx)];simpa [yS,hx]using hq
theorem ok:Ae AV 83 Jz:=by
 refine AB (X:=I4) rfl EU (d:=9) (by kernel_rfl) (by kernel_rfl) rfl (fun l hl=>?_) (Ad (by kernel_rfl));refine zI (An l) ?_;conv=>zeta
 exact loop l (by simpa [Jz]using hl) l 0 rfl (zU _) (zR rfl rfl rfl)
end T83
theorem T85.ok:Ae AV 85 VF:=by
 refine AB (X:=I4) rfl EU (d:=9) (by kernel_rfl) (by kernel_rfl) rfl (fun⟨c,e⟩ _=>?_) (Ad (by kernel_rfl));refine zI (T85.An c e) ?_;conv=>zeta
 have key:∀x:Int,x=KX c e→Af VF (c,e) (.dat i64 x) []:=fun x hx=>zR rfl rfl hx
 simp only[JV,Xq];cases c
 ·exact key _ rfl
 ·exact key _ rfl
theorem fT:∀g sp,KY.sp g=some sp→Ae AV g sp:=
 Ac T83.ok (Ac T85.ok (Ac T149.ok (Ac T150.ok (Ac T151.ok (Ac T152.ok (Ac T153.ok (Ac T154.ok (Ac T105n.ok (fun g sp h=>by cases h)))))))))
theorem Hk{s:List UInt8}(h:AU s=true):s≠[]∧Al s=true:=by
 unfold AU at h;rw[zd,zd,decide_eq_true_eq]at h;exact h.1
theorem JR{s:List UInt8}(h:Al s=true)(hl:s.length≤5999):D3 s=true∧Ca s=AA 0 s:=by
 have h0:s.getD 0 0≠45:=by
  cases s with
  |nil=>decide
  |cons c r=>
   unfold Al at h;rw[zC,zd]at h;have:=CH h.1;rintro he;have he:c=45:=he;subst he;exact absurd this (by decide)
 unfold D3 Ca;rw[if_neg h0,if_neg h0,h,yO];exact⟨decide_eq_true hl,rfl⟩
theorem lY{a b L:Int}(ha:0≤a)(hb:0≤b)(h1:a<L)(h2:b<L):0≤yH a b∧yH a b<L:=by
 rw[F8];obtain⟨x,rfl⟩:=zS ha;obtain⟨y,rfl⟩:=zS hb;have e:yn (x:Int) (y:Int)=Nat.gcd x y:=rfl;rw[e];refine⟨Int.natCast_nonneg _,?_⟩;rcases z8 x with h|h
 ·subst h;rw[Nat.gcd_zero_left];exact h2
 ·have:=Nat.gcd_le_left y h;omega
namespace T77
variable {Q:PV→Ob→Prop}
def E(A B:List UInt8)(br form:Bool):Int:=if form=false then 1 else if 600<A.length∨600<B.length then 4 else if br=true∧yH (AA 0 A) (AA 0 B)≠1 then 1 else 0
theorem EY(A B:List UInt8)(br:Bool)(hA:Al A=true)(hB:br=true→Al B=true)(lA:A.length≤600)(lB:B.length≤600)(hq:∀ob,Q (.dat i64 (if br=true∧yH (AA 0 A) (AA 0 B)≠1 then 1 else 0)) ob):Ends KY (L8 A B br) Q:=by
 refine zj (Jb ..) (zl (fun c=>?_) (fun c=>?_))
 ·have hB:=hB c;obtain⟨r1,r2⟩:=JR hA (by omega);obtain⟨r3,r4⟩:=JR hB (by omega);have bA:=Be hA;have bB:=Be hB;have uA:AA 0 A<(10:Int)^(6000:Nat):=zr bA.2 (AL (by decide) (by omega));have uB:AA 0 B<(10:Int)^(6000:Nat):=zr bB.2 (AL (by decide) (by omega));have e1:CX A=Cp (AA 0 A):=by unfold CX;rw[r2]
  have e2:C1 A=Cn (AA 0 A):=by unfold C1;rw[r2]
  have e3:CX B=Cp (AA 0 B):=by unfold CX;rw[r4]
  have e4:C1 B=Cn (AA 0 B):=by unfold C1;rw[r4]
  have g1:Mc (Cp (AA 0 A),Cn (AA 0 A)) (Cp (AA 0 B),Cn (AA 0 B))=Cp (yH (AA 0 A) (AA 0 B)):=by
   unfold Mc;rw[JS,JS]
  have g2:LL (Cp (AA 0 A),Cn (AA 0 A)) (Cp (AA 0 B),Cn (AA 0 B))=Cn (yH (AA 0 A) (AA 0 B)):=by
   unfold LL;rw[JS,JS]
  obtain⟨l1,l2⟩:=lY bA.1 bB.1 uA uB;have ec:Yl (Cp (yH (AA 0 A) (AA 0 B)),Cn (yH (AA 0 A) (AA 0 B))) ((1:Int),Eg (1:Int))=BX (yH (AA 0 A) (AA 0 B)) 1:=by
   unfold Yl;rw[JS,D2,Eh]
  rw[e1,e2,e3,e4,g1,g2,ec];have j1:Ba ((1:Int),Eg (1:Int))=true:=by rw[D2];decide
  refine zc r1 (zc r3 (zc (Aa (Fp (FN bA.1 uA)) (Fp (FN bB.1 uB))) (zc rfl (zc (Aa (Fp (FN l1 l2)) j1) ?_))));refine zj (tT ..) (zc rfl (zf ?_));generalize yH (AA 0 A) (AA 0 B)=g at*;have:KX (BX g 1 !=0) 1=if br=true∧g≠1 then 1 else 0:=by
   unfold BX KX;by_cases h:g=1
   ·subst h;rw[c];rfl
   ·have x3:(if br=true∧g≠1 then(1:Int)else 0)=1:=if_pos ⟨c,h⟩;rw[x3];rcases Int.lt_or_gt_of_ne h with q|q
    ·rw[if_pos q];rfl
    ·rw[if_neg (by omega),if_pos q];rfl
  rw[this];exact hq _
 ·refine zj pZ (zc rfl (zf ?_));rw[if_neg (by rw[c];simp)]at hq;exact hq _
theorem Cc(A B:List UInt8)(br form c d:Bool)(hc:c= !form)(hd:d=true↔600<A.length∨600<B.length)(hf:form=true→Al A=true∧(br=true→Al B=true))(hq:∀ob,Q (.dat i64 (E A B br form)) ob):Ends KY (L7 A B br (yS [KX c 1,KX d 4])) Q:=by
 subst hc;unfold E at hq;cases form with
 |false=>
  refine zj (FH ..) (zc ?_ (zf (hq _)));cases d<;>rfl
 |true=>
  rw[if_neg (by decide)]at hq;cases d with
  |true=>
   rw[if_pos (hd.1 rfl)]at hq;exact zj (FH ..) (zc rfl (zf (hq _)))
  |false=>
   have hn:¬(600<A.length∨600<B.length):=fun h=>by have:=hd.2 h;cases this
   rw[if_neg hn]at hq;obtain⟨f1,f2⟩:=hf rfl;exact zj (FH ..) (zn rfl (EY A B br f1 f2 (by omega) (by omega) hq))
theorem BR(A B:List UInt8)(br form:Bool)(hf:form=true→Al A=true∧(br=true→Al B=true))(hq:∀ob,Q (.dat i64 (E A B br form)) ob):Ends KY (L4 A B br form) Q:=by
 refine zj (Dm ..) (zc rfl (zl (fun c=>zc rfl (zc rfl ?_)) (fun c=>zc rfl (zc rfl ?_))))
 ·have c:=of_decide_eq_true c;exact Cc A B br form _ _ rfl ⟨fun _=>.inl (by omega),fun _=>rfl⟩ hf hq
 ·have c:=of_decide_eq_false c;exact Cc A B br form _ _ rfl ⟨fun h=>.inr (by have:=of_decide_eq_true h;omega),fun h=>decide_eq_true (by omega)⟩ hf hq
theorem Ck(A B:List UInt8)(br:Bool)(hq:∀ob,Q (.dat i64 (E A B br false)) ob):Ends KY (L5 A B br) Q:=by
 refine zj (Gy ..) (zc rfl (zl (fun c=>zc rfl (zc rfl ?_)) (fun c=>zc rfl (zc rfl ?_))))
 ·have c:=of_decide_eq_true c;exact Cc A B br false _ _ rfl ⟨fun _=>.inl (by omega),fun _=>rfl⟩ (fun h=>by cases h) hq
 ·have c:=of_decide_eq_false c;exact Cc A B br false _ _ rfl ⟨fun h=>.inr (by have:=of_decide_eq_true h;omega),fun h=>decide_eq_true (by omega)⟩ (fun h=>by cases h) hq
theorem Es(A B:List UInt8)(br:Bool)(hf:Al A=true∧(br=true→Al B=true))(hq:∀ob,Q (.dat i64 (E A B br true)) ob):Ends KY (L6 A B br) Q:=by
 refine zj (Hr ..) (zc rfl (zl (fun c=>zc rfl (zc rfl ?_)) (fun c=>zc rfl (zc rfl ?_))))
 ·have c:=of_decide_eq_true c;exact Cc A B br true _ _ rfl ⟨fun _=>.inl (by omega),fun _=>rfl⟩ (fun _=>hf) hq
 ·have c:=of_decide_eq_false c;exact Cc A B br true _ _ rfl ⟨fun h=>.inr (by have:=of_decide_eq_true h;omega),fun h=>decide_eq_true (by omega)⟩ (fun _=>hf) hq
theorem Sf{F:Tr}(A B:List UInt8)(br:Bool)(lB:B.length≤1000000)(hA:Al A=true)(form:Bool)(hform:form=(!br||(AU B&&decide (B≠[48])&&decide (B≠[49]))))(hq:∀ob,Q (.dat i64 (E A B br form)) ob)
  (h:(br=true→Ends KY (.ite (decide (B.length≤1000000)) (.ite (AU B) (.ite (!B==[(48:UInt8)]) (L4 A B br (!B==[(49:UInt8)])) (L5 A B br)) (L5 A B br)) .fail) Q)→(br=false→form=true)→Ends KY F Q):Ends KY F Q:=by
 refine h (fun hb=>zc (decide_eq_true lB) ?_) (fun hb=>by rw[hform,hb];rfl);rw[hb]at hform;refine zl (fun c=>zl (fun d=>?_) (fun d=>?_)) (fun c=>?_)
 ·have d:B≠[48]:=by simpa using d
  have e:form=(!B==[(49:UInt8)]):=by
   rw[hform,c,decide_eq_true d];by_cases h:B=[49]
   ·rw[h];rfl
   ·rw[decide_eq_true h];simp[h]
  rw[←e];exact BR A B br form (fun _=>⟨hA,fun _=>(Hk c).2⟩) hq
 ·have d:B=[48]:=by simpa using d
  have e:form=false:=by rw[hform,decide_eq_false (fun h=>h d)];simp
  rw[e]at hq;exact Ck A B br hq
 ·have e:form=false:=by rw[hform,c];simp
  rw[e]at hq;exact Ck A B br hq
theorem CP(s:List UInt8):(Ax s).length≤s.length∧(zu s).length≤s.length:=by
 unfold Ax zu;cases s.findIdx? (fun x=>x==47)with
 |none=>simp
 |some i=>simp;omega
theorem VQ(s:List UInt8):(AZ s).length≤s.length:=by
 unfold AZ;split
 ·simp
 ·exact zB _
theorem ok:Ae AV 77 El:=by
 refine AB (X:=KY) rfl fT (d:=9) (by kernel_rfl) (by kernel_rfl) (by kernel_rfl) (fun(a:List UInt8) hl=>?_) (Ad (by kernel_rfl));have hl:a.length≤1000000:=of_decide_eq_true hl;have l1:=VQ a;obtain⟨l2,l3⟩:=CP (AZ a);have hq:∀form,form=Hq a→∀ob,Af El a (.dat i64 (E (Ax (AZ a)) (zu (AZ a)) (Bm (AZ a)) form)) ob:=by
  rintro form rfl ob;exact zR rfl rfl rfl
 have hfm:Hq a=(AU (Ax (AZ a))&&(!yT a||decide (Ax (AZ a)≠[48]))&&(!Bm (AZ a)||(AU (zu (AZ a))&&decide (zu (AZ a)≠[48])&&decide (zu (AZ a)≠[49])))):=rfl;refine zI (An a) (zc (Aa (decide_eq_true rfl) (decide_eq_true hl)) (zc (Aa (decide_eq_true rfl) (decide_eq_true (by omega))) (zc (decide_eq_true (by omega)) ?_)));generalize Ax (AZ a)=A at*;generalize zu (AZ a)=B at*;generalize Bm (AZ a)=br at*;refine zl (fun c=>?_) (fun c=>?_)
 ·have hA:=(Hk c).2;refine zl (fun d=>?_) (fun d=>?_)
  ·have ef:Hq a=(!br||(AU B&&decide (B≠[48])&&decide (B≠[49]))):=by rw[hfm,c,d];rfl
   refine Sf A B br (by omega) hA (Hq a) ef (hq _ rfl) (fun h1 h2=>zj (Ar ..) (zl h1 (fun e=>?_)));have h3:=h2 e;exact Es A B br ⟨hA,fun h=>by rw[e]at h;cases h⟩ (hq true h3.symm)
  ·by_cases hz:A=[48]
   ·have ef:Hq a=false:=by rw[hfm,d,decide_eq_false (fun h=>h hz)];simp
    have e8:(!A==[(48:UInt8)])=false:=by rw[hz];rfl
    rw[e8];refine zj (A1 ..) (zl (fun e=>zn rfl (Ck A B br (hq false ef.symm))) (fun e=>BR A B br false (fun h=>by cases h) (hq false ef.symm)))
   ·have e8:(!A==[(48:UInt8)])=true:=by simp[hz]
    have ef:Hq a=(!br||(AU B&&decide (B≠[48])&&decide (B≠[49]))):=by rw[hfm,c,d,decide_eq_true hz];rfl
    rw[e8];refine Sf A B br (by omega) hA (Hq a) ef (hq _ rfl) (fun h1 h2=>zj (A1 ..) (zl (fun e=>zc rfl (h1 e)) (fun e=>?_)));have h3:=h2 e;exact BR A B br true (fun _=>⟨hA,fun h=>by rw[e]at h;cases h⟩) (hq true h3.symm)
 ·have ef:Hq a=false:=by rw[hfm,c];simp
  exact zj (CN ..) (zl (fun e=>Ck A B br (hq false ef.symm)) (fun e=>Ck A B br (hq false ef.symm)))
end T77
end Go.Pe
end
section
namespace Go.Pe
open Sp
open Go.Det
theorem DH(c:UInt8)(r:List UInt8):Ax (c::r)=if c=47 then[]else c::Ax r:=by
 unfold Ax;rw[yq];by_cases h:c=47
 ·subst h;rfl
 ·rw[if_neg (by simpa using h),if_neg h];cases r.findIdx? (fun x=>x==47)<;>rfl
namespace T89
theorem Aj{Q:PV→Ob→Prop}(s:List UInt8)(hl:s.length≤1000000):∀(r:List UInt8) (i:Nat),s.drop i=r→i≤s.length→(∀ob,Q (.dat i64 (((i+(Ax r).length:Nat)):Int)) ob)→Ends I4 (L1 s i) Q
 |[],i,h,hi,hq=>by
  have he:i=s.length:=drop_nil h hi;subst he;exact zj (Ar ..) (zn (by simp) (zf (hq _)))
 |c::r,i,h,hi,hq=>by
  obtain⟨h1,h2,h3⟩:=drop_cons (d:=0) h;have e3:ze .i64 ((i:Int)+1)=((i+1:Nat):Int):=by rw[wr _ (by omega) (by omega)];omega
  rw[DH]at hq;refine zj (Ar ..) (zc (by simp;omega) ?_);rw[zg,h2,e3];refine zc (by simp;omega) (zl (fun d=>?_) (fun d=>?_))
  ·have hc:c=47:=by
    have:(c.toNat:Int)=47:=by simpa using d
    exact zO.1 (by show _=47;omega)
   rw[if_pos hc]at hq;exact zf (hq _)
  ·have hc:c≠47:=by rintro rfl;exact absurd d (by decide)
   rw[if_neg hc]at hq;refine Aj s hl r (i+1) h3 h1 (fun ob=>?_);have:=hq ob;rw[zM]at this;rw[show i+1+(Ax r).length=i+((Ax r).length+1)by omega];exact this
theorem ok:Ae AV 89 Lr:=by
 refine AB (X:=I4) rfl EU (d:=9) (by kernel_rfl) (by kernel_rfl) (by kernel_rfl) (fun(s:List UInt8) hl=>?_) (Ad (by kernel_rfl));have hl:s.length≤1000000:=of_decide_eq_true hl;refine zI (An s) (Aj s hl s 0 rfl (zU _) (fun ob=>zR rfl rfl ?_));rw[Nat.zero_add];rfl
end T89
namespace T90
variable {Q:PV→Ob→Prop}
theorem SY{s:List UInt8}{r:List UInt8}{c:UInt8}{i:Nat}(h:s.drop i=c::r):Al (s.drop i)=(BJ c&&Al (s.drop (i+1))):=by
 obtain⟨_,_,h3⟩:=drop_cons (d:=0) h;rw[h3,h];rfl
theorem Aj(s:List UInt8)(hl:s.length≤1000000):∀(r:List UInt8) (i:Nat),s.drop i=r→i≤s.length→(∀ob,Q (.bl (Al (s.drop i))) ob)→Ends I4 (L1 s s i) Q
 |[],i,h,hi,hq=>by
  have he:i=s.length:=drop_nil h hi;rw[h]at hq;subst he;exact zj (Ar ..) (zn (by simp) (zf (hq _)))
 |c::r,i,h,hi,hq=>by
  obtain⟨h1,h2,h3⟩:=drop_cons (d:=0) h;have e3:ze .i64 ((i:Int)+1)=((i+1:Nat):Int):=by rw[wr _ (by omega) (by omega)];omega
  rw[SY h]at hq;refine zj (Ar ..) (zc (by simp;omega) ?_);rw[zg,h2,e3];refine zc (by simp;omega) (zl (fun d=>?_) (fun d=>zc (by simp;omega) (zl (fun e=>?_) (fun e=>?_))))
  ·have d:=of_decide_eq_true d;have hn:BJ c=false:=by unfold BJ;rw[decide_eq_false (by omega)];rfl
   rw[hn]at hq;exact zf (hq _)
  ·have e:=of_decide_eq_true e;have hn:BJ c=false:=by unfold BJ;rw[decide_eq_false (p:=c.toNat≤57) (by omega),Bool.and_false]
   rw[hn]at hq;exact zf (hq _)
  ·have d:=of_decide_eq_false d;have e:=of_decide_eq_false e;have hn:BJ c=true:=by unfold BJ;exact Aa (decide_eq_true (by omega)) (decide_eq_true (by omega))
   rw[hn,zX]at hq;exact Aj s hl r (i+1) h3 h1 hq
theorem AS(s:List UInt8)(hl:s.length≤1000000):∀(r:List UInt8) (i:Nat),s.drop i=r→i≤s.length→(∀ob,Q (.bl (Al (s.drop i))) ob)→Ends I4 (L2 s s i) Q
 |[],i,h,hi,hq=>by
  have he:i=s.length:=drop_nil h hi;rw[h]at hq;subst he;exact zj (A1 ..) (zn (by simp) (zf (hq _)))
 |c::r,i,h,hi,hq=>by
  obtain⟨h1,h2,h3⟩:=drop_cons (d:=0) h;have e3:ze .i64 ((i:Int)+1)=((i+1:Nat):Int):=by rw[wr _ (by omega) (by omega)];omega
  rw[SY h]at hq;refine zj (A1 ..) (zc (by simp;omega) ?_);rw[zg,h2,e3];refine zc (by simp;omega) (zl (fun d=>?_) (fun d=>zc (by simp;omega) (zl (fun e=>?_) (fun e=>?_))))
  ·have d:=of_decide_eq_true d;have hn:BJ c=false:=by unfold BJ;rw[decide_eq_false (by omega)];rfl
   rw[hn]at hq;exact zf (hq _)
  ·have e:=of_decide_eq_true e;have hn:BJ c=false:=by unfold BJ;rw[decide_eq_false (p:=c.toNat≤57) (by omega),Bool.and_false]
   rw[hn]at hq;exact zf (hq _)
  ·have d:=of_decide_eq_false d;have e:=of_decide_eq_false e;have hn:BJ c=true:=by unfold BJ;exact Aa (decide_eq_true (by omega)) (decide_eq_true (by omega))
   rw[hn,zX]at hq;exact AS s hl r (i+1) h3 h1 hq
theorem ok:Ae AV 90 K5:=by
 refine AB (X:=I4) rfl EU (d:=9) (by kernel_rfl) (by kernel_rfl) (by kernel_rfl) (fun(s:List UInt8) hl=>?_) (Ad (by kernel_rfl));have hl:s.length≤1000000:=of_decide_eq_true hl;have hq:∀b ob,b=AU s→Af K5 s (.bl b) ob:=fun b ob hb=>zR rfl rfl hb
 refine zI (An s) ?_;conv=>zeta
 cases s with
 |nil=>exact zc rfl (zf (hq _ _ rfl))
 |cons c r=>
  have g0:(c::r).getD 0 0=c:=rfl;rw[g0];refine zn (by simp;omega) (zl (fun d=>zc (by simp) (zl (fun e=>zf (hq _ _ ?_)) (fun e=>?_))) (fun d=>?_))
  ·have d:=of_decide_eq_true d;have hc:c=48:=by
    have:(c.toNat:Int)=48:=by simpa using e
    exact zO.1 (by show _=48;omega)
   have hr:r≠[]:=by rintro rfl;simp at d
   unfold AU;rw[g0,decide_eq_false (p:=c≠48) (fun h=>h hc),decide_eq_false (p:=c::r=[48]) (by intro h;simp at h;exact hr h.2)];simp
  ·have hc:c≠48:=by rintro rfl;exact absurd e (by decide)
   refine Aj (c::r) hl (c::r) 0 rfl (zU _) (fun ob=>hq _ _ ?_);unfold AU;rw[g0,decide_eq_true hc];simp
  ·have d:=of_decide_eq_false d;have hr:r=[]:=by
    have:r.length=0:=by simp at d;omega
    exact zJ.1 this
   subst hr;refine AS [c] hl [c] 0 rfl (zU _) (fun ob=>hq _ _ ?_);unfold AU;rw[g0];by_cases hc:c=48
   ·subst hc;rfl
   ·rw[decide_eq_true hc];simp
end T90
theorem kP:∀g sp,gN.sp g=some sp→Ae AV g sp:=Ac T168.ok (fun g sp h=>by cases h)
namespace T107
variable {Q:PV→Ob→Prop}
theorem ND{v:Int}(hv: -9223372036854775808≤v∧v<9223372036854775808):∃q d:Nat,Ag v=d+1000000000*q∧d<1000000000∧ze .i64 (Int.tdiv v 1000000000)=(if v<0 then -(q:Int)else q)∧Int.tmod v 1000000000=(if v<0 then -(d:Int)else d):=by
 refine⟨v.natAbs/1000000000,v.natAbs % 1000000000,by rw[Ai];omega,by omega,?_,?_⟩
 ·by_cases h:v<0
  ·have:=Int.neg_tdiv (-v) 1000000000;rw[Int.neg_neg]at this;rw[this,yr (by omega),if_pos h,wr _ (by omega) (by omega)];omega
  ·rw[yr (by omega),if_neg h,wr _ (by omega) (by omega)];omega
 ·by_cases h:v<0
  ·have:=Int.neg_tmod (-v) 1000000000;rw[Int.neg_neg]at this;rw[this,yt (by omega),if_pos h];omega
  ·rw[yt (by omega),if_neg h];omega
theorem AS(neg:Bool)(D:Int)(hq:∀(w:List Int) ob,Av zy w→zV zy w=D→Q (.agg [.dat .bool (B5 neg w),.dat li (Au w)]) ob):∀(f:Nat) (v:Int) (o1:List Int),Ag v<f→(-9223372036854775808≤v∧v<9223372036854775808)→o1.length≤100→(Ag v≠0→Ag v*1000000000^o1.length≤9223372036854775808)→Av zy o1→zV zy o1+(zy:Int)^o1.length*Ag v=D→Ends gN (L2 v o1.length neg o1) Q
 |0,v,o1,hf,hv,ho,hb,hd,he=>by
  have:=AH v;omega
 |f+1,v,o1,hf,hv,ho,hb,hd,he=>by
  obtain⟨q,d,s1,s2,s3,s4⟩:=ND hv;by_cases h0:v=0
  ·subst h0;have e0:Ag 0=0:=rfl;rw[e0,Int.mul_zero,Int.add_zero]at he;refine zj (A1 ..) (zn rfl ?_);rw[zE];exact zc (by simp;omega) (zf (hq _ _ hd he))
  ·have hne:Ag v≠0:=by rw[Ai];omega
   have hbb:=hb hne;have ho10:o1.length≤10:=by
    rcases Nat.lt_or_ge 10 o1.length with g|g
    ·exfalso;have x1:(1000000000:Int)^11≤1000000000^o1.length:=AL (by decide) g;have x2:(9223372036854775808:Int)<1000000000^11:=by decide
     have x3:=zF (show 1≤Ag v by have:=AH v;omega) (show(0:Int)≤1000000000^o1.length by omega);omega
    ·exact g
   have eq:Ag (if v<0 then -(q:Int)else q)=q:=by rw[Ai];split<;>omega
   have go:Ends gN (L2 (if v<0 then -(q:Int)else q) (yD o1.length 1) neg (o1++[(d:Int)])) Q:=by
    have:=AS neg D hq f (if v<0 then -(q:Int)else q) (o1++[(d:Int)]) (by rw[eq];omega) (by have:=Ai v;split<;>omega) (by simp;omega) (fun _=>by
     rw[eq,zk];show(q:Int)*1000000000^(o1.length+1)≤_;rw[zW, ←Int.mul_assoc,Int.mul_right_comm];have x1:=zF (show(q:Int)*1000000000≤Ag v by omega) (show(0:Int)≤1000000000^o1.length from zz (AN (by decide) _));omega) (ER hd (by omega)) (by
     rw[eq,B6,zk];show zV zy o1+(zy:Int)^o1.length*(d:Int)+(zy:Int)^(o1.length+1)*(q:Int)=D;rw[Jl,yP, ←Int.mul_add, ←he,s1])
    rw[zk]at this;exact this
   refine zj (A1 ..) (zc (by simpa using h0) (zc rfl ?_));rw[s3,s4];refine zl (fun c=>zc (by simp;omega) (zc rfl ?_)) (fun c=>zc (by simp;omega) (zc rfl ?_))
   ·have c:=of_decide_eq_true c;have hn:v<0:=by split at c<;>omega
    rw[if_pos hn]at c;rw[if_pos hn,if_pos hn];rw[if_pos hn]at go;have e5:ze .i64 (0 - -(d:Int))=(d:Int):=by rw[wr _ (by omega) (by omega)];omega
    rw[e5];exact go
   ·have c:=of_decide_eq_false c;have e5:(if v<0 then -(d:Int)else(d:Int))=(d:Int):=by split at c<;>split<;>omega
    rw[e5];exact go
theorem ok:Ae AV 107 Kc:=by
 refine AB (X:=gN) rfl kP (d:=9) (by kernel_rfl) (by kernel_rfl) (by kernel_rfl) (fun(v:Int) hv=>?_) (Ad (by kernel_rfl));have hv:=Em (n:=v) hv;have fin:∀(w:List Int) ob,Av zy w→zV zy w=Ag v→Af Kc v (.agg [.dat .bool (B5 (decide (v<0)) w),.dat li (Au w)]) ob:=by
  intro w ob hd hw;refine zR rfl rfl ?_;have:=Lv (neg:=decide (v<0)) hd hw;have e:(if decide (v<0)=true then -Ag v else Ag v)=v:=by
   rw[Ai];by_cases h:v<0
   ·rw[if_pos (decide_eq_true h)];omega
   ·rw[if_neg (by simpa using h)];omega
  rw[e]at this;exact this
 obtain⟨q,d,s1,s2,s3,s4⟩:=ND hv;have hn:=AH v;refine zI (An v) ?_;conv=>zeta
 by_cases h0:v=0
 ·subst h0;exact zj (Ar ..) (zn rfl (zc rfl (zf (fin [] _ (fun x hx=>by cases hx) rfl))))
 ·have eq:Ag (if v<0 then -(q:Int)else q)=q:=by rw[Ai];split<;>omega
  have go:Ends gN (L2 (if v<0 then -(q:Int)else q) 1 (decide (v<0)) [(d:Int)]) (Af Kc v):=by
   refine AS (decide (v<0)) (Ag v) fin (q+1) _ [(d:Int)] (by rw[eq];omega) (by have:=Ai v;split<;>omega) (by simp) (fun _=>?_) (fun x hx=>by rw[yu]at hx;subst hx;show 0≤_∧_<(1000000000:Int);omega) ?_
   ·rw[eq];show(q:Int)*1000000000^1≤_;have:=Ai v;omega
   ·rw[eq,DT,s1];show(d:Int)+(1000000000:Int)^1*(q:Int)=_;omega
  refine zj (Ar ..) (zc (by simpa using h0) (zc rfl ?_));rw[s3,s4];refine zl (fun c=>zc rfl (zc rfl ?_)) (fun c=>zc rfl (zc rfl ?_))
  ·have c:=of_decide_eq_true c;have hn:v<0:=by split at c<;>omega
   rw[if_pos hn]at c;rw[if_pos hn,if_pos hn];rw[if_pos hn]at go;have e5:ze .i64 (0 - -(d:Int))=(d:Int):=by rw[wr _ (by omega) (by omega)];omega
   rw[e5];exact go
  ·have c:=of_decide_eq_false c;have e5:(if v<0 then -(d:Int)else(d:Int))=(d:Int):=by split at c<;>split<;>omega
   rw[e5];exact go
end T107
theorem fQ:∀g sp,wD.sp g=some sp→Ae AV g sp:=Ac T89.ok (Ac T163.ok (Ac T107.ok (fun g sp h=>by cases h)))
theorem BG:∀(s:List UInt8),Ax s=s.take (Ax s).length∧(Bm s=true→(Ax s).length<s.length∧zu s=s.drop ((Ax s).length+1))∧(Bm s=false→Ax s=s∧zu s=[])
 |[]=>⟨rfl,(fun h=>(by cases h)),fun _=>⟨rfl,rfl⟩⟩
 |c::r=>by
  obtain⟨h1,h2,h3⟩:=BG r;have hB:zu (c::r)=if c=47 then r else zu r:=by
   unfold zu;rw[yq];by_cases h:c=47
   ·subst h;rfl
   ·rw[if_neg (by simpa using h),if_neg h];cases r.findIdx? (fun x=>x==47)<;>rfl
  have hC:Bm (c::r)=(decide (c=47)||Bm r):=by
   unfold Bm;rw[List.any_cons];congr 1
  rw[DH,hB,hC];by_cases h:c=47
  ·rw[if_pos h,if_pos h,decide_eq_true h];exact⟨rfl,(fun _=>⟨by simp,rfl⟩),fun h=>by cases h⟩
  ·rw[if_neg h,if_neg h,decide_eq_false h];refine⟨?_,fun g=>?_,fun g=>?_⟩
   ·rw[zM,List.take_succ_cons, ←h1]
   ·obtain⟨k1,k2⟩:=h2 g;refine⟨by simp;omega,?_⟩;rw[zM,List.drop_succ_cons];exact k2
   ·obtain⟨k1,k2⟩:=h3 g;exact⟨by rw[k1],k2⟩
theorem T91.ok:Ae AV 91 Qq:=by
 refine AB (X:=wD) rfl fQ (d:=9) (by kernel_rfl) (by kernel_rfl) (by kernel_rfl) (fun(a:List UInt8) ha=>?_) (Ad (by kernel_rfl));have ha:(D3 (Ax a)&&D3 (zu a)&&decide (a.length≤5999))=true:=ha;rw[zd,zd,decide_eq_true_eq]at ha;obtain⟨⟨ra,rb⟩,hl⟩:=ha;obtain⟨c1,c2,c3⟩:=BG a;have es:AY a=((Ax a).length:Int):=rfl;have hle:(Ax a).length≤a.length:=(T77.CP a).1;refine zI (T91.An a) (zc (decide_eq_true (by omega)) (zl (fun c=>?_) (fun c=>?_)))
 ·have c:(Ax a).length=a.length:=by
   have:((Ax a).length:Int)=(a.length:Int):=by simpa [es]using c
   omega
  have hc:Bm a=false:=by
   cases h:Bm a with
   |false=>rfl
   |true=>have:=(c2 h).1;omega
  obtain⟨k1,k2⟩:=c3 hc;rw[k1]at ra;refine zc ra (zc rfl (zf (zR rfl rfl ?_)));show((EJ a,EN a),(false,Sp.rW 1))=((Bx a,Br a),(Bh a,Bd a));unfold Bx Br Bh Bd A8 AJ EJ EN;rw[k1,hc];rfl
 ·have hlt:(Ax a).length<a.length:=by
   have:((Ax a).length:Int)≠(a.length:Int):=by simpa [es]using c
   omega
  have hc:Bm a=true:=by
   cases h:Bm a with
   |true=>rfl
   |false=>have:=(c3 h).1;rw[this]at hlt;omega
  obtain⟨k1,k2⟩:=c2 hc;have e1:ze .i64 (((Ax a).length:Int)+1)=(((Ax a).length+1:Nat):Int):=by rw[wr _ (by omega) (by omega)];omega
  have e2:(a.drop ((Ax a).length+1)).take (yg a.length ((Ax a).length+1))=a.drop ((Ax a).length+1):=zm (by rw[zi];exact zB _);rw[es,e1,zg,zg,e2, ←c1, ←k2];refine zc (by simp;omega) (zc (by simp;omega) (zc ra (zc rb (zf (zR rfl rfl ?_)))));show((EJ (Ax a),EN (Ax a)),(EJ (zu a),EN (zu a)))=((Bx a,Br a),(Bh a,Bd a));unfold Bx Br Bh Bd A8 AJ EJ EN;rw[hc];rfl
theorem hO:∀g sp,R2.sp g=some sp→Ae AV g sp:=Ac T89.ok (Ac T90.ok (Ac T91.ok (Ac T92.ok (fun g sp h=>by cases h))))
namespace T24
variable {Q:PV→Ob→Prop}
theorem iM{g:Int}(h0:0≤g):BN g=[1]↔g=1:=by
 constructor
 ·intro h;have:=CE (b:=zy) (by decide) h0;have h:Sp.dg zy g=[1]:=h;rw[h]at this;rw[←this];rfl
 ·rintro rfl;rfl
theorem BR(s:List UInt8)(hA:Al (Ax s)=true)(hB:Bm s=true→Al (zu s)=true)(lA:(Ax s).length≤600)(lB:(zu s).length≤600)(hl:s.length≤5999)
  (hq:∀ob,Q (.dat i64 (if Bm s=true∧yH (AA 0 (Ax s)) (AA 0 (zu s))≠1 then 1 else 0)) ob):Ends R2 (L4 s (AY s)) Q:=by
 obtain⟨c1,c2,c3⟩:=BG s;have es:AY s=((Ax s).length:Int):=rfl;refine zj (Dm ..) ?_;conv=>zeta
 rw[es];refine zl (fun c=>?_) (fun c=>?_)
 ·have c:=of_decide_eq_true c;have hc:Bm s=true:=by
   cases h:Bm s with
   |true=>rfl
   |false=>have:=(c3 h).1;rw[this]at c;omega
  have hB:=hB hc;obtain⟨r1,r2⟩:=JR hA (by omega);obtain⟨r3,r4⟩:=JR hB (by omega);have bA:=Be hA;have bB:=Be hB;have tR:∀k:Nat,(10:Int)^k≤(zy:Int)^k:=by
   intro k;induction k with
   |zero=>exact yJ _
   |succ k ih=>
    rw[zW,zW];have h1:=zF ih (show(0:Int)≤10 by decide);have h2:=zq (show(10:Int)≤(zy:Int)by decide) (zz (AN (b:=zy) (by decide) k));exact ym h1 h2
  have uA:AA 0 (Ax s)<(zy:Int)^600:=zr bA.2 (ym (tR _) (AL (by decide) lA));have uB:AA 0 (zu s)<(zy:Int)^600:=zr bB.2 (ym (tR _) (AL (by decide) lB));have e1:Br s=BN (AA 0 (Ax s)):=by
   unfold Br A8 Sp.rW;rw[r2,show Ag (AA 0 (Ax s))=AA 0 (Ax s)by rw[Ai];omega]
  have e2:Bd s=BN (AA 0 (zu s)):=by
   unfold Bd AJ Sp.rW;rw[if_pos hc,r4,show Ag (AA 0 (zu s))=AA 0 (zu s)by rw[Ai];omega]
  obtain⟨n1,_,v1,l1⟩:=Gw (k:=600) bA.1 uA (by decide);obtain⟨n2,_,v2,l2⟩:=Gw (k:=600) bB.1 uB (by decide);have rat:Hs s=true:=by
   unfold Hs;rw[r1,r3];exact decide_eq_true hl
  rw[e1,e2];refine zc rat (zj (Gy ..) (zc (Aa (Aa (Aa n1 n2) (decide_eq_true (by omega))) (decide_eq_true (by omega))) ?_));have ec:Cd (BN (AA 0 (Ax s))) (BN (AA 0 (zu s)))=BN (yH (AA 0 (Ax s)) (AA 0 (zu s))):=by
   unfold Cd;rw[v1,v2]
  rw[ec];obtain⟨g0,_⟩:=lY bA.1 bB.1 uA uB;generalize yH (AA 0 (Ax s)) (AA 0 (zu s))=g at*;have h1:=iM g0;by_cases h:g=1
  ·rw[if_neg (fun x=>x.2 h)]at hq;rw[h1.2 h];exact zj (Hr ..) (zn rfl (zc rfl (zn rfl (zf (hq _)))))
  ·rw[if_pos ⟨hc,h⟩]at hq;have hne:BN g≠[1]:=fun x=>h (h1.1 x)
   refine zj (Hr ..) (zl (fun d=>zf (hq _)) (fun d=>?_));have d:(BN g).length=1:=by
    have:((BN g).length:Int)=1:=by simpa using d
    omega
   obtain⟨x,hx⟩:=List.length_eq_one_iff.1 d;rw[hx]at hne ⊢;have hx1:x≠1:=fun e=>hne (by rw[e])
   exact zc rfl (zc (by simpa using hx1) (zf (hq _)))
 ·have c:=of_decide_eq_false c;have hc:Bm s=false:=by
   cases h:Bm s with
   |false=>rfl
   |true=>have:=(c2 h).1;omega
  rw[if_neg (fun x=>by rw[hc]at x;cases x.1)]at hq;exact zf (hq _)
theorem AS(s:List UInt8)(hA:Al (Ax s)=true)(hl:s.length≤1000000)(hq:∀ob,Q (.dat i64 (T77.E (Ax s) (zu s) (Bm s) (!Bm s||(AU (zu s)&&decide (zu s≠[48])&&decide (zu s≠[49]))))) ob):Ends R2 (L2 s (AY s)) Q:=by
 obtain⟨c1,c2,c3⟩:=BG s;have es:AY s=((Ax s).length:Int):=rfl;have hle:=T77.CP s;have tJ:(Bm s=true→Al (zu s)=true)→(∀ob,Q (.dat i64 (T77.E (Ax s) (zu s) (Bm s) true)) ob)→Ends R2 (L3 s (AY s)) Q:=by
  intro hB hq;unfold T77.E at hq;rw[if_neg (by decide)]at hq;have hlen:s.length=(Ax s).length+(if Bm s=true then 1+(zu s).length else 0):=by
   cases h:Bm s with
   |true=>obtain⟨k1,k2⟩:=c2 h;rw[if_pos rfl,k2,zi];omega
   |false=>obtain⟨k1,k2⟩:=c3 h;rw[if_neg (by decide),k1];rfl
  have hB0:Bm s=false→(zu s).length=0:=fun h=>by rw[(c3 h).2];rfl
  refine zj (CN ..) ?_;conv=>zeta
  rw[es,wr ((s.length:Int)-((Ax s).length:Int)) (by omega) (by omega),wr _ (by omega) (by omega)];refine zl (fun c=>?_) (fun c=>zl (fun d=>?_) (fun d=>?_))
  ·have c:=of_decide_eq_true c;rw[if_pos (.inl (by omega))]at hq;exact zf (hq _)
  ·have c:=of_decide_eq_false c;have d:=of_decide_eq_true d;have:600<(zu s).length:=by split at hlen<;>omega
   rw[if_pos (.inr this)]at hq;exact zf (hq _)
  ·have c:=of_decide_eq_false c;have d:=of_decide_eq_false d;have hb:(zu s).length≤600:=by
    cases h:Bm s with
    |true=>rw[h,if_pos rfl]at hlen;omega
    |false=>have:=hB0 h;omega
   rw[if_neg (by omega)]at hq;exact BR s hA hB (by omega) hb (by split at hlen<;>omega) hq
 refine zj (A1 ..) ?_;conv=>zeta
 cases hc:Bm s with
 |false=>
  rw[hc]at hq;have hn:¬(AY s<(s.length:Int)):=by rw[es,(c3 hc).1];omega
  exact zn (decide_eq_false hn) (tJ (fun h=>by rw[hc]at h;cases h) (by rw[hc];exact hq))
 |true=>
  rw[hc]at hq;obtain⟨k1,k2⟩:=c2 hc;have e1:ze .i64 (((Ax s).length:Int)+1)=(((Ax s).length+1:Nat):Int):=by rw[wr _ (by omega) (by omega)];omega
  have e2:(s.drop ((Ax s).length+1)).take (yg s.length ((Ax s).length+1))=s.drop ((Ax s).length+1):=zm (by rw[zi];exact zB _);rw[es,e1,zg,e2, ←k2];rw[es]at tJ;have bad:(!true||(AU (zu s)&&decide (zu s≠[48])&&decide (zu s≠[49])))=false→∀ob,Q (.dat i64 1) ob:=by
   intro h ob;have:=hq ob;rw[h]at this;exact this
  refine zc (by simp;omega) (zc (by simp;omega) (zc (decide_eq_true (by omega)) (zl (fun d=>zf (bad ?_ _)) (fun d=>zc (by simp;omega) (zl (fun e=>zf (bad ?_ _)) (fun e=>zc (by simp;omega) (zl (fun f=>zf (bad ?_ _)) (fun f=>?_))))))))
  ·have d:AU (zu s)=false:=by simpa using d
   rw[d];rfl
  ·have e:zu s=[48]:=by simpa using e
   rw[decide_eq_false (p:=zu s≠[48]) (fun h=>h e)];simp
  ·have f:zu s=[49]:=by simpa using f
   rw[decide_eq_false (p:=zu s≠[49]) (fun h=>h f)];simp
  ·have d:AU (zu s)=true:=by simpa using d
   have e:zu s≠[48]:=by simpa using e
   have f:zu s≠[49]:=by simpa using f
   rw[d,decide_eq_true e,decide_eq_true f]at hq;exact tJ (fun _=>(Hk d).2) (by rw[hc];exact hq)
theorem Aj(a s:List UInt8)(hs:s=AZ a)(hl:a.length≤1000000)(hq:∀ob,Q (.dat i64 (Ay a)) ob):Ends R2 (L1 a s) Q:=by
 obtain⟨c1,c2,c3⟩:=BG s;have es:AY s=((Ax s).length:Int):=rfl;have hsl:s.length≤a.length:=by rw[hs];exact T77.VQ a
 have hle:=T77.CP s;have hE:Ay a=T77.E (Ax s) (zu s) (Bm s) (AU (Ax s)&&(!yT a||decide (Ax s≠[48]))&&(!Bm s||(AU (zu s)&&decide (zu s≠[48])&&decide (zu s≠[49])))):=by rw[hs];rfl
 rw[hE]at hq;have tk:s.take (Ax s).length=Ax s:=c1.symm;refine zj (Ar ..) ?_;conv=>zeta
 rw[show AY s=((Ax s).length:Int)from rfl,zg,tk];refine zc (decide_eq_true (by omega)) (zc (by simp;omega) (zc (decide_eq_true (by omega)) (zl (fun d=>?_) (fun d=>?_))))
 ·have d:AU (Ax s)=false:=by simpa using d
  rw[d]at hq;exact zf (hq _)
 ·have d:AU (Ax s)=true:=by simpa using d
  have hA:=(Hk d).2;have hne:a.length≠0:=by
   intro h;have h:=zJ.1 h;have:s=[]:=by rw[hs,h];rfl
   rw[this]at d;exact absurd d (by decide)
  rw[d,zX]at hq;refine zc (decide_eq_true (by omega)) (zl (fun e=>zc (by simp;omega) (zl (fun f=>?_) (fun f=>?_))) (fun e=>?_))
  ·have hp:yT a=true:=by
    unfold yT;refine decide_eq_true (zO.1 ?_);have:((a.getD 0 0).toNat:Int)=45:=by simpa using e
    show _=45;omega
   have f:Ax s=[48]:=by simpa using f
   rw[hp,decide_eq_false (p:=Ax s≠[48]) (fun h=>h f)]at hq;exact zf (hq _)
  ·have f:Ax s≠[48]:=by simpa using f
   rw[decide_eq_true f,Bool.or_true,zX]at hq;exact AS s hA (by omega) hq
  ·have hp:yT a=false:=by
    unfold yT;refine decide_eq_false (fun h=>?_);rw[h]at e;exact absurd e (by decide)
   rw[hp,Bool.not_false,Bool.true_or,zX]at hq;exact AS s hA (by omega) hq
theorem ok:Ae AV 24 El:=by
 refine AB (X:=R2) rfl hO (d:=9) (by kernel_rfl) (by kernel_rfl) (by kernel_rfl) (fun(a:List UInt8) hl=>?_) (Ad (by kernel_rfl));have hl:a.length≤1000000:=of_decide_eq_true hl;have hq:∀ob,Af El a (.dat i64 (Ay a)) ob:=fun ob=>zR rfl rfl rfl
 refine zI (An a) ?_;conv=>zeta
 cases a with
 |nil=>exact zn rfl (Aj [] [] rfl hl hq)
 |cons c r=>
  have g0:(c::r).getD 0 0=c:=rfl;rw[g0];refine zc (by simp) (zc (by simp) (zl (fun d=>zc (by simp) ?_) (fun d=>?_)))
  ·have hc:c=45:=by
    have:(c.toNat:Int)=45:=by simpa using d
    exact zO.1 (by show _=45;omega)
   have e:(List.drop 1 (c::r)).take (yg (c::r).length 1)=r:=by show r.take ((r.length+1)-1)=r;rw[yo];exact zE
   rw[e];exact Aj (c::r) r (by unfold AZ;rw[g0,if_pos hc];rfl) hl hq
  ·have hc:c≠45:=by rintro rfl;exact absurd d (by decide)
   exact Aj (c::r) (c::r) (by unfold AZ;rw[g0,if_neg hc]) hl hq
end T24
end Go.Pe
end
section
namespace Go.Pe
open Sp
open Go.Det
theorem Iv:∀g sp,W3.sp g=some sp→Ae AV g sp:=
 Ac T173.ok (Ac T174.ok (Ac T176.ok (Ac T152.ok (Ac T105n.ok (Ac T158.ok (Ac T159.ok (Ac T154.ok (Ac T150.ok (Ac T153.ok (fun g sp h=>by cases h))))))))))
theorem Eu{a:AT}(h:Mo a=true):Ba a=true∧Ag (zh a)<(Ak:Int)^4000:=by
 unfold Mo at h;rw[zd,decide_eq_true_eq]at h;refine⟨?_,Hx h.1 h.2 (by decide)⟩;unfold Ba;exact Aa h.1 (decide_eq_true (by omega))
theorem Ks{x y:Int}(hx:Ag x<(Ak:Int)^4000)(hy:Ag y<(Ak:Int)^4000):Ag (x*y)<(Ak:Int)^8000:=by
 rw[IK];have h0:=AH x;have hp:=AN (b:=Ak) (by decide) 4000;have a1:=zq (zz hy) h0;have a2:=Int.mul_lt_mul_of_pos_right hx hp;have a3:(Ak:Int)^4000*(Ak:Int)^4000=(Ak:Int)^8000:=(Int.pow_add _ 4000 4000).symm;rw[a3]at a2;exact zA a1 a2
theorem wP{x:Int}(h:x<(Ak:Int)^8000):x<(Ak:Int)^9000:=zr h (AL (by decide) (by decide))
theorem QO{x y:Int}(hx:Ag x<(Ak:Int)^4000)(hy:Ag y<(Ak:Int)^4000):Ba (CG (x*y))=true:=Du (wP (Ks hx hy))
theorem sT{a b:AT}(ha:Ba a=true)(hb:Ba b=true)(h:Ag (zh a+zh b)<(Ak:Int)^9000):Ba (D7 a b)=true:=by
 have h1:=Q6 ha hb;unfold D7 at h1 ⊢;split
 ·rename_i c;rw[if_pos c]at h1;unfold Ba;exact Aa h1 rfl
 ·exact Du h
theorem gX(n:Nat):(2:Int)*(Ak:Int)^n≤(Ak:Int)^(n+1):=by
 rw[zW,yk];exact zq (by decide) (zz (AN (b:=Ak) (by decide) n))
theorem dD{x y:Int}(hx:Ag x<(Ak:Int)^8000)(hy:Ag y<(Ak:Int)^8000):Ag (x+y)<(Ak:Int)^9000:=by
 have h2:=gX 8000;have h3:(Ak:Int)^8001≤(Ak:Int)^9000:=AL (by decide) (by decide);have h2:(2:Int)*(Ak:Int)^8000≤(Ak:Int)^8001:=h2;generalize (Ak:Int)^8000=p at*;generalize (Ak:Int)^8001=q at*;generalize (Ak:Int)^9000=r at*;rw[Ai]at*;omega
theorem Ty(a:AT):decide (HW a<0)=decide (zh a<0):=by
 unfold HW SC;rw[Bool.eq_iff_iff,decide_eq_true_eq,decide_eq_true_eq];split
 ·omega
 ·split<;>omega
theorem WD{n d:AT}(h:KZ n d=true):Ba n=true∧Ba d=true∧zh d≠0:=by
 unfold KZ at h;rw[zd,zd,decide_eq_true_eq]at h;exact⟨h.1.1,h.1.2,h.2⟩
theorem T87.ok:Ae AV 87 aB:=by
 refine AB (X:=W3) rfl Iv (d:=9) (by kernel_rfl) (by kernel_rfl) (by kernel_rfl) (fun(a:List UInt8) ha=>?_) (Ad (by kernel_rfl));have ha:(D3 (Ax a)&&D3 (zu a)&&decide (a.length≤5999))=true:=ha;rw[zd,zd,decide_eq_true_eq]at ha;obtain⟨⟨ra,rb⟩,hl⟩:=ha;refine zI (T87.An a) (zc (Aa (decide_eq_true rfl) (decide_eq_true (by omega))) (zl (fun c=>zc ra (zc rfl (zf (zR rfl rfl ?_)))) (fun c=>zc ra (zc rb (zf (zR rfl rfl ?_))))))
 ·have c:Bm a=false:=by simpa using c
  show((CX (Ax a),C1 (Ax a)),((1:Int),Eg 1))=((F6 a,F9 a),(Fk a,Fl a));unfold Fk Fl AJ;rw[c,Mz];rfl
 ·have c:Bm a=true:=by simpa using c
  show((CX (Ax a),C1 (Ax a)),(CX (zu a),C1 (zu a)))=((F6 a,F9 a),(Fk a,Fl a));unfold Fk Fl AJ;rw[c];rfl
theorem T175.ok:Ae AV 175 xF:=by
 refine AB (X:=W3) rfl Iv (d:=9) (by kernel_rfl) (by kernel_rfl) (by kernel_rfl) (fun(i:(Int×List Int)×(Int×List Int)) hi=>?_) (Ad (by kernel_rfl));obtain⟨a,b⟩:=i;obtain⟨ha,hb,h0⟩:=WD (n:=a) (d:=b) hi;refine zI (T175.An a b) (zc (B1 hb).1 ?_);rw[Ty];refine zl (fun c=>zc (B1 ha).1 (zc (B1 hb).1 (zj (T175.Ar ..) (zc ?_ (zf (zR rfl rfl ?_)))))) (fun c=>zj (T175.Ar ..) (zc ?_ (zf (zR rfl rfl ?_))))
 ·have c:zh b<0:=of_decide_eq_true c;have:=Io b;exact Aa (Aa (SU ha) (SU hb)) (decide_eq_true (by show 0<zh (CR b);omega))
 ·have c:zh b<0:=of_decide_eq_true c;show He (CR a) (CR b)=Sp.iQ a b;unfold Sp.iQ;rw[if_pos c]
 ·have c:¬zh b<0:=of_decide_eq_false c;exact Aa (Aa ha hb) (decide_eq_true (by show 0<zh b;omega))
 ·have c:¬zh b<0:=of_decide_eq_false c;show He a b=Sp.iQ a b;unfold Sp.iQ;rw[if_neg c]
theorem kG:∀g sp,nF.sp g=some sp→Ae AV g sp:=Ac T173.ok (Ac T174.ok (Ac T152.ok (Ac T175.ok (fun g sp h=>by cases h))))
theorem mU{n d:AT}(hd:Ba d=true)(h0:zh d≠0):Ba (Sp.gR n d)=true∧zh (Sp.gR n d)=(yn (zh n) (zh d):Int)∧0<zh (Sp.gR n d):=by
 have e:zh (Sp.gR n d)=(yn (zh n) (zh d):Int):=by
  show zh (Cp _,Cn _)=_;rw[JS,F8]
 have hp:0<yn (zh n) (zh d):=Int.gcd_pos_of_ne_zero_right _ h0;refine⟨Fp (Du ?_),e,by rw[e];omega⟩;rw[F8,Ai,zt];have hb:=bounds hd;rw[Ai]at hb;have hle:yn (zh n) (zh d)≤(zh d).natAbs:=Nat.gcd_le_right _ (by omega);omega
namespace T104
variable {Q:PV→Ob→Prop}
theorem Aj(z1 z2:Int)(n d:AT)(hn:Ba n=true)(hd:Ba d=true)(h0:zh d≠0)(hq:∀ob,Q (.agg [.dat i64 (Mk n d).1.1,.dat (.nlist u64) (Mk n d).1.2,.dat i64 (Mk n d).2.1,.dat (.nlist u64) (Mk n d).2.2]) ob):
  Ends nF (L1 z1 z2 d.1 d.2 n.1 n.2) Q:=by
 obtain⟨g1,_,g3⟩:=mU (n:=n) hd h0;have next:Cz d=false→Ends nF (.ite (Ba (n.1,n.2)&&Ba (d.1,d.2)) (L2 (Mc (n.1,n.2) (d.1,d.2)) (LL (n.1,n.2) (d.1,d.2)) z1 z2 d.1 d.2 n.1 n.2) .fail) Q:=by
  intro ho;unfold Mk at hq;rw[if_neg (by rw[ho];decide)]at hq;have k:∀x:AT,Ba x=true→KZ x (Sp.gR n d)=true:=fun x hx=>by unfold KZ;exact Aa (Aa hx g1) (decide_eq_true (by omega))
  exact zc (Aa hn hd) (zj (A1 ..) (zc (k n hn) (zc (k d hd) (zf (hq _)))))
 refine zj (Ar ..) (zl (fun c=>zl (fun e=>zf ?_) (fun e=>next ?_)) (fun c=>next ?_))
 ·have c:d.2=[]:=by simpa using c
  have e:d.1=1:=by simpa using e
  unfold Mk at hq;rw[if_pos (by unfold Cz;simp[c,e])]at hq;exact hq _
 ·unfold Cz;rw[Bool.and_eq_false_iff];right;simpa using e
 ·unfold Cz;rw[Bool.and_eq_false_iff];left;have:d.2≠[]:=by rintro k;rw[k]at c;simp at c
  simpa using this
theorem ok:Ae AV 104 mF:=by
 refine AB (X:=nF) rfl kG (d:=9) (by kernel_rfl) (by kernel_rfl) (by kernel_rfl) (fun(i:(Int×List Int)×(Int×List Int)) hi=>?_) (Ad (by kernel_rfl));obtain⟨n,d⟩:=i;obtain⟨hn,hd,h0⟩:=WD (n:=n) (d:=d) hi;have vn:=Io d;refine zI (An n d) (zc (B1 hd).1 ?_);rw[Ty];refine zl (fun c=>zc (B1 hn).1 (zc (B1 hd).1 (Aj 0 0 (CR n) (CR d) (SU hn) (SU hd) (by omega) (fun ob=>zR rfl rfl ?_)))) (fun c=>Aj 0 0 n d hn hd h0 (fun ob=>zR rfl rfl ?_))
 ·have c:zh d<0:=of_decide_eq_true c;show Mk (CR n) (CR d)=W4 n d;unfold W4;rw[if_pos c]
 ·have c:¬zh d<0:=of_decide_eq_false c;show Mk n d=W4 n d;unfold W4;rw[if_neg c]
end T104
theorem T156.ok:Ae AV 156 M9:=by
 refine AB (X:=W3) rfl Iv (d:=9) (by kernel_rfl) (by kernel_rfl) rfl (fun(a:(Int×List Int)×(Int×List Int)) _=>?_) (Ad (by kernel_rfl));refine zI (T156.An a) (zl (fun c=>zf (zR rfl rfl ?_)) (fun c=>zf (zR rfl rfl ?_)))
 ·have c:a.2.2=[]:=by simpa using c
  show(a.2.1==(1:Int))=Cz a.2;unfold Cz;rw[decide_eq_true c,zX];rfl
 ·have c:a.2.2≠[]:=by rintro k;rw[k]at c;simp at c
  show false=Cz a.2;unfold Cz;rw[decide_eq_false c,Bool.false_and]
theorem T157.ok:Ae AV 157 Ze:=by
 refine AB (X:=W3) rfl Iv (d:=9) (by kernel_rfl) (by kernel_rfl) rfl (fun(a:Int×List Int) _=>?_) (Ad (by kernel_rfl));exact zI (T157.An a) (zc rfl (zf (zR rfl rfl rfl)))
theorem T160.ok:Ae AV 160 mH:=by
 refine AB (X:=W3) rfl Iv (d:=9) (by kernel_rfl) (by kernel_rfl) rfl (fun(a:(Int×List Int)×(Int×List Int)) h=>?_) (Ad (by kernel_rfl));exact zI (T160.An a) (zc h (zf (zR rfl rfl rfl)))
theorem T88.ok:Ae AV 88 YO:=by
 refine AB (X:=W3) rfl Iv (d:=9) (by kernel_rfl) (by kernel_rfl) (by kernel_rfl) (fun(i:((Int×List Int)×(Int×List Int))×((Int×List Int)×(Int×List Int))) hi=>?_) (Ad (by kernel_rfl));obtain⟨a,b⟩:=i;have hi:((Mo a.1&&Mo a.2)&&(Mo b.1&&Mo b.2))=true:=hi;rw[zd,zd,zd]at hi;obtain⟨⟨a1,a2⟩,b1,b2⟩:=hi;obtain⟨a1,la1⟩:=Eu a1;obtain⟨a2,la2⟩:=Eu a2;obtain⟨b1,lb1⟩:=Eu b1;obtain⟨b2,lb2⟩:=Eu b2;refine zI (T88.An a b) (zc (Aa a1 b2) (zc (Aa b1 a2) (zc (Aa (QO la1 lb2) (QO lb1 la2)) (zf (zR rfl rfl ?_)))));show BX (zh (EK a.1 b.2)) (zh (EK b.1 a.2))=BX _ _;rw[Dd,Dd]
theorem FU{a:AD}(h:yQ a=true):Ba a.1=true∧Ba a.2=true∧Ag (zh a.1)<(Ak:Int)^4000∧Ag (zh a.2)<(Ak:Int)^4000∧0<zh a.2:=by
 unfold yQ Sp.Dy at h;rw[zd,zd,decide_eq_true_eq]at h;obtain⟨a1,b1⟩:=Eu h.1.1;obtain⟨a2,b2⟩:=Eu h.1.2;exact⟨a1,a2,b1,b2,h.2⟩
theorem Ri:∀g sp,fC.sp g=some sp→Ae AV g sp:=Ac T156.ok (Ac T157.ok (Ac T158.ok (Ac T159.ok (Ac T104.ok (fun g sp h=>by cases h)))))
theorem QL{n d:AT}(hn:Ba n=true)(hd:Ba d=true)(h0:zh d≠0):KZ n d=true:=by
 unfold KZ;exact Aa (Aa hn hd) (decide_eq_true h0)
theorem Mm{a b:AT}(ha:Ag (zh a)<(Ak:Int)^4000)(hb:Ag (zh b)<(Ak:Int)^4000):Ba (EK a b)=true:=QO ha hb
theorem T82.ok:Ae AV 82 dH:=by
 refine AB (X:=fC) rfl Ri (d:=9) (by kernel_rfl) (by kernel_rfl) (by kernel_rfl) (fun(i:((Int×List Int)×(Int×List Int))×((Int×List Int)×(Int×List Int))) hi=>?_) (Ad (by kernel_rfl));obtain⟨a,b⟩:=i;have hi:(yQ a&&yQ b)=true:=hi;rw[zd]at hi;obtain⟨a1,a2,la1,la2,a0⟩:=FU hi.1;obtain⟨b1,b2,lb1,lb2,b0⟩:=FU hi.2;have hd:zh (EK a.2 b.2)≠0:=by rw[Dd];exact zK (yA a0 b0)
 exact zI (T82.An a b) (zc (Aa a1 b1) (zc (Aa a2 b2) (zc (QL (Mm la1 lb1) (Mm la2 lb2) hd) (zf (zR rfl rfl rfl)))))
namespace T80
variable {Q:PV→Ob→Prop}
theorem Aj(z1 z2:Int)(a b:AD)(ha:yQ a=true)(hb:yQ b=true)(hq:∀ob f,f=W4 (D7 (EK a.1 b.2) (EK b.1 a.2)) (EK a.2 b.2)→Q (.agg [.dat i64 f.1.1,.dat (.nlist u64) f.1.2,.dat i64 f.2.1,.dat (.nlist u64) f.2.2]) ob):
  Ends fC (L1 z1 z2 b.1.1 b.1.2 b.2.1 b.2.2 a.1.1 a.1.2 a.2.1 a.2.2) Q:=by
 obtain⟨a1,a2,la1,la2,a0⟩:=FU ha;obtain⟨b1,b2,lb1,lb2,b0⟩:=FU hb;have hd:zh (EK a.2 b.2)≠0:=by rw[Dd];exact zK (yA a0 b0)
 have hs:Ba (D7 (EK a.1 b.2) (EK b.1 a.2))=true:=sT (Mm la1 lb2) (Mm lb1 la2) (by rw[Dd,Dd];exact dD (Ks la1 lb2) (Ks lb1 la2));exact zj (Ar ..) (zc (Aa a1 b2) (zc (Aa b1 a2) (zc (Aa (Mm la1 lb2) (Mm lb1 la2)) (zc (Aa a2 b2) (zc (QL hs (Mm la2 lb2) hd) (zf (hq _ _ rfl)))))))
theorem ok:Ae AV 80 We:=by
 refine AB (X:=fC) rfl Ri (d:=9) (by kernel_rfl) (by kernel_rfl) (by kernel_rfl) (fun(i:((Int×List Int)×(Int×List Int))×((Int×List Int)×(Int×List Int))) hi=>?_) (Ad (by kernel_rfl));obtain⟨a,b⟩:=i;have hi:(yQ a&&yQ b)=true:=hi;rw[zd]at hi;obtain⟨a1,a2,la1,la2,a0⟩:=FU hi.1;obtain⟨b1,b2,lb1,lb2,b0⟩:=FU hi.2;have far:¬(Cz a.2=true∧Cz b.2=true)→Ends fC (L1 0 0 b.1.1 b.1.2 b.2.1 b.2.2 a.1.1 a.1.2 a.2.1 a.2.2) (Af We (a,b)):=fun hn=>
  Aj 0 0 a b hi.1 hi.2 (fun ob f hf=>zR rfl rfl (by
   show f=Mn a b;unfold Mn;rw[if_neg hn];exact hf))
 refine zI (An a b) (zc rfl (zl (fun c=>zc rfl (zl (fun d=>zc (Aa a1 b1) (zc rfl (zf (zR rfl rfl ?_)))) (fun d=>far (fun k=>by have:=k.2;rw[show Cz b.2=false from d]at this;cases this)))) (fun c=>far (fun k=>by have:=k.1;rw[show Cz a.2=false from c]at this;cases this))));show xC (D7 a.1 b.1)=Mn a b;unfold Mn;rw[if_pos ⟨c,d⟩]
end T80
theorem T161.ok:Ae AV 161 nD:=by
 refine AB (X:=fC) rfl Ri (d:=9) (by kernel_rfl) (by kernel_rfl) (by kernel_rfl) (fun(a:(Int×List Int)×(Int×List Int)) hi=>?_) (Ad (by kernel_rfl));have hi:(yQ a&&decide (zh a.1≠0))=true:=hi;rw[zd,decide_eq_true_eq]at hi;obtain⟨a1,a2,la1,la2,a0⟩:=FU hi.1;exact zI (T161.An a) (zc (QL a2 a1 hi.2) (zf (zR rfl rfl rfl)))
end Go.Pe
end
section
namespace Go.Pe
open Sp
open Go.Det
theorem UH{a:AT}(h:Dt a=true){k:Nat}(hb:Ag (zh a)<(Ak:Int)^k):a.2.length≤k:=by
 rcases OT h with⟨h1,_⟩|h1
 ·rw[h1];exact zU _
 ·rw[←h1];exact Jv (AH _) hb
theorem FF{a:AT}(h:Dt a=true)(hb:Ag (zh a)<(Ak:Int)^4000):Mo a=true:=by
 unfold Mo;exact Aa h (decide_eq_true (UH h hb))
structure D8(f:AD)(q:Rat):Prop where
 n:Dt f.1=true
 d:Dt f.2=true
 vn:zh f.1=q.num
 vd:zh f.2=(q.den:Int)
def KP(k:Nat)(q:Rat):Prop:=Ag q.num<(Ak:Int)^k∧(q.den:Int)<(Ak:Int)^k
theorem D8.den_pos{f:AD}{q:Rat}(h:D8 f q):0<zh f.2:=by
 rw[h.vd];have:=q.den_pos;omega
theorem D8.De{f:AD}{q:Rat}(h:D8 f q)(hs:KP 4000 q):yQ f=true:=by
 unfold yQ Sp.Dy;have h2:Ag (zh f.2)=(q.den:Int):=by rw[h.vd,Ai,zt]
 exact Aa (Aa (FF h.n (by rw[h.vn];exact hs.1)) (FF h.d (by rw[h2];exact hs.2))) (decide_eq_true h.den_pos)
theorem Vj{x y:Int}:Ag (x/y)≤Ag x:=by
 rw[Ai,Ai];have h1:=yy x y;omega
theorem qJ{a b:AT}(hb:0<zh b):zh (He a b)=zh a/zh b:=by
 unfold He;generalize hx:zh a=x;generalize zh b=y at hb;have h1:=Int.mul_ediv_add_emod (Ag x) y;have h2:=Int.emod_nonneg (Ag x) (zK hb);have h3:=Int.emod_lt_of_pos (Ag x) hb;split
 ·next c=>
  rw[cE,Cg,Eh];obtain⟨c1,c2⟩:=c;symm;rw[yE hb];have e:Ag x= -x:=by rw[Ai];omega
  rw[e]at h1 h2 h3 c2 ⊢;generalize -x/y=q at*;generalize -x % y=r at*;rw[Int.sub_mul,Int.neg_mul,yk q y];generalize y*q=t at*;omega
 ·next c=>
  rw[Cg];unfold Sp.sg;split
  ·next n=>
   have n:x<0:=of_decide_eq_true n;have c2:Ag x % y=0:=yz fun h=>c ⟨n,h⟩
   symm;rw[yE hb];have e:Ag x= -x:=by rw[Ai];omega
   rw[c2]at h1;rw[e]at h1 ⊢;generalize -x/y=q at*;rw[Int.neg_mul,yk q y];generalize y*q=t at*;omega
  ·next n=>
   have n:¬x<0:=fun h=>n (decide_eq_true h)
   have e:Ag x=x:=by rw[Ai];omega
   rw[e]
theorem lV{a b:AT}(ha:Ba a=true)(hb:0<zh b):Dt (He a b)=true:=by
 have hab:=bounds ha;have hd:Ag (zh a)/zh b≤Ag (zh a):=Int.ediv_le_self _ (AH _);have hd0:0≤Ag (zh a)/zh b:=Int.ediv_nonneg (AH _) (zz hb);unfold He;generalize Ag (zh a)/zh b=q at*;have hq:Ag q<(Ak:Int)^9000:=by
  refine zA ?_ hab;rw[Ai];omega
 split
 ·exact Q6 (Du (by rw[H4];exact hq)) (by decide)
 ·refine(Mw (k:=9000) ?_ (by omega)).1;unfold Sp.sg;split
  ·rw[H4];exact hq
  ·exact hq
end Go.Pe
end
section
namespace Go.Pe
open Sp
open Go.Det
theorem mA{a b:AT}(hb:0<zh b):zh (Sp.iQ a b)=zh a/zh b:=by
 unfold Sp.iQ;rw[if_neg (by omega)];exact qJ hb
theorem bI{a b:AT}(ha:Ba a=true)(hb:0<zh b):Dt (Sp.iQ a b)=true:=by
 unfold Sp.iQ;rw[if_neg (by omega)];exact lV ha hb
theorem Sg{n d:AT}(hn:Ba n=true)(hd:Ba d=true)(h0:0<zh d):D8 (Mk n d) (zG (zh n) (zh d)):=by
 have hs:(zh d).sign=1:=yF h0;have e1:(zG (zh n) (zh d)).num=zh n/(yn (zh n) (zh d):Int):=by
  rw[yv,hs,yI,yU]
 have e2:((zG (zh n) (zh d)).den:Int)=zh d/(yn (zh n) (zh d):Int):=by
  rw[yw,if_neg (zK h0),yU,Int.natCast_ediv];rw[Int.natAbs_of_nonneg (zz h0)]
 obtain⟨g1,g2,g3⟩:=mU (n:=n) hd (zK h0);unfold Mk;split
 ·next c=>
  unfold Cz at c;rw[zd,decide_eq_true_eq,decide_eq_true_eq]at c;have e:zh d=1:=by rw[Bn c.1];exact c.2
  refine⟨(B1 hn).1,(B1 hd).1,?_,?_⟩
  ·rw[e1,e,Int.gcd_one];exact(yV _).symm
  ·rw[e2,e,Int.gcd_one];exact(yV _).symm
 ·refine⟨bI hn g3,bI hd g3,?_,?_⟩
  ·rw[mA g3,e1,g2]
  ·rw[mA g3,e2,g2]
theorem MC{n d:AT}(hn:Ba n=true)(hd:Ba d=true)(h0:zh d≠0):D8 (W4 n d) (zG (zh n) (zh d)):=by
 unfold W4;split
 ·next c=>
  have h:=Sg (SU hn) (SU hd) (by rw[Io];omega);rw[Io,Io]at h;have e:=Rat.divInt_mul_right (n:=zh n) (d:=zh d) (a:= -1) (by decide);rw[Int.mul_neg,yB,Int.mul_neg,yB]at e;rw[e]at h;exact h
 ·exact Sg hn hd (by omega)
theorem KP.YB{k:Nat}{f:AD}{q:Rat}(h:D8 f q)(hs:KP k q):Ag (zh f.1)<(Ak:Int)^k∧Ag (zh f.2)<(Ak:Int)^k:=by
 rw[h.vn,h.vd];refine⟨hs.1,?_⟩;rw[Ai,zt];exact hs.2
theorem D8.tZ{f:AD}{q:Rat}(h:D8 f q):zG (zh f.1) (zh f.2)=q:=by
 rw[h.vn,h.vd];exact zw q
theorem D8.neg{f:AD}{q:Rat}(h:D8 f q)(hs:KP 4000 q):D8 (qE f) (-q):=by
 have ha:=KP.YB h hs;have hk:=Uu (k:=4000) h.n (by omega) (by omega) (UH h.n ha.1);exact⟨hk.1,h.d,by show zh (CR f.1)=_;rw[Io,h.vn,yK],by show zh f.2=_;rw[h.vd,yL]⟩
theorem KP.neg{k:Nat}{q:Rat}(h:KP k q):KP k (-q):=by
 unfold KP;rw[yK,yL,H4];exact h
theorem D8.mul{f g:AD}{p q:Rat}(hf:D8 f p)(hg:D8 g q)(sp:KP 4000 p)(sq:KP 4000 q):D8 (Vo f g) (p*q):=by
 have a:=KP.YB hf sp;have b:=KP.YB hg sq;have h:=MC (n:=EK f.1 g.1) (d:=EK f.2 g.2) (Mm a.1 b.1) (Mm a.2 b.2) (by rw[Dd];exact zK (yA hf.den_pos hg.den_pos));rw[Dd,Dd, ←Rat.divInt_mul_divInt,hf.tZ,hg.tZ]at h;exact h
theorem D8.add{f g:AD}{p q:Rat}(hf:D8 f p)(hg:D8 g q)(sp:KP 4000 p)(sq:KP 4000 q):D8 (Mn f g) (p+q):=by
 have a:=KP.YB hf sp;have b:=KP.YB hg sq;have ja:=Eu (FF hf.n a.1);have jb:=Eu (FF hg.n b.1);unfold Mn;split
 ·next c=>
  obtain⟨c1,c2⟩:=c;unfold Cz at c1 c2;rw[zd,decide_eq_true_eq,decide_eq_true_eq]at c1 c2;have e1:(p.den:Int)=1:=by rw[←hf.vd,Bn c1.1];exact c1.2
  have e2:(q.den:Int)=1:=by rw[←hg.vd,Bn c2.1];exact c2.2
  have ep:zG p.num 1=p:=by have:=zw p;rw[e1]at this;exact this
  have eq:zG q.num 1=q:=by have:=zw q;rw[e2]at this;exact this
  have es:p+q=zG (p.num+q.num) 1:=by
   have h:=yd p.num q.num (d₁:=1) (d₂:=1) (by decide) (by decide);rw[ep,eq,yB,yB,yB]at h;exact h
  refine⟨Q6 ja.1 jb.1,by show Dt (1,Eg 1)=true;rw[Mz];rfl,?_,?_⟩
  ·show zh (D7 f.1 g.1)=_;rw[Vc,hf.vn,hg.vn,es,yv];simp
  ·show zh (1,Eg 1)=_;rw[Mz,Cg,es,yw];simp
 ·have h:=MC (n:=D7 (EK f.1 g.2) (EK g.1 f.2)) (d:=EK f.2 g.2) (sT (Mm a.1 b.2) (Mm b.1 a.2) (by rw[Dd,Dd];exact dD (Ks a.1 b.2) (Ks b.1 a.2))) (Mm a.2 b.2) (by rw[Dd];exact zK (yA hf.den_pos hg.den_pos));rw[Vc,Dd,Dd,Dd, ←yd _ _ (zK hf.den_pos) (zK hg.den_pos),hf.tZ,hg.tZ]at h;exact h
theorem D8.sub{f g:AD}{p q:Rat}(hf:D8 f p)(hg:D8 g q)(sp:KP 4000 p)(sq:KP 4000 q):D8 (NS f g) (p-q):=by
 rw[Rat.sub_eq_add_neg];exact hf.add (hg.neg sq) sp sq.neg
theorem D8.inv{f:AD}{p:Rat}(hf:D8 f p)(sp:KP 4000 p)(h0:p≠0):D8 (S5 f) p⁻¹:=by
 have a:=KP.YB hf sp;have jn:=Eu (FF hf.n a.1);have jd:=Eu (FF hf.d a.2);have h:=MC jd.1 jn.1 (by rw[hf.vn];exact fun h=>h0 (yj.mp h));rw[←Rat.inv_divInt,hf.tZ]at h;exact h
end Go.Pe
end
section
namespace Go.Sp
open Go.Lib
theorem RX{P:Nat→List UInt8→Prop}(h1:∀d,d<10→P d [zH (48+d)])(h2:∀a d,0<a→d<10→P a (decDigits a)→P (10*a+d) (decDigits a++[zH (48+d)]))(n:Nat):P n (decDigits n):=by
 induction n using Nat.strongRecOn with
 |_ n ih=>
  by_cases h:n<10
  ·rw[decDigits_one h];exact h1 n h
  ·have e:n=10*(n/10)+n % 10:=by omega
   have:=h2 (n/10) (n % 10) (by omega) (Nat.mod_lt _ (by decide)) (ih (n/10) (by omega));rw[←E4 _ _ (by omega) (Nat.mod_lt _ (by decide)), ←e]at this;exact this
theorem NU:∀d:Fin 10,(zH (48+d.1)).toNat=48+d.1:=by decide
theorem JN{d:Nat}(h:d<10):BJ (zH (48+d))=true∧Hb (zH (48+d))=d:=by
 have e:(zH (48+d)).toNat=48+d:=NU ⟨d,h⟩;unfold BJ Hb;rw[e];refine⟨?_,by omega⟩;rw[decide_eq_true (by omega),decide_eq_true (by omega)];rfl
theorem aZ{c:UInt8}(h:BJ c=true):c=zH (48+(Hb c).toNat)∧(Hb c).toNat<10:=by
 obtain⟨h1,h2⟩:=CH h;have hl:(Hb c).toNat<10:=by omega
 refine⟨zO.1 ?_,hl⟩;rw[NU ⟨(Hb c).toNat,hl⟩];show c.toNat=48+(Hb c).toNat;unfold Hb at*;omega
theorem cF(n:Nat):decDigits n≠[]:=RX (P:=fun _ l=>l≠[]) (fun _ _=>by simp) (fun _ _ _ _ _=>by simp) n
theorem DS(n:Nat):Al (decDigits n)=true:=by
 refine RX (P:=fun _ l=>Al l=true) (fun d h=>?_) (fun a d _ h ih=>?_) n
 ·unfold Al;rw[zC,(JN h).1];rfl
 ·unfold Al at*;rw[List.all_append,ih,zC,(JN h).1];rfl
theorem Rq(n:Nat):AA 0 (decDigits n)=n:=by
 refine RX (P:=fun n l=>AA 0 l=n) (fun d h=>?_) (fun a d _ h ih=>?_) n
 ·show 10*0+Hb (zH (48+d))=d;rw[(JN h).2];omega
 ·rw[CB,ih];show 10*(a:Int)+Hb (zH (48+d))=_;rw[(JN h).2];omega
theorem E7{s:List UInt8}(h:AU s=true):s≠[]∧Al s=true∧(s.getD 0 0≠48∨s=[48]):=by
 unfold AU at h;rw[zd,zd,decide_eq_true_eq,Bool.or_eq_true,decide_eq_true_eq,decide_eq_true_eq]at h;exact⟨h.1.1,h.1.2,h.2⟩
theorem Ie{s:List UInt8}(h:AU s=true)(h0:s≠[48]):0<AA 0 s:=by
 obtain⟨h1,h2,h3⟩:=E7 h;cases s with
 |nil=>exact absurd rfl h1
 |cons c r=>
  have g0:(c::r).getD 0 0=c:=rfl;rw[g0]at h3;have hc:c≠48:=by
   rcases h3 with x|x
   ·exact x
   ·exact absurd x h0
  unfold Al at h2;rw[zC,zd]at h2;have hd:=CH h2.1;have hr:Al r=true:=h2.2;have hb:=Be hr;show 0<AA (10*0+Hb c) r;rw[Ec];have hp:(0:Int)<10^r.length:=Int.pow_pos (by decide);have hn:c.toNat≠48:=fun x=>hc (zO.1 x)
  have hg:0<10*0+Hb c:=by show 0<10*0+((c.toNat:Int)-48);have hd2:0≤((c.toNat:Int)-48):=hd.1;omega
  have:=yA hg hp;omega
theorem OP{s:List UInt8}(h:AU s=true):s=decDigits (AA 0 s).toNat:=by
 generalize hn:s.length=n;induction n generalizing s with
 |zero=>exact absurd (zJ.1 hn) (E7 h).1
 |succ n ih=>
  obtain⟨h1,h2,h3⟩:=E7 h;obtain⟨t,c,rfl⟩:∃t c,s=t++[c]:=⟨_,_,(List.dropLast_concat_getLast h1).symm⟩;unfold Al at h2;rw[List.all_append,zd,zC,zd]at h2;obtain⟨h4,h5,_⟩:=h2;obtain⟨b1,b2⟩:=aZ h5;obtain⟨d1,_⟩:=CH h5;rw[CB];show t++[c]=decDigits (10*AA 0 t+Hb c).toNat;by_cases ht:t=[]
  ·subst ht;show[c]=decDigits (10*0+Hb c).toNat;rw[show(10*0+Hb c).toNat=(Hb c).toNat by omega,decDigits_one b2, ←b1]
  ·have g:(t++[c]).getD 0 0=t.getD 0 0:=by
    cases t with
    |nil=>exact absurd rfl ht
    |cons x r=>rfl
   have h6:t.getD 0 0≠48:=by
    rcases h3 with x|x
    ·rw[g]at x;exact x
    ·have h7:=congrArg yM x;rw[zk]at h7;have h8:t.length+1=1:=h7;exact absurd (zJ.1 (by omega)) ht
   have hf:AU t=true:=by
    unfold AU Al;rw[decide_eq_true ht,h4,decide_eq_true h6];rfl
   have hp:=Ie hf (fun k=>h6 (by rw[k];rfl));have hi:=ih hf (by rw[zk]at hn;simpa using hn);have e:(10*AA 0 t+Hb c).toNat=10*(AA 0 t).toNat+(Hb c).toNat:=by omega
   rw[e,E4 _ _ (by omega) b2, ←hi, ←b1]
theorem nQ:∀ {a:List UInt8},(∀c∈a,c≠47)→Ax a=a∧AO a=[]∧Bm a=false:=by
 intro a h;have hc:Bm a=false:=by
  unfold Bm;rw[List.any_eq_false];intro x hx;simpa using h x hx
 exact⟨((Go.Pe.BG a).2.2 hc).1,((Go.Pe.BG a).2.2 hc).2,hc⟩
theorem iI:∀ {a:List UInt8} (b:List UInt8),(∀c∈a,c≠47)→Ax (a++47::b)=a∧AO (a++47::b)=b∧Bm (a++47::b)=true:=by
 intro a b h;have hc:Bm (a++47::b)=true:=by
  unfold Bm;rw[List.any_eq_true];exact⟨47,by simp,rfl⟩
 have ha:∀ {a:List UInt8},(∀c∈a,c≠47)→Ax (a++47::b)=a:=by
  intro a;induction a with
  |nil=>intro _;show Ax (47::b)=[];rw[Go.Pe.DH,if_pos rfl]
  |cons x r ih=>
   intro h;show Ax (x::(r++47::b))=_;rw[Go.Pe.DH,if_neg (h x (by simp)),ih (fun c hc=>h c (List.mem_cons_of_mem _ hc))]
 have e:=ha h;refine⟨e,?_,hc⟩;rw[((Go.Pe.BG _).2.1 hc).2,e];simp
theorem Qg{s:List UInt8}(h:Al s=true):∀c∈s,c≠47:=by
 intro c hc e;unfold Al at h;rw[yf]at h;have:=h c hc;rw[e]at this;exact absurd this (by decide)
theorem E3{s:List UInt8}(h:Al s=true):s.getD 0 0≠45:=by
 cases s with
 |nil=>decide
 |cons c r=>
  unfold Al at h;rw[zC,zd]at h;show c≠45;intro e;rw[e]at h;exact absurd h.1 (by decide)
def A3(q:Rat):List UInt8:=if q.den=1 then itoa q.num else itoa q.num++47::decDigits q.den
def AG(s:List UInt8):Rat:=zG (A8 s) (AJ s)
theorem Ej(n:Int):(∀c∈itoa n,c≠47)∧AZ (itoa n)=decDigits n.natAbs∧preB (itoa n)=decide (n<0)∧Ca (itoa n)=n:=by
 unfold itoa;by_cases h:n<0
 ·rw[if_pos h];refine⟨fun c hc=>?_,rfl,(decide_eq_true h).symm,?_⟩
  ·rcases List.mem_cons.1 hc with rfl|hc
   ·decide
   ·exact Qg (DS _) c hc
  ·show -AA 0 (decDigits n.natAbs)=n;rw[Rq];omega
 ·rw[if_neg h];have hm:=E3 (DS n.toNat);have e:n.toNat=n.natAbs:=by omega
  refine⟨Qg (DS _),?_,?_,?_⟩
  ·unfold AZ;rw[if_neg hm,e]
  ·unfold preB;rw[decide_eq_false hm,decide_eq_false h]
  ·unfold Ca;rw[if_neg hm,Rq];omega
theorem Ib(q:Rat):Ax (A3 q)=itoa q.num∧AO (A3 q)=(if q.den=1 then[]else decDigits q.den)∧Bm (A3 q)=decide (q.den≠1):=by
 unfold A3;have h:=(Ej q.num).1;by_cases hd:q.den=1
 ·rw[if_pos hd,if_pos hd,decide_eq_false (not_not_intro hd)];exact nQ h
 ·rw[if_neg hd,if_neg hd,decide_eq_true hd];exact iI _ h
theorem JF(q:Rat):A8 (A3 q)=q.num∧AJ (A3 q)=q.den:=by
 obtain⟨h1,h2,h3⟩:=Ib q;unfold A8 AJ;rw[h1,h2,h3];refine⟨(Ej q.num).2.2.2,?_⟩;by_cases hd:q.den=1
 ·rw[if_neg (by simpa using hd),hd];rfl
 ·rw[if_pos (decide_eq_true hd),if_neg hd];unfold Ca;rw[if_neg (E3 (DS _)),Rq]
theorem DF(q:Rat):AG (A3 q)=q:=by
 unfold AG;rw[(JF q).1,(JF q).2];exact zw q
theorem YD{p q:Rat}(h:A3 p=A3 q):p=q:=by
 rw[←DF p,h,DF]
theorem VZ(a:List UInt8):Ax (AZ a)=AZ (Ax a)∧AO (AZ a)=AO a∧Bm (AZ a)=Bm a∧preB (Ax a)=preB a:=by
 unfold AZ preB;cases a with
 |nil=>exact⟨rfl,rfl,rfl,rfl⟩
 |cons c r=>
  have g0:(c::r).getD 0 0=c:=rfl;rw[g0,Go.Pe.DH];by_cases hc:c=45
  ·subst hc;have e:AO (45::r)=AO r:=by
    unfold AO;rw[yq];cases r.findIdx? (fun x=>x==47)<;>rfl
   exact⟨rfl,e.symm,rfl,rfl⟩
  ·rw[if_neg hc];by_cases h7:c=47
   ·subst h7;exact⟨(Go.Pe.DH _ _),rfl,rfl,rfl⟩
   ·rw[if_neg h7];have g1:(c::Ax r).getD 0 0=c:=rfl;rw[g1,if_neg hc];exact⟨by rw[Go.Pe.DH,if_neg h7],rfl,rfl,rfl⟩
theorem UA{a:List UInt8}(h:Ay a=0):Hq a=true∧(Ax (AZ a)).length≤600∧(AO (AZ a)).length≤600∧(Bm (AZ a)=true→gI (pN a) (pC a)=1):=by
 unfold Ay at h;cases hf:Hq a with
 |false=>rw[if_pos hf]at h;exact absurd h (by decide)
 |true=>
  rw[if_neg (by rw[hf];decide)]at h;split at h
  ·exact absurd h (by decide)
  ·next c=>
   split at h
   ·exact absurd h (by decide)
   ·next d=>exact⟨rfl,by omega,by omega,fun k=>yz fun g=>d ⟨k,g⟩⟩
def Gr(k:Nat)(q:Rat):Prop:=q.num.natAbs<10^k∧q.den<10^k
theorem Nk{n d:Int}(hd:0<d)(h:yn n d=1):(zG n d).num=n∧((zG n d).den:Int)=d:=by
 have hs:d.sign=1:=yF hd;rw[yv,yw,if_neg (zK hd),hs,yI,yU,h];refine⟨yV _,?_⟩;rw[Nat.div_one,Int.natAbs_of_nonneg (zz hd)]
theorem NI{s:List UInt8}(h:Al s=true){k:Nat}(hl:s.length≤k):(AA 0 s).toNat<10^k:=by
 have h1:=Be h;have h2:(10:Int)^s.length≤10^k:=AL (by decide) hl;have h3:((10^k:Nat):Int)=(10:Int)^k:=by simp
 omega
theorem Jx(k:Nat)(h:k≠0):(1:Int).toNat<10^k:=Nat.one_lt_pow h (by decide)
theorem lD:decDigits (zZ 1)=[49]:=by rw[show zZ 1=1 from rfl,decDigits_one (by decide)];rfl
theorem PE{s:List UInt8}(h:Ay s=0):A3 (AG s)=s∧(AG s).num=A8 s∧((AG s).den:Int)=AJ s∧Gr 600 (AG s):=by
 obtain⟨hf,l1,l2,hg⟩:=UA h;obtain⟨p1,p2,p3,p4⟩:=VZ s;unfold Hq at hf;rw[zd,zd]at hf;obtain⟨⟨fa,fm⟩,fb⟩:=hf;unfold pN pC at hg;obtain⟨A,hA⟩:∃A,A=Ax (AZ s):=⟨_,rfl⟩;obtain⟨B,hB⟩:∃B,B=AO (AZ s):=⟨_,rfl⟩;rw[←hA]at fa fm l1 hg;rw[←hB]at fb l2 hg;rw[p3]at fb hg;have dA:=(E7 fa).2.1;have ea:=OP fa;have v0:=Be dA;have hn:A8 s=(if preB s=true then -AA 0 A else AA 0 A)∧Ax s=(if preB s=true then 45::A else A):=by
  have e1:A=AZ (Ax s):=by rw[hA,p1]
  unfold A8 Ca;rw[←p4];unfold preB;rw[e1];unfold AZ;by_cases hc:(Ax s).getD 0 0=45
  ·rw[if_pos hc,if_pos (decide_eq_true hc),if_pos hc,if_pos (decide_eq_true hc)];refine⟨rfl,?_⟩;cases hs:Ax s with
   |nil=>rw[hs]at hc;exact absurd hc (by decide)
   |cons c r=>
    rw[hs]at hc;have hc:c=45:=hc;rw[hc];rfl
  ·rw[if_neg hc,if_neg (by rw[decide_eq_false hc];decide),if_neg hc,if_neg (by rw[decide_eq_false hc];decide)];exact⟨rfl,rfl⟩
 have hna:(A8 s).natAbs=(AA 0 A).toNat:=by rw[hn.1];split<;>omega
 have hd:0<AJ s∧(AJ s).toNat<10^600∧yn (A8 s) (AJ s)=1∧(Bm s=true→B=decDigits (AJ s).toNat∧AJ s≠1)∧(Bm s=false→AJ s=1):=by
  unfold AJ;rw[←p2, ←hB];cases hc:Bm s with
  |false=>
   rw[if_neg (by decide)];exact⟨by decide,Jx 600 (by decide),Int.gcd_one,(fun k=>by cases k),fun _=>rfl⟩
  |true=>
   rw[hc]at fb;have fb:(AU B&&decide (B≠[48])&&decide (B≠[49]))=true:=fb;rw[zd,zd,decide_eq_true_eq,decide_eq_true_eq]at fb;obtain⟨⟨f1,f2⟩,f3⟩:=fb;have dB:=(E7 f1).2.1;have hp:=Ie f1 f2;have er:Ca B=AA 0 B:=by unfold Ca;rw[if_neg (E3 dB)]
   rw[if_pos rfl,er];refine⟨hp,NI (k:=600) dB l2,?_,fun _=>⟨OP f1,?_⟩,(fun k=>by cases k)⟩
   ·have g:=hg hc;rw[F8]at g;have g:yn (AA 0 A) (AA 0 B)=1:=by omega
    rw[hn.1];split
    ·rw[Int.neg_gcd];exact g
    ·exact g
   ·intro e;have:=OP f1;rw[e]at this;exact f3 (this.trans lD)
 obtain⟨d0,d1,d2,d3,d4⟩:=hd;obtain⟨r1,r2⟩:=Nk (n:=A8 s) d0 d2;have r1:(AG s).num=A8 s:=r1;have r2:((AG s).den:Int)=AJ s:=r2;have r3:(AG s).den=(AJ s).toNat:=by omega
 refine⟨?_,r1,r2,?_,?_⟩
 ·have ei:itoa (A8 s)=Ax s:=by
   rw[hn.2];unfold itoa;by_cases hb:preB s=true
   ·have hA0:A≠[48]:=by
     have hb2:preB s=true:=hb;rw[hb2]at fm;simpa using fm
    have:=Ie fa hA0;rw[hn.1,if_pos hb,if_pos hb,if_pos (by omega),Int.natAbs_neg];rw[show(AA 0 A).natAbs=(AA 0 A).toNat by omega, ←ea]
   ·rw[hn.1,if_neg hb,if_neg hb,if_neg (by omega), ←ea]
  unfold A3;rw[r1,r3,ei];obtain⟨c1,c2,c3⟩:=Go.Pe.BG s;cases hc:Bm s with
  |false=>
   rw[d4 hc,if_pos (show zZ 1=1 from rfl)];exact(c3 hc).1
  |true=>
   obtain⟨k1,k2⟩:=d3 hc;obtain⟨m1,m2⟩:=c2 hc;rw[if_neg (by omega), ←k1,hB,p2,m2];have hx:s.drop (Ax s).length=47::s.drop ((Ax s).length+1):=by
    have h0:∀t:List UInt8,Bm t=true→t.drop (Ax t).length=47::t.drop ((Ax t).length+1):=by
     intro t;induction t with
     |nil=>intro h;cases h
     |cons c r ih=>
      intro h;rw[Go.Pe.DH];by_cases e:c=47
      ·rw[if_pos e,e];rfl
      ·rw[if_neg e];have h2:Bm r=true:=by
        unfold Bm at h ⊢;rw[List.any_cons]at h;simpa [e]using h
       exact ih h2
    exact h0 s hc
   rw[←hx];conv=>lhs;rw[c1]
   have:=yc (Ax s).length s;rw[←c1]at this ⊢;exact this
 ·rw[r1,hna];exact NI (k:=600) dA l1
 ·rw[r3];exact d1
end Go.Sp
end
section
namespace Go.Sp
def AW(n:Int):List UInt8:=zD n
def NG(s:List UInt8)(n:Int):List UInt8:=Lib.repeatL s n.toNat
end Go.Sp
namespace Go.Pe
open Go.Det
noncomputable section
noncomputable def dJ:Ao:=⟨[i64],fun n=>Sp.CS n,[.str],fun n=>Sp.AW n,false⟩
noncomputable def TA:Ao:=⟨[u64,i64],fun i=>decide (0≤i.1)&&decide (i.1<1000000000000000000)&&decide (i.2=10),[.str],fun i=>Sp.AW i.1,false⟩
noncomputable def Rv:Ao:=⟨[.str,i64],fun i=>decide (0≤i.2)&&decide (i.2≤1000)&&decide (i.1.length≤1000),[.str],fun i=>Sp.NG i.1 i.2,false⟩
noncomputable def qD:Ao:=⟨[BE],fun a=>Sp.Ba a,[.str],fun a=>Sp.AW (zh a),false⟩
noncomputable def Pj:A5:=X7 [(124,dJ),(218,NB),(230,Fy),(249,TA),(250,Rv)]
end
end Go.Pe
end
section
namespace Go.Pe
open Sp
open Go.Det
noncomputable section
open List Int Prod
namespace T200
def T(a:Int×List Int):Tr:=tree Pj false 9 200 (Ah ([Sh.pair i64 (Sh.nlist (yR yh))]) a)
def L1(v3:Bool)(v4:List Int)(v5n:Nat)(o0:List Int):Tr:=re ((T (0,[])).R.L) (AI 69 [(3,.dat Sh.bool v3),(4,.dat (Sh.list (yR yh)) v4),(5,.sl 0 1 0 v5n none),(6,.nil)] [(0,.arr false 130 (yR yh) o0)] 1)
theorem An(a:Int×List Int):T a=.ite (!decide (0<length (snd a))) (.ite (CS (fst a)) (.leaf (.dat Sh.str (AW (fst a))) ([(0,.box [.dat i64 (fst a),.dat (Sh.nlist (yR yh)) (snd a)])])) .fail) (.ite (Dt (fst a,snd a)) (L1 (decide (zh (fst a,snd a)<0)) (Bp (Ag (zh (fst a,snd a)))) 1 ([1000000000000000000])) .fail):=by kernel_rfl
def L2(v3:Bool)(v4:List Int)(v5n v6n:Nat)(o1:List (List UInt8))(o0:List Int):Tr:=re ((stepT Pj (L1 false [] 0 [])).L.L.L.L.L.L.L.L.L) (AI 69 [(3,.dat Sh.bool v3),(4,.dat (Sh.list (yR yh)) v4),(5,.sl 0 1 0 v5n none),(6,.sl 1 1 0 v6n none)] [(1,.arr false 9 Sh.str o1),(0,.arr true 130 (yR yh) o0)] 2)
def L3(v11:Int)(o1:List Int)(o0n:Nat):Tr:=re ((stepT Pj (L1 false [] 0 [])).R.L.L.L) (AI 69 [(6,.nil),(10,.ptr 0 0),(11,.dat i64 v11)] [(1,.arr false 5 (yR IntKind.u8) o1),(0,yC 222 [.ptr 0 0,.sl 1 1 0 o0n none])] 2)
def L4(v11:Int):Tr:=re ((stepT Pj (L1 false [] 0 [])).R.L.R) (AI 69 [(6,.nil),(10,.ptr 0 0),(11,.dat i64 v11)] [(0,yC 222 [.ptr 0 0,.nil])] 1)
def L5(v11:Int):Tr:=re ((stepT Pj (L1 false [] 0 [])).R.R) (AI 69 [(6,.nil),(10,.ptr 0 0),(11,.dat i64 v11)] [(0,yC 222 [PV.nilp,.nil])] 1)
theorem Ar(v3:Bool)(v4:List Int)(v5n:Nat)(o0:List Int):stepT Pj (L1 v3 v4 v5n o0)=let a':=Bp (Am v4 % Am (take v5n o0));let b':=Bp (Am v4/Am (take v5n o0));let d':=decide (1≤1)&&decide (0<1)&&decide ((2*1+1000)*16≤281474976710656);let e':=ze .i64 (0-1);let f':=AW (getD a' 0 0);let c':=18-(↑(length f'):Int);.ite (decide ((length v4:Int)>0)) (.ite (decide (0+v5n≤length o0)&&true&&Qz v4 (take v5n o0)) (.ite (decide ((↑(length a'):Int)>0)) (.ite (decide (0<(↑(length a'):Int))) (.ite (decide ((0:Sh.T u64)≤getD a' 0 0)&&decide (getD a' 0 0<(1000000000000000000:Sh.T u64))&&decide (10=10)) (.ite (decide ((↑(length b'):Int)>0)) (.ite (decide (0≤ze .i64 c')&&decide (ze .i64 c'≤1000)&&decide (1≤1000)) (.ite (decide (length (NG [(48:UInt8)] (ze .i64 c'))+length f'≤4611686018427387904)) (.ite d' (L2 v3 b' v5n 1 ([NG [(48:UInt8)] (ze .i64 c')++AW (getD a' 0 0)]) o0) .fail) .fail) .fail) (.ite d' (L2 v3 b' v5n 1 ([AW (getD a' 0 0)]) o0) .fail)) .fail) .fail) (.ite (decide ((↑(length b'):Int)>0)) (.ite true (.ite true (.ite true (L2 v3 b' v5n 1 ([NG [(48:UInt8)] (ze .i64 (18-1))++[(48:UInt8)]]) o0) .fail) .fail) .fail) (.ite true (L2 v3 b' v5n 1 ([[(48:UInt8)]]) o0) .fail))) .fail) (.ite v3 (.ite true (.ite true (L3 e' (zT (fun b=>(↑(zL b):Int)) [(45:UInt8)]) 1) .fail) (L4 e')) (L5 e')):=by kernel_rfl
def L6(v6n:Nat)(v11:Int)(o2:List Int)(o1n:Nat)(o0:List (List UInt8)):Tr:=re ((stepT Pj (L2 false [] 0 0 [] [])).R.L.L.L) (AI 69 [(6,.sl 0 1 0 v6n none),(10,.ptr 1 0),(11,.dat i64 v11)] [(2,.arr false 5 (yR IntKind.u8) o2),(1,yC 222 [.ptr 1 0,.sl 2 1 0 o1n none]),(0,.arr false 9 Sh.str o0)] 3)
def L7(v6n:Nat)(v11:Int)(o0:List (List UInt8)):Tr:=re ((stepT Pj (L2 false [] 0 0 [] [])).R.L.R) (AI 69 [(6,.sl 0 1 0 v6n none),(10,.ptr 1 0),(11,.dat i64 v11)] [(1,yC 222 [.ptr 1 0,.nil]),(0,.arr false 9 Sh.str o0)] 2)
def L8(v6n:Nat)(v11:Int)(o0:List (List UInt8)):Tr:=re ((stepT Pj (L2 false [] 0 0 [] [])).R.R) (AI 69 [(6,.sl 0 1 0 v6n none),(10,.ptr 1 0),(11,.dat i64 v11)] [(1,yC 222 [PV.nilp,.nil]),(0,.arr false 9 Sh.str o0)] 2)
theorem A1(v3:Bool)(v4:List Int)(v5n v6n:Nat)(o1:List (List UInt8))(o0:List Int):stepT Pj (L2 v3 v4 v5n v6n o1 o0)=let a':=Bp (Am v4 % Am (take v5n o0));let b':=Bp (Am v4/Am (take v5n o0));let d':=decide ((2*(v6n+1)+1000)*16≤281474976710656);let e':=ze .i64 ((↑v6n:Int)-1);let f':=decide (v6n=length o1);let g':=yD v6n 1;let h':=decide (1≤1)&&true&&f'&&d';let i':=AW (getD a' 0 0);let c':=18-(↑(length i'):Int);.ite (decide ((length v4:Int)>0)) (.ite (decide (0+v5n≤length o0)&&true&&Qz v4 (take v5n o0)) (.ite (decide ((↑(length a'):Int)>0)) (.ite (decide (0<(↑(length a'):Int))) (.ite (decide ((0:Sh.T u64)≤getD a' 0 0)&&decide (getD a' 0 0<(1000000000000000000:Sh.T u64))&&decide (10=10)) (.ite (decide ((↑(length b'):Int)>0)) (.ite (decide (0≤ze .i64 c')&&decide (ze .i64 c'≤1000)&&decide (1≤1000)) (.ite (decide (length (NG [(48:UInt8)] (ze .i64 c'))+length i'≤4611686018427387904)) (.ite h' (L2 v3 b' v5n g' (o1++[NG [(48:UInt8)] (ze .i64 c')++AW (getD a' 0 0)]) o0) .fail) .fail) .fail) (.ite h' (L2 v3 b' v5n g' (o1++[AW (getD a' 0 0)]) o0) .fail)) .fail) .fail) (.ite (decide ((↑(length b'):Int)>0)) (.ite true (.ite true (.ite (f'&&d') (L2 v3 b' v5n g' (o1++[NG [(48:UInt8)] (ze .i64 (18-1))++[(48:UInt8)]]) o0) .fail) .fail) .fail) (.ite (f'&&d') (L2 v3 b' v5n g' (o1++[[(48:UInt8)]]) o0) .fail))) .fail) (.ite v3 (.ite true (.ite true (L6 v6n e' (zT (fun b=>(↑(zL b):Int)) [(45:UInt8)]) 1 o1) .fail) (L7 v6n e' o1)) (L8 v6n e' o1)):=by kernel_rfl
theorem Hr(v6n:Nat)(v11:Int)(o2:List Int)(o1n:Nat)(o0:List (List UInt8)):stepT Pj (L6 v6n v11 o2 o1n o0)=let a':=getD o0 (toNat v11) [];.ite (decide (v11≥0)) (.ite (decide (0≤v11)&&decide (v11<(↑v6n:Int))) (.ite (decide (toNat v11<length o0)) (.ite (decide (o1n=length o2)&&decide ((2*(o1n+length (zT (fun b=>(↑(zL b):Int)) a'))+1000)*1≤281474976710656)) (L6 v6n (ze .i64 (v11-1)) (o2++zT (fun b=>(↑(zL b):Int)) a') (yD o1n (length (zT (fun b=>(↑(zL b):Int)) a'))) o0) .fail) .fail) .fail) (.ite (decide (0<o1n)) (.ite (decide (0<(↑o1n:Int))&&decide (toNat (↑o1n:Int)≤length o2)&&decide (toNat (↑o1n:Int)≤9223372036854775807)&&List.all o2 fun x=>decide (0≤x)&&decide (x<256)) (.leaf (.dat Sh.str (zT (fun x=>zH (toNat x)) (take (toNat (↑o1n:Int)) o2))) ([(1,yC 222 [.ptr 1 0,.sl 2 1 0 o1n none]),(0,.arr false 9 Sh.str o0)])) .fail) .fail):=by kernel_rfl
theorem Jb(v6n:Nat)(v11:Int)(o0:List (List UInt8)):stepT Pj (L8 v6n v11 o0)=let a':=getD o0 (toNat v11) [];let b':=ze .i64 (v11-1);.ite (decide (v11≥0)) (.ite (decide (0≤v11)&&decide (v11<(↑v6n:Int))) (.ite (decide (toNat v11<length o0)) (.ite (decide (0<length (zT (fun b=>(↑(zL b):Int)) a'))) (.ite (decide ((2*length (zT (fun b=>(↑(zL b):Int)) a')+1000)*1≤281474976710656)) (L6 v6n b' (zT (fun b=>(↑(zL b):Int)) a') (length (zT (fun b=>(↑(zL b):Int)) a')) o0) .fail) (L7 v6n b' o0)) .fail) .fail) .fail:=by kernel_rfl
end T200
end
theorem Lc{f:FuncId}{sp:Ao}{q:List V→H→Option (V×H)}(hp:AV.prim f=none)(hfn:∃i,AV.fn f=some i)(hq:AV.spec f=some q)
  (hrun:∀(F:Fz) (h:H) (args:List V) (i:(BA sp.ins).T),Gh h→Lj F (Ah sp.ins i) args→sp.pre i=true→∃v,q args h=some (v,h)∧PC F (one (Ah sp.outs (sp.f i))) v):Ae AV f sp:=by
 refine .vB ⟨hp,hfn,fun F h args i hfz hlt hgh hargs hpre=>?_⟩;obtain⟨v,h1,h2⟩:=hrun F h args i hgh hargs hpre;refine⟨[(v,h)],1,fun m hm=>?_,fun _=>⟨_,rfl⟩,fun x hx=>?_⟩
 ·obtain⟨m',rfl⟩:∃m',m=m'+1:=⟨m-1,by omega⟩;rw[Bg];simp only[hq,h1]
 ·cases yu.1 hx;exact⟨zB _,fun _ _=>rfl,hlt,F,fun _ _ h=>h,fun _ _ h=>.inl h,hfz,h2⟩
theorem sI:∃cs t fz,(3,O.cells cs t fz)∈Ft∧pO cs Lib.pow10Tab=true:=⟨_,_,_,List.mem_cons_self ..,by kernel_rfl⟩
theorem VA{h:H}(hg:Gh h):RB h=true:=by
 obtain⟨cs,t,fz,h1,h2⟩:=sI;have h3:=hg _ h1;unfold RB;rw[h3];exact h2
theorem jE:Ae AV 124 dJ:=by
 refine Lc (q:=VT) (by kernel_rfl) (Ad (by kernel_rfl)) rfl fun F h args (n:Int) hg ha hp=>?_
 have hp:Sp.CS n=true:=hp;have ha:args=[.int .i64 n]:=by
  have:=ha (fun _=>none) 0;simp only[Ah,dJ,Bb]at this;obtain⟨v,vs,rfl,h1,rfl⟩:=this;obtain rfl:=Cw h1;rfl
 subst ha;refine⟨.str (zD n),?_,fun ρ N=>JG _⟩;have:=Em hp;have c1:decide (-9223372036854775808≤n)=true:=decide_eq_true (by omega);have c2:decide (n≤9223372036854775807)=true:=decide_eq_true (by omega);simp only[VT,VA hg,c1,c2,Bool.and_self,cond_true]
theorem Yt:Ae AV 250 Rv:=by
 refine Lc (q:=QJ) (by kernel_rfl) (Ad (by kernel_rfl)) rfl fun F h args (i:List UInt8×Int) hg ha hp=>?_
 obtain⟨s,n⟩:=i;have hp:(decide (0≤n)&&decide (n≤1000)&&decide (s.length≤1000))=true:=hp;rw[zd,zd,decide_eq_true_eq,decide_eq_true_eq,decide_eq_true_eq]at hp;obtain⟨⟨h0,h1⟩,h2⟩:=hp;obtain⟨c,rfl⟩:=zS h0;have ha:args=[.str s,.int .i64 (c:Int)]:=by
  have:=ha (fun _=>none) 0;simp only[Ah,Rv,Bb]at this;obtain⟨v,vs,rfl,h3,w,ws,rfl,h4,rfl⟩:=this;obtain rfl:=EL h3;obtain rfl:=Cw h4;rfl
 subst ha;refine⟨.str (Sp.NG s (c:Int)),?_,fun ρ N=>JG _⟩;have c1:yW c 9223372036854775807=true:=ye (by omega);have c2:yW (Dr s*c) 140737488355328=true:=ye (by
  rw[Cr];have:s.length*c≤1000*1000:=Nat.mul_le_mul h2 (by omega);omega)
 show(bif yW c 9223372036854775807&&yW (Dr s*c) 140737488355328 then some (V.str (Lib.repeatL s c),h)else none)=_;rw[c1,c2];rfl
theorem dX:Ae AV 249 TA:=by
 refine Lc (q:=fmtQ) (by kernel_rfl) (Ad (by kernel_rfl)) rfl fun F h args (i:Int×Int) hg ha hp=>?_
 obtain⟨u,b⟩:=i;have hp:(decide (0≤u)&&decide (u<1000000000000000000)&&decide (b=10))=true:=hp;rw[zd,zd,decide_eq_true_eq,decide_eq_true_eq,decide_eq_true_eq]at hp;obtain⟨⟨h0,h1⟩,rfl⟩:=hp;obtain⟨c,rfl⟩:=zS h0;have ha:args=[.int .u64 (c:Int),.int .i64 10]:=by
  have:=ha (fun _=>none) 0;simp only[Ah,TA,Bb]at this;obtain⟨v,vs,rfl,h3,w,ws,rfl,h4,rfl⟩:=this;obtain rfl:=Cw h3;obtain rfl:=Cw h4;rfl
 subst ha;refine⟨.str (Sp.AW (c:Int)),?_,fun ρ N=>JG _⟩;have c1:yW c 18446744073709551615=true:=ye (by omega);have e:Sp.AW (c:Int)=zo c:=Lib.itoa_nonneg _;rw[e];show(bif RB h&&(yW c 18446744073709551615&&Nat.beq 10 10)then some (V.str (zo c),h)else none)=_;rw[VA hg,c1];rfl
namespace T200
abbrev fD(s:List UInt8):List Int:=zT (fun b=>(↑(zL b):Int)) s
theorem SJ:∀s:List UInt8,zT (fun x:Int=>zH (zZ x)) (fD s)=s
 |[]=>rfl
 |b::s=>by
  have:=SJ s;simp only[fD,List.map_cons]at this ⊢;rw[this];simp
theorem Wi:∀s:List UInt8,(List.all (fD s) fun x=>decide ((0:Int)≤x)&&decide (x<(256:Int)))=true
 |[]=>rfl
 |b::s=>by
  have h1:=Wi s;have h2:=b.toNat_lt;simp only[fD,List.map_cons,zC]at h1 ⊢;rw[h1,yO,zd,decide_eq_true_eq,decide_eq_true_eq];omega
theorem fI(a b:List UInt8):fD a++fD b=fD (a++b):=by simp[fD]
variable {Q:PV→Ob→Prop}
theorem Es(o0:List (List UInt8))(T:List UInt8)(hT:T.length≤1000000)(hl:o0.length≤1000000)(hq:∀ob,Q (.dat .str T) ob):∀(i:Nat) (acc:List UInt8) (v11:Int) (n:Nat),i≤o0.length→v11=(i:Int)-1→n=acc.length→0<acc.length→acc++(o0.take i).reverse.flatten=T→
  Ends Pj (L6 o0.length v11 (fD acc) n o0) Q
 |0,acc,v11,n,_,hv,hn,h0,he=>by
  have he:acc=T:=by simpa using he
  subst he hn;refine zj (Hr ..) (zn (decide_eq_false (by omega)) (zc (decide_eq_true h0) (zc (Aa (Aa (Aa (decide_eq_true (by omega)) (decide_eq_true (by simp))) (decide_eq_true (by simp;omega))) (Wi acc)) (zf ?_))));have e:zT (fun x:Int=>zH (zZ x)) (yN (zZ (acc.length:Int)) (fD acc))=acc:=by
   rw[zg,zm (by simp),SJ]
  rw[e];exact hq _
 |i+1,acc,v11,n,hi,hv,hn,h0,he=>by
  have hg:List.getD o0 (zZ v11) []=o0[i]:=by
   rw[show zZ v11=i from by omega];simp[show i<o0.length from hi]
  have hs:acc++o0[i]++(o0.take i).reverse.flatten=T:=by
   have ht:o0.take (i+1)=o0.take i++[o0[i]]:=yb hi;rw[←he,ht,List.reverse_append,yG,List.singleton_append,List.flatten_cons,List.append_assoc]
  have hlen:=congrArg yM hs;simp only[zk]at hlen;refine zj (Hr ..) (zc (decide_eq_true (by omega)) (zc (Aa (decide_eq_true (by omega)) (decide_eq_true (by omega))) (zc (decide_eq_true (by omega)) ?_)));rw[hg];refine zc (Aa (decide_eq_true (by simp[hn])) (decide_eq_true (by rw[z7];omega))) ?_;rw[fI,wr (v11-1) (by omega) (by omega)];exact Es o0 T hT hl hq i (acc++o0[i]) (v11-1) _ (by omega) (by omega) (by rw[zk,z7,hn];rfl) (by rw[zk];omega) hs
theorem EY(o0:List (List UInt8))(T:List UInt8)(hT:T.length≤1000000)(hl:o0.length≤1000000)(hq:∀ob,Q (.dat .str T) ob)(i:Nat)(hi:i+1=o0.length)(v11:Int)(hv:v11=(i:Int))(hpos:0<(o0[i]'(by omega)).length)(he:o0.reverse.flatten=T):
  Ends Pj (L8 o0.length v11 o0) Q:=by
 have hi':i<o0.length:=by omega
 have hg:List.getD o0 (zZ v11) []=o0[i]:=by
  rw[show zZ v11=i from by omega];simp[hi']
 have hs:o0[i]++(o0.take i).reverse.flatten=T:=by
  have ht:o0.take (i+1)=o0.take i++[o0[i]]:=yb hi';rw[hi,zE]at ht;rw[←he];conv=>rhs;rw[ht]
  rw[List.reverse_append,yG,List.singleton_append,List.flatten_cons]
 have hlen:=congrArg yM hs;simp only[zk]at hlen;refine zj (Jb ..) (zc (decide_eq_true (by omega)) (zc (Aa (decide_eq_true (by omega)) (decide_eq_true (by omega))) (zc (decide_eq_true (by omega)) ?_)));rw[hg];refine zc (decide_eq_true (by rw[z7];exact hpos)) (zc (decide_eq_true (by rw[z7];omega)) ?_);rw[wr (v11-1) (by omega) (by omega)];exact Es o0 T hT hl hq i o0[i] (v11-1) _ (by omega) (by omega) (by rw[z7]) hpos hs
end T200
end Go.Pe
end
section
namespace Go.Pe
open Sp
open Go.Det
theorem Ss{r:Int}(h0:0<r)(h1:r<18446744073709551616):Bp r=[r]:=by
 have hd:Av Ak [r]:=by
  intro x hx;rw[yu]at hx;subst hx;exact⟨by omega,h1⟩
 have hn:Sp.nz [r]:=by
  unfold Sp.nz;simp;omega
 have:=Ih (b:=Ak) (by decide) hd hn;have hv:zV Ak [r]=r:=by simp[zV]
 rw[hv]at this;exact this.symm
theorem KI:Bp 0=[]:=by
 unfold Bp;rfl
theorem Oh:Am [1000000000000000000]=1000000000000000000:=by simp[Am,zV]
theorem Yx(n:Nat):NG [48] (n:Int)=List.replicate n 48:=by
 unfold NG;rw[zg];induction n with
 |zero=>rfl
 |succ n ih=>rw[Lib.repeatL,ih];rfl
theorem QR(V:Nat):Am (Bp (V:Int))=(V:Int):=CE (b:=Ak) (by decide) (by omega)
theorem YT{V:Nat}(hV:(V:Int)<(Ak:Int)^9000):Qz (Bp (V:Int)) [1000000000000000000]=true:=by
 obtain⟨n1,n2,n3⟩:=CJ (n:=(V:Int)) (by omega) hV (by omega);have h1:=Jv (n:=(V:Int)) (by omega) hV;unfold Qz;refine Aa (Aa (Aa (Aa n1 ?_) (decide_eq_true h1)) (decide_eq_true (by decide))) (decide_eq_true (by rw[Oh];decide));decide
theorem Sn(V:Nat):Bp (Am (Bp (V:Int))/Am (yN 1 [1000000000000000000]))=Bp ((V/10^18:Nat):Int):=by
 rw[QR,show yN 1 [(1000000000000000000:Int)]=[1000000000000000000]from rfl,Oh];congr 1
theorem Su(V:Nat):Bp (Am (Bp (V:Int)) % Am (yN 1 [1000000000000000000]))=Bp ((V % 10^18:Nat):Int):=by
 rw[QR,show yN 1 [(1000000000000000000:Int)]=[1000000000000000000]from rfl,Oh];congr 1
theorem Ip{V:Nat}(h:0<V):0<(Bp (V:Int)).length:=by
 rcases z8 (Bp (V:Int)).length with e|e
 ·have h1:=QR V;rw[zJ.1 e]at h1;have h2:Am []=0:=rfl;rw[h2]at h1;omega
 ·exact e
end Go.Pe
end
section
namespace Go.Pe
open Sp
open Go.Det
theorem MG:∀(k u:Nat),u<10^(k+1)→Lib.nDigits u≤k+1
 |0,u,h=>by rw[Lib.nDigits_small (by omega)];omega
 |k+1,u,h=>by
  by_cases c:u<10
  ·rw[Lib.nDigits_small c];omega
  ·rw[Lib.nDigits_big c];have:u/10<10^(k+1):=by rw[yX]at h;omega
   have:=MG k (u/10) this;omega
theorem RU{r:Nat}(h:r<10^18):(zo r).length≤18:=by
 rw[zP];exact MG 17 r h
theorem LH(r:Nat):AW (r:Int)=zo r:=Lib.itoa_nonneg r
theorem Q2(r:Nat)(h:r<10^18):NG [48] ((18:Int)-((zo r).length:Int))++zo r=Fx 18 r:=by
 have:=RU h;rw[show(18:Int)-((zo r).length:Int)=((18-(zo r).length:Nat):Int)from by omega,Yx,zP];rfl
structure Small(V:Nat):Prop where
 h:(V:Int)<(Ak:Int)^9000
theorem Small.le{a b:Nat}(h:Small b)(hab:a≤b):Small a:=⟨zA (Int.ofNat_le.mpr hab) h.h⟩
theorem Small.div{V:Nat}(h:Small V):Qz (Bp (V:Int)) [1000000000000000000]=true:=YT h.h
namespace T200
variable {Q:PV→Ob→Prop}
def Exit(neg:Bool)(G:List (List UInt8))(Q:PV→Ob→Prop):Prop:=Ends Pj (.ite neg (.ite true (.ite true (L6 G.length (ze IntKind.i64 ((G.length:Int)-1)) (zT (fun b=>(↑(zL b):Int)) [(45:UInt8)]) 1 G) .fail) (L7 G.length (ze IntKind.i64 ((G.length:Int)-1)) G)) (L8 G.length (ze IntKind.i64 ((G.length:Int)-1)) G)) Q
theorem AS(neg:Bool)(G:List (List UInt8))(hG:G.length≤1000000)(hfin:Exit neg G Q):∀(f V:Nat) (o1:List (List UInt8)),V<f→Small V→o1++(if V=0 then[]else Cb f V)=G→Ends Pj (L2 neg (Bp (V:Int)) 1 o1.length o1 [1000000000000000000]) Q
 |0,V,o1,h,_,_=>by omega
 |f+1,V,o1,h,hV,he=>by
  rcases z8 V with h0|h0
  ·subst h0;have he:o1=G:=by simpa using he
   subst he;refine zj (A1 ..) (zn (by rw[show((0:Nat):Int)=0 from rfl,KI];rfl) ?_);exact hfin
  have hlt:V % 10^18<10^18:=Nat.mod_lt _ (by decide);rw[if_neg (by omega)]at he;have hg:∀s,s=(if V/10^18=0 then zo (V % 10^18)else Fx 18 (V % 10^18))→(o1++[s])++(if V/10^18=0 then[]else Cb f (V/10^18))=G:=by
   rintro s rfl;rw[←he,List.append_assoc];congr 1;have eg:Cb (f+1) V=if V<10^18 then[zo V]else Fx 18 (V % 10^18)::Cb f (V/10^18):=rfl
   rw[eg];by_cases c:V<10^18
   ·rw[if_pos c,if_pos (by omega),if_pos (by omega),Nat.mod_eq_of_lt c];rfl
   ·rw[if_neg c,if_neg (by omega),if_neg (by omega)];rfl
  have hsz:o1.length+1≤1000000:=by
   have:=congrArg yM (hg _ rfl);simp only[zk,List.length_singleton]at this;omega
  have next:∀s,s=(if V/10^18=0 then zo (V % 10^18)else Fx 18 (V % 10^18))→Ends Pj (L2 neg (Bp ((V/10^18:Nat):Int)) 1 (yD o1.length 1) (o1++[s]) [1000000000000000000]) Q:=by
   intro s hs;have:=AS neg G hG hfin f (V/10^18) (o1++[s]) (by omega) (hV.le (Nat.div_le_self _ _)) (hg s hs);rw[zk]at this;exact this
  refine zj (A1 ..) (zc (decide_eq_true (by have:=Ip h0;omega)) (zc (Aa rfl hV.div) ?_));rw[Sn,Su];rcases z8 (V % 10^18)with r0|r0
  ·have q0:V/10^18≠0:=by omega
   rw[r0,show((0:Nat):Int)=0 from rfl,KI];refine zn rfl (zc (decide_eq_true (by have:=Ip (V:=V/10^18) (by omega);omega)) (zc rfl (zc rfl (zc (Aa (decide_eq_true rfl) (decide_eq_true (by omega))) (next _ ?_)))));have hp:=Q2 0 (by decide);rw[Lib.decDigits_one (by omega)]at hp;rw[if_neg q0,r0, ←hp];rfl
  ·rw[Ss (r:=((V % 10^18:Nat):Int)) (by omega) (by omega)];have hgd:List.getD [((V % 10^18:Nat):Int)] 0 0=((V % 10^18:Nat):Int):=rfl;rw[hgd,LH];have hd:=RU hlt;have hr18:((V % 10^18:Nat):Int)<1000000000000000000:=by omega
   have h18:0<(zo (V % 10^18)).length:=by
    rw[zP,Lib.nDigits];split<;>omega
   refine zc rfl (zc rfl (zc (Aa (Aa (decide_eq_true (Int.natCast_nonneg _)) (decide_eq_true hr18)) rfl) ?_));rw[wr _ (by omega) (by omega)];by_cases q0:V/10^18=0
   ·rw[q0];refine zn (by rw[show((0:Nat):Int)=0 from rfl,KI];rfl) (zc (Aa (Aa rfl (decide_eq_true rfl)) (decide_eq_true (by omega))) ?_);have:=next _ rfl;rw[if_pos q0,q0]at this;exact this
   ·have hpad:=Q2 _ hlt;refine zc (decide_eq_true (by have:=Ip (V:=V/10^18) (by omega);omega)) (zc (Aa (Aa (decide_eq_true (by omega)) (decide_eq_true (by omega))) rfl) (zc (decide_eq_true ?_) (zc (Aa (Aa rfl (decide_eq_true rfl)) (decide_eq_true (by omega))) (next _ ?_))))
    ·rw[←zk,hpad];unfold Fx;rw[zk,List.length_replicate];omega
    ·rw[if_neg q0];exact hpad
end T200
end Go.Pe
end
section
namespace Go.Sp
theorem E1{n d:Int}(hd:d≠0):(zG n d).num.natAbs≤n.natAbs∧(zG n d).den≤d.natAbs:=by
 rw[yv,yw,if_neg hd];refine⟨?_,Nat.div_le_self _ _⟩;refine Nat.le_trans (yy _ _) ?_;rw[zY,Int.natAbs_sign_of_ne_zero hd,Nat.one_mul];exact zB _
theorem Jq{n d:Int}{k:Nat}(hd:d≠0)(h1:n.natAbs<10^k)(h2:d.natAbs<10^k):Gr k (zG n d):=
 ⟨ya (E1 hd).1 h1,ya (E1 hd).2 h2⟩
theorem Gr.mono{j k:Nat}{q:Rat}(h:Gr j q)(hk:j≤k):Gr k q:=
 ⟨yx h.1 (yi (by decide) hk),yx h.2 (yi (by decide) hk)⟩
theorem Df{a b i j:Nat}(h1:a<10^i)(h2:b<10^j):a*b<10^(i+j):=by
 rw[Nat.pow_add];exact ya (Nat.mul_le_mul_left _ (Nat.le_of_lt h2)) ((Nat.mul_lt_mul_right (Nat.pow_pos (by decide))).2 h1)
theorem HH(q:Rat):(q.den:Int)≠0:=by have:=q.den_pos;omega
theorem Gr.mul{p q:Rat}{i j:Nat}(hp:Gr i p)(hq:Gr j q):Gr (i+j) (p*q):=by
 have h:=Rat.divInt_mul_divInt p.num q.num (d₁:=p.den) (d₂:=q.den);rw[zw,zw]at h;rw[h];refine Jq ?_ ?_ ?_
 ·exact Int.mul_ne_zero (HH p) (HH q)
 ·rw[zY];exact Df hp.1 hq.1
 ·rw[zY,zt,zt];exact Df hp.2 hq.2
theorem Gr.add{p q:Rat}{i j:Nat}(hp:Gr i p)(hq:Gr j q):Gr (i+j+1) (p+q):=by
 have h:=yd p.num q.num (HH p) (HH q);rw[zw,zw]at h;rw[h];have a1:=Df hp.1 hq.2;have a2:=Df hq.1 hp.2;have a3:=Df hp.2 hq.2;rw[Nat.add_comm]at a2;refine Jq (Int.mul_ne_zero (HH p) (HH q)) ?_ ?_
 ·refine ya (Int.natAbs_add_le _ _) ?_;rw[zY,zY,zt,zt,yX];omega
 ·rw[zY,zt,zt,yX];omega
theorem Gr.neg{q:Rat}{k:Nat}(h:Gr k q):Gr k (-q):=by
 unfold Gr at*;rw[yK,yL,Int.natAbs_neg];exact h
theorem Gr.sub{p q:Rat}{i j:Nat}(hp:Gr i p)(hq:Gr j q):Gr (i+j+1) (p-q):=by
 rw[Rat.sub_eq_add_neg];exact hp.add hq.neg
theorem Gr.inv{q:Rat}{k:Nat}(h:Gr k q)(h0:q≠0):Gr k q⁻¹:=by
 have e:=Rat.inv_divInt q.num q.den;rw[zw]at e;rw[e];exact Jq (fun x=>h0 (yj.mp x)) (by rw[zt];exact h.2) h.1
theorem Gr.div{p q:Rat}{i j:Nat}(hp:Gr i p)(hq:Gr j q)(h0:q≠0):Gr (i+j) (p/q):=by
 rw[Rat.div_def];exact hp.mul (hq.inv h0)
def Py(n:Int):Bool:=decide (600<(zo n.natAbs).length)
def RH(q:Rat):Bool:=Py q.num||Py q.den
theorem E6{u k:Nat}(h:u<10^k)(hk:1≤k):(zo u).length≤k:=by
 rw[zP];obtain⟨j,rfl⟩:∃j,k=j+1:=⟨k-1,by omega⟩;exact Go.Pe.MG j u h
theorem CZ(u:Nat){k:Nat}(h:(zo u).length≤k):u<10^k:=by
 rw[zP]at h;exact yx (Lib.lt_pow_nDigits u) (yi (by decide) h)
theorem Ov{q:Rat}{k:Nat}(h:Gr k q)(hk:1≤k):(A3 q).length≤2*k+2:=by
 have h1:=E6 h.1 hk;have h2:=E6 h.2 hk;have h3:(zD q.num).length≤k+1:=by
  unfold zD;split
  ·rw[zM];omega
  ·rw[show q.num.toNat=q.num.natAbs by omega];omega
 unfold A3;split
 ·omega
 ·rw[zk,zM];omega
def BI(s:List UInt8):Bool:=decide (A3 (AG s)=s)&&decide (s.length≤4000)
theorem Hi{s:List UInt8}(h:BI s=true):A3 (AG s)=s∧s.length≤4000:=by
 unfold BI at h;rwa [zd,decide_eq_true_eq,decide_eq_true_eq]at h
theorem Pv{q:Rat}{k:Nat}(h:Gr k q)(hk:k≤1999):BI (A3 q)=true:=by
 have hl:=Ov (h.mono hk) (by decide);unfold BI;rw[DF,decide_eq_true rfl,decide_eq_true (by omega)];rfl
theorem GU{s:List UInt8}(h:Ay s=0):BI s=true∧Gr 600 (AG s):=by
 obtain⟨h1,_,_,h4⟩:=PE h;exact⟨by rw[←h1];exact Pv h4 (by decide),h4⟩
theorem Qr{s:List UInt8}(h:BI s=true):Gr 4000 (AG s):=by
 obtain⟨h1,h2⟩:=Hi h;have e:(A3 (AG s)).length≤4000:=by rw[h1];exact h2
 generalize AG s=q at*;have a:=CZ q.num.natAbs (zB _);have b:=CZ q.den (zB _);have h3:(zo q.num.natAbs).length≤(zD q.num).length:=by
  unfold zD;split
  ·rw[zM];omega
  ·rw[show q.num.toNat=q.num.natAbs by omega];exact zB _
 unfold A3 at e;split at e
 ·next c=>exact⟨CZ (k:=4000) _ (by omega),by rw[c];exact Jx 4000 (by decide)⟩
 ·rw[zk,zM]at e;exact⟨CZ (k:=4000) _ (by omega),CZ (k:=4000) _ (by omega)⟩
theorem Pu(q:Rat):Gk (A3 q)=SC q.num:=by
 have h0:A3 q=[48]↔q=0:=by
  have:A3 (0:Rat)=[48]:=by
   unfold A3;rw[if_pos (show Rat.den 0=1 from rfl)];show zD 0=[48];unfold zD;rw[if_neg (by decide),show(0:Int).toNat=0 from rfl,Lib.decDigits_one (by decide)];rfl
  rw[←this];exact⟨YD,fun h=>by rw[h]⟩
 unfold Gk SC;by_cases hz:q=0
 ·rw[if_pos (h0.2 hz),hz];rfl
 ·rw[if_neg (fun h=>hz (h0.1 h))];have hn:q.num≠0:=fun h=>hz (yj.mp h)
  have hg:(A3 q).getD 0 0=(zD q.num).getD 0 0:=by
   unfold A3;split
   ·rfl
   ·have:zD q.num≠[]:=by unfold zD;split;exact List.cons_ne_nil _ _;exact cF _
    cases hi:zD q.num with
    |nil=>exact absurd hi this
    |cons c r=>rfl
  rw[hg];unfold zD;by_cases h:q.num<0
  ·rw[if_pos h,if_pos h];rfl
  ·rw[if_neg h,if_neg h,if_neg (E3 (DS _)),if_pos (by omega)]
theorem R8(n:Int)(h:n≠0):zD (-n)=if n<0 then(zD n).drop 1 else 45::zD n:=by
 unfold zD;by_cases c:n<0
 ·rw[if_neg (by omega),if_pos c,if_pos c,show(-n).toNat=n.natAbs by omega];rfl
 ·rw[if_pos (by omega),if_neg c,if_neg c,show(-n).natAbs=n.toNat by omega]
theorem eB(q:Rat):J4 (A3 q)=A3 (-q):=by
 have hs:=Pu q;unfold Gk at hs;unfold J4;by_cases h0:A3 q=[48]
 ·rw[if_pos h0]at hs ⊢;have:q.num=0:=by
   unfold SC at hs;split at hs
   ·exact absurd hs (by decide)
   ·split at hs
    ·exact absurd hs (by decide)
    ·omega
  have:q=0:=yj.mp this;rw[this];rfl
 ·rw[if_neg h0]at hs ⊢;have hn:q.num≠0:=by
   intro h;rw[h]at hs;split at hs<;>exact absurd hs (by decide)
  have e:A3 (-q)=if q.num<0 then(A3 q).drop 1 else 45::A3 q:=by
   unfold A3;rw[yK,yL,R8 _ hn];by_cases c:q.num<0
   ·rw[if_pos c,if_pos c];have:zD q.num=45::zo q.num.natAbs:=by unfold zD;rw[if_pos c]
    rw[this];split<;>rfl
   ·rw[if_neg c,if_neg c];split<;>rfl
  rw[e];unfold SC at hs;by_cases c:q.num<0
  ·rw[if_pos c]at hs ⊢;split at hs
   ·next k=>rw[if_pos k]
   ·exact absurd hs (by decide)
  ·rw[if_neg c,if_pos (show q.num>0 by omega)]at hs;rw[if_neg c];split at hs
   ·exact absurd hs (by decide)
   ·next k=>rw[if_neg k]
end Go.Sp
end
