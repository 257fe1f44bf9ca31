import Derived.Test.YtnbinppdjnlhpaaGreatDoorX10
/- A part of a proof (no law is stated here). Made by program out of texts by AI agents. -/
open Go.IntKind renaming wrap → zc, u64 → zh, i64 → zp
open Go.Pe.Sh renaming str → zd, pair → ze, list → zf, bool → zg, int → zt, nlist → zL
open Int renaming mul_le_mul_of_nonneg_right → zi, eq_ofNat_of_zero_le → zm, mul_assoc → zn, add_mul → zo, mul_nonneg → zq, toNat_natCast → zr, mul_comm → zw, one_mul → zA, le_of_lt → zB, fdiv_eq_ediv_of_nonneg → zD, tdiv → zG, natCast_pow → zH, tdiv_eq_ediv_of_nonneg → zK, zero_add → zN, natCast_mul → zP, ediv_nonneg → zQ, tmod → zU
open Nat renaming add → zj, sub → zC, two_pow_pos → zO, pow_add → zS
open Go.Pe.Ends renaming tt → zk, leaf → zx, ite → zy
open Option renaming getD → zl, some → zT
open Go.Fn renaming func → zu
open Go.Sp renaming first → zz, out → zE
open Bool renaming and_eq_true → zF
open List renaming length → zI
open UInt8 renaming toNat → zJ
open BitVec renaming ofInt → zM
open Go.Pe.PV renaming fn → zR
open Go.Pe.Ae renaming of → zV
section
namespace Go.Pe
open Go.Det
namespace T317
variable {Q:PV→Ob→Prop}
def Exact(Y u w q:Int):Prop:=q*Y≤u*4294967296+w∧u*4294967296+w<(q+1)*Y
theorem Tw{Y y1 y0 u w q r:Int}(hY:Y=y1*4294967296+y0)(he:q*y1+r=u)(h:q*y0>4294967296*r+w):u*4294967296+w<q*Y:=by
 subst hY;rw[Int.mul_add, ←zn];generalize q*y1=A at*;generalize q*y0=C at*;omega
theorem IY{Y y1 y0 u w q r:Int}(hY:Y=y1*4294967296+y0)(he:q*y1+r=u)(h:q*y0≤4294967296*r+w):q*Y≤u*4294967296+w:=by
 subst hY;rw[Int.mul_add, ←zn];generalize q*y1=A at*;generalize q*y0=C at*;omega
theorem Qz{Y u w q:Int}(hu:u<Y)(hY:0≤Y)(hw:w<4294967296)(hq:4294967296≤q):u*4294967296+w<q*Y:=by
 have:=zi hq hY;omega
theorem Q9{y1 y0 u w r:Int}{n:Nat}{Y:Int}(hY:Y=y1*4294967296+y0)(h1:0≤y1)(h0:0≤y0∧y0<4294967296)(hu:u<Y)(hw:0≤w)(he:(n:Int)*y1+r=u)(hr:4294967296≤r):(n:Int)*Y≤u*4294967296+w:=by
 have hn:(n:Int)<4294967296:=by
  rcases Int.lt_or_le (n:Int) 4294967296 with h|h
  ·exact h
  ·have:=zi h h1;omega
 refine IY hY he ?_;have a:=zi (show(n:Int)≤4294967295 by omega) h0.1;omega
theorem Ak(Y s y1 y0 u w z:Int)(hY:Y=y1*4294967296+y0)(h1:0<y1∧y1<4294967296)(h0:0≤y0∧y0<4294967296)(hu:u<Y)(hw:0≤w∧w<4294967296)
  (hx:∀q:Int,0≤q→Exact Y u w q→Ends VY (L2 Y s y1 y0 z q (zc zh (zc zh (zc zh (zc zh (u*(4294967296:Int))+w)-zc zh (q*Y))-zc zh (zc zh (zG (zc zh (zc zh (zc zh (u*(4294967296:Int))+w)-zc zh (q*Y))) y1)*y1))) (zc zh (zc zh (zc zh (u*(4294967296:Int))+w)-zc zh (q*Y))) (zc zh (zG (zc zh (zc zh (zc zh (u*(4294967296:Int))+w)-zc zh (q*Y))) y1))) Q):
  ∀(n:Nat) (r:Int),(n:Int)<18446744073709551616→(n:Int)*y1+r=u→0≤r→r<4294967296→u*4294967296+w<((n:Int)+1)*Y→Ends VY (L1 Y s y1 y0 u w z n r) Q:=by
 intro n;induction n with
 |zero=>
  intro r hn he r0 r1 hup;have hz:decide (y1≠0)=true:=decide_eq_true (by omega);refine Ends.Ag (Ai ..) (Ends.ff (by simp) (Ends.ff (decide_eq_false ?_) (zk hz (hx _ (by omega) ⟨?_,hup⟩))))
  ·rw[show((0:Nat):Int)*y0=0 by simp,wu 0 (by omega) (by omega),wu (4294967296*r) (by omega) (by omega),wu _ (by omega) (by omega)];omega
  ·exact IY hY he (by rw[show((0:Nat):Int)*y0=0 by simp];omega)
 |succ n ih=>
  intro r hn he r0 r1 hup;have hz:decide (y1≠0)=true:=decide_eq_true (by omega);have e1:zc .u64 (((n+1:Nat):Int)-1)=(n:Int):=by rw[wu _ (by omega) (by omega)];omega
  have e2:zc .u64 (r+y1)=r+y1:=wu _ (by omega) (by omega);have hY0:0≤Y:=by omega
  have he':(n:Int)*y1+(r+y1)=u:=by
   rw[show((n+1:Nat):Int)=(n:Int)+1 by omega,zo,zA]at he;omega
  have ec:((n+1:Nat):Int)=(n:Int)+1:=by omega
  have dec:u*4294967296+w<((n:Int)+1)*Y→r+y1<4294967296→Ends VY (L1 Y s y1 y0 u w z n (r+y1)) Q:=fun h1' h2'=>
   ih (r+y1) (by omega) he' (by omega) h2' h1'
  have cut:u*4294967296+w<((n:Int)+1)*Y→4294967296≤r+y1→Exact Y u w n:=fun h1' h2'=>
   ⟨Q9 hY (by omega) h0 hu hw.1 he' h2',h1'⟩
  refine Ends.Ag (Ai ..) ?_;conv=>zeta
  rw[e1,e2];refine zy (fun c=>?_) (fun c=>zy (fun d=>?_) (fun d=>?_))
  ·have c:=of_decide_eq_true c;have hb:u*4294967296+w<((n:Int)+1)*Y:=by rw[←ec];exact Qz hu hY0 hw.2 c
   exact zy (fun e=>zk hz (hx _ (by omega) (cut hb (of_decide_eq_true e)))) (fun e=>dec hb (by have:=of_decide_eq_false e;omega))
  ·have c:=of_decide_eq_false c;have d:=of_decide_eq_true d;have a:=zi (show((n+1:Nat):Int)≤4294967295 by omega) h0.1;have b:=zq (show 0≤((n+1:Nat):Int)by omega) h0.1;rw[wu (((n+1:Nat):Int)*y0) (by omega) (by omega),wu (4294967296*r) (by omega) (by omega),wu _ (by omega) (by omega)]at d;have hb:u*4294967296+w<((n:Int)+1)*Y:=by rw[←ec];exact Tw hY he d
   exact zy (fun e=>zk hz (hx _ (by omega) (cut hb (of_decide_eq_true e)))) (fun e=>dec hb (by have:=of_decide_eq_false e;omega))
  ·have c:=of_decide_eq_false c;have d:=of_decide_eq_false d;have a:=zi (show((n+1:Nat):Int)≤4294967295 by omega) h0.1;have b:=zq (show 0≤((n+1:Nat):Int)by omega) h0.1;rw[wu (((n+1:Nat):Int)*y0) (by omega) (by omega),wu (4294967296*r) (by omega) (by omega),wu _ (by omega) (by omega)]at d;exact zk hz (hx _ (by omega) ⟨IY hY he (by omega),hup⟩)
theorem AN(Y s y1 y0 u w p:Int)(hY:Y=y1*4294967296+y0)(h1:0<y1∧y1<4294967296)(h0:0≤y0∧y0<4294967296)(hu:u<Y)(hw:0≤w∧w<4294967296)(hs:0≤s)
  (hx:∀q:Int,0≤q→Exact Y u w q→∀ob,Q (PV.tup [PV.dat (zt zh) (zc zh (zc zh (p*(4294967296:Int))+q)),PV.dat (zt zh) (Int.fdiv (zc zh (zc zh (zc zh (u*(4294967296:Int))+w)-zc zh (q*Y))) ((2:Int)^Min.min (Int.toNat s) (64:Nat)))]) ob):
  ∀(n:Nat) (r:Int),(n:Int)<18446744073709551616→(n:Int)*y1+r=u→0≤r→r<4294967296→u*4294967296+w<((n:Int)+1)*Y→Ends VY (L2 Y s y1 y0 w p r u n) Q:=by
 intro n;induction n with
 |zero=>
  intro r hn he r0 r1 hup;have hz:decide (0≤s)=true:=decide_eq_true hs;refine Ends.Ag (AM ..) (Ends.ff (by simp) (Ends.ff (decide_eq_false ?_) (zk hz (zx (hx _ (by omega) ⟨?_,hup⟩ _)))))
  ·rw[show((0:Nat):Int)*y0=0 by simp,wu 0 (by omega) (by omega),wu (4294967296*r) (by omega) (by omega),wu _ (by omega) (by omega)];omega
  ·exact IY hY he (by rw[show((0:Nat):Int)*y0=0 by simp];omega)
 |succ n ih=>
  intro r hn he r0 r1 hup;have hz:decide (0≤s)=true:=decide_eq_true hs;have e1:zc .u64 (((n+1:Nat):Int)-1)=(n:Int):=by rw[wu _ (by omega) (by omega)];omega
  have e2:zc .u64 (r+y1)=r+y1:=wu _ (by omega) (by omega);have hY0:0≤Y:=by omega
  have he':(n:Int)*y1+(r+y1)=u:=by
   rw[show((n+1:Nat):Int)=(n:Int)+1 by omega,zo,zA]at he;omega
  have ec:((n+1:Nat):Int)=(n:Int)+1:=by omega
  have dec:u*4294967296+w<((n:Int)+1)*Y→r+y1<4294967296→Ends VY (L2 Y s y1 y0 w p (r+y1) u n) Q:=fun h1' h2'=>
   ih (r+y1) (by omega) he' (by omega) h2' h1'
  have cut:u*4294967296+w<((n:Int)+1)*Y→4294967296≤r+y1→Exact Y u w n:=fun h1' h2'=>
   ⟨Q9 hY (by omega) h0 hu hw.1 he' h2',h1'⟩
  refine Ends.Ag (AM ..) ?_;conv=>zeta
  rw[e1,e2];refine zy (fun c=>?_) (fun c=>zy (fun d=>?_) (fun d=>?_))
  ·have c:=of_decide_eq_true c;have hb:u*4294967296+w<((n:Int)+1)*Y:=by rw[←ec];exact Qz hu hY0 hw.2 c
   exact zy (fun e=>zk hz (zx (hx _ (by omega) (cut hb (of_decide_eq_true e)) _))) (fun e=>dec hb (by have:=of_decide_eq_false e;omega))
  ·have c:=of_decide_eq_false c;have d:=of_decide_eq_true d;have a:=zi (show((n+1:Nat):Int)≤4294967295 by omega) h0.1;have b:=zq (show 0≤((n+1:Nat):Int)by omega) h0.1;rw[wu (((n+1:Nat):Int)*y0) (by omega) (by omega),wu (4294967296*r) (by omega) (by omega),wu _ (by omega) (by omega)]at d;have hb:u*4294967296+w<((n:Int)+1)*Y:=by rw[←ec];exact Tw hY he d
   exact zy (fun e=>zk hz (zx (hx _ (by omega) (cut hb (of_decide_eq_true e)) _))) (fun e=>dec hb (by have:=of_decide_eq_false e;omega))
  ·have c:=of_decide_eq_false c;have d:=of_decide_eq_false d;have a:=zi (show((n+1:Nat):Int)≤4294967295 by omega) h0.1;have b:=zq (show 0≤((n+1:Nat):Int)by omega) h0.1;rw[wu (((n+1:Nat):Int)*y0) (by omega) (by omega),wu (4294967296*r) (by omega) (by omega),wu _ (by omega) (by omega)]at d;exact zk hz (zx (hx _ (by omega) ⟨IY hY he (by omega),hup⟩ _))
end T317
theorem Q0{y:Int}(h1:0<y)(h2:y<18446744073709551616):∃s:Nat,Sp.lz y=(s:Int)∧s≤63∧y*2^s<18446744073709551616∧9223372036854775808≤y*2^s:=by
 obtain⟨n,rfl⟩:=zm (zB h1);have hn:n≠0:=by omega
 have hk:n.log2<64:=(Nat.log2_lt hn).2 (by omega);have a:=Nat.log2_self_le hn;have b:=Nat.lt_log2_self (n:=n);have e1:2^n.log2*2^(63-n.log2)=2^63:=by rw[←zS];congr 1;omega
 have e2:2^(n.log2+1)*2^(63-n.log2)=2^64:=by rw[←zS];congr 1;omega
 have c1:2^63≤n*2^(63-n.log2):=by rw[←e1];exact Nat.mul_le_mul_right _ a
 have c2:n*2^(63-n.log2)<2^64:=by rw[←e2];exact Nat.mul_lt_mul_of_pos_right b (zO _)
 refine⟨63-n.log2,?_,by omega,?_,?_⟩
 ·unfold Sp.lz Sp.Fq;rw[if_neg (by omega),zr];omega
 ·have:((n*2^(63-n.log2):Nat):Int)<18446744073709551616:=by omega
  rw[zP,zH]at this;exact this
 ·have:(9223372036854775808:Int)≤((n*2^(63-n.log2):Nat):Int):=by omega
  rw[zP,zH]at this;exact this
theorem Ti{a b:Int}{s:Nat}(ha:0≤a)(hb:0≤b)(h:b<2^s)(hm:a*2^s+b<18446744073709551616):U9 .u64 (a*2^s) b=a*2^s+b:=by
 obtain⟨m,rfl⟩:=zm ha;obtain⟨k,rfl⟩:=zm hb;have ep:((m:Int)*2^s)=((m*2^s:Nat):Int):=by rw[zP,zH];rfl
 have hk:k<2^s:=by
  have e:((2:Int)^s)=((2^s:Nat):Int):=by rw[zH];rfl
  rw[e]at h;omega
 rw[ep]at hm ⊢;have e:(zM 64 ((m*2^s:Nat):Int)|||zM 64 (k:Int)).toNat=m*2^s+k:=by
  rw[BitVec.toNat_or,BitVec.ofInt_natCast,BitVec.ofInt_natCast,BitVec.toNat_ofNat,BitVec.toNat_ofNat,Nat.mod_eq_of_lt (by omega),Nat.mod_eq_of_lt (by omega),Nat.mul_comm m,Nat.two_pow_add_eq_or_of_lt hk]
 show zc .u64 (((zM 64 ((m*2^s:Nat):Int)|||zM 64 (k:Int)).toNat:Nat):Int)=_;rw[e,VU _ (by omega)];omega
namespace T317
theorem start{u y1 y0 Y w:Int}(hY:Y=y1*4294967296+y0)(h1:0<y1∧y1<4294967296)(h0:0≤y0)(hu:0≤u∧u<18446744073709551616)(hw:w<4294967296):
  ∃(n:Nat) (r:Int),zc .u64 (zG u y1)=(n:Int)∧zc .u64 (u-zc .u64 ((n:Int)*y1))=r∧(n:Int)<18446744073709551616∧(n:Int)*y1+r=u∧0≤r∧r<4294967296∧u*4294967296+w<((n:Int)+1)*Y:=by
 have q0:0≤u/y1:=zQ hu.1 (by omega);have q1:u/y1≤u:=Int.ediv_le_self _ hu.1;have ed:=Int.mul_ediv_add_emod u y1;have r0:=Int.emod_nonneg u (show y1≠0 by omega);have r1:=Int.emod_lt_of_pos u h1.1;rw[zw]at ed;obtain⟨n,hn⟩:=zm q0;have hp:0≤(n:Int)*y1:=zq (by omega) (by omega);rw[hn]at ed;refine⟨n,u % y1,?_,?_,by omega,ed,r0,by omega,?_⟩
 ·rw[zK hu.1,hn,wu _ (by omega) (by omega)]
 ·rw[wu ((n:Int)*y1) (by omega) (by omega),wu _ (by omega) (by omega)];omega
 ·subst hY;have a:((n:Int)+1)*(y1*4294967296+y0)=((n:Int)*y1+y1)*4294967296+((n:Int)+1)*y0:=by
   rw[Int.mul_add, ←zn,zo,zA]
  have b:0≤((n:Int)+1)*y0:=zq (by omega) h0;rw[a];omega
theorem N0{u w q Y:Int}(hE:Exact Y u w q)(hY:Y<18446744073709551616):zc .u64 (zc .u64 (zc .u64 (u*(4294967296:Int))+w)-zc .u64 (q*Y))=u*4294967296+w-q*Y:=by
 obtain⟨a,b⟩:=hE;rw[zo,zA]at b;rw[I2,I2,I2,I2];generalize q*Y=A at*;omega
theorem YS(h:Ad AT 318 iF):∀g sp,VY.sp g=some sp→Ad AT g sp:=Ac h (fun g sp h=>by cases h)
set_option maxHeartbeats 1000000 in
theorem ok(hlz:Ad AT 318 iF):Ad AT 317 PF:=by
 refine Av (X:=VY) rfl (YS hlz) (d:=9) (by kernel_rfl) (by kernel_rfl) (by kernel_rfl) (fun(i:Int×Int×Int) hi=>?_) (Ab (by kernel_rfl));obtain⟨hi',lo,y⟩:=i;have hi:(Sp.u64 hi'&&Sp.u64 lo&&Sp.u64 y&&decide (hi'<y))=true:=hi;rw[zF,zF,zF,decide_eq_true_eq]at hi;obtain⟨⟨⟨h1,h2⟩,h3⟩,h4⟩:=hi;have uy:=h3;have h1:=Sp.AW h1;have h2:=Sp.AW h2;have h3:=Sp.AW h3;have hg:∀q r ob,q=Sp.dq hi' lo y→r=Sp.dr hi' lo y→Ae PF (hi',lo,y) (PV.tup [PV.dat (zt zh) q,PV.dat (zt zh) r]) ob:=fun q r ob e1 e2=>zV rfl rfl (Prod.ext e1 e2)
 refine Ends.eq (An hi' lo y) (Ends.ff (by simp;omega) (Ends.ff (decide_eq_false (by omega)) (zy (fun c=>?_) (fun c=>?_))))
 ·have c:hi'=0:=by simpa using c
  subst c;have q0:0≤lo/y:=zQ h2.1 (by omega);have q1:lo/y≤lo:=Int.ediv_le_self _ h2.1;refine zk (decide_eq_true (by omega)) (zk (decide_eq_true (by omega)) (zx (hg _ _ _ ?_ ?_)))
  ·unfold Sp.dq;rw[zK h2.1,wu _ (by omega) (by omega),Int.zero_mul,zN]
  ·unfold Sp.dr;rw[Int.tmod_eq_emod_of_nonneg h2.1,Int.zero_mul,zN]
 ·have c:hi'≠0:=by simpa using c
  obtain⟨s,hs,hs63,hlt,hge⟩:=Q0 (y:=y) (by omega) h3.2;have es:zc .u64 (s:Int)=(s:Int):=VU s (by omega);have em:Min.min s 64=s:=by omega
  have es2:zc .u64 ((64:Int)-(s:Int))=((64-s:Nat):Int):=by rw[wu _ (by omega) (by omega)];omega
  have em2:Min.min (64-s) 64=64-s:=by omega
  have hPR:(2:Int)^s*2^(64-s)=18446744073709551616:=by rw[←Int.pow_add,show s+(64-s)=64 by omega];rfl
  have hP:(0:Int)<2^s:=Int.pow_pos (by decide);have hR:(0:Int)<2^(64-s):=Int.pow_pos (by decide);have a0:0≤lo/2^(64-s):=zQ h2.1 (by omega);have led:=Int.mul_ediv_add_emod lo (2^(64-s));have c0:=Int.emod_nonneg lo (show(2:Int)^(64-s)≠0 by omega);have c1:=Int.emod_lt_of_pos lo hR;have aP:lo/2^(64-s)<2^s:=Int.ediv_lt_of_lt_mul hR (by rw[hPR];exact h2.2);have hiP:hi'*2^s+2^s≤y*2^s:=by
   have:=zi (show hi'+1≤y by omega) (zB hP);rw[zo,zA]at this;exact this
  have hi0:0≤hi'*2^s:=zq h1.1 (zB hP);have efd:Int.fdiv lo ((2:Int)^(64-s))=lo/2^(64-s):=zD _ (by omega);have eio:U9 .u64 (hi'*2^s) (lo/2^(64-s))=hi'*2^s+lo/2^(64-s):=Ti h1.1 a0 aP (by omega);have cP0:0≤(lo % 2^(64-s))*2^s:=zq c0 (zB hP);have cP1:(lo % 2^(64-s))*2^s<18446744073709551616:=by
   have:=Int.mul_lt_mul_of_pos_right c1 hP;rw[zw (2^(64-s)),hPR]at this;exact this
  have loP:lo*2^s=(lo/2^(64-s))*18446744073709551616+(lo % 2^(64-s))*2^s:=by
   conv=>lhs;rw[←led]
   rw[zo, ←hPR,zw (2^(64-s)) (lo/2^(64-s)),zn,zw (2^(64-s)) (2^s)]
  have elo:zc .u64 (lo*2^s)=(lo % 2^(64-s))*2^s:=by rw[loP,I2];omega
  have hN:(hi'*2^s+lo/2^(64-s))*18446744073709551616+(lo % 2^(64-s))*2^s=(hi'*18446744073709551616+lo)*2^s:=by
   rw[zo (hi'*18446744073709551616) lo (2^s),loP,zn hi' 18446744073709551616 (2^s),zw 18446744073709551616 ((2:Int)^s), ←zn];omega
  have ewy:zc .u64 (y*2^s)=y*2^s:=wu _ (by omega) (by omega);have ewh:zc .u64 (hi'*2^s)=hi'*2^s:=wu _ hi0 (by omega);have z0:decide ((0:Int)≤(s:Int))=true:=decide_eq_true (by omega);have fin:∀q:Int,q*(y*2^s)≤(hi'*18446744073709551616+lo)*2^s→(hi'*18446744073709551616+lo)*2^s<(q+1)*(y*2^s)→q=Sp.dq hi' lo y∧Int.fdiv ((hi'*18446744073709551616+lo)*2^s-q*(y*2^s)) (2^s)=Sp.dr hi' lo y:=by
   intro q f1 f2;unfold Sp.dq Sp.dr;generalize hi'*18446744073709551616+lo=M at*;rw[←zn]at f1 f2;have g1:q*y≤M:=Int.le_of_mul_le_mul_right f1 hP;have g2:M<(q+1)*y:=Int.lt_of_mul_lt_mul_right f2 (zB hP);rw[zo,zA]at g2;obtain⟨u1,u2⟩:=(Int.ediv_emod_unique (a:=M) (b:=y) (r:=M-q*y) (q:=q) (by omega)).2 ⟨by rw[zw y q];omega,by omega,by omega⟩;refine⟨u1.symm,?_⟩;rw[u2, ←zn, ←Int.sub_mul,zD _ (zB hP)];exact Int.mul_ediv_cancel _ (by omega)
  obtain⟨Y,eY⟩:=zm (show 0≤y*2^s by omega);obtain⟨C,eC⟩:=zm cP0;have hU0:0≤hi'*2^s+lo/2^(64-s):=by omega
  have hUY:hi'*2^s+lo/2^(64-s)<y*2^s:=by omega
  rw[hs,es,es2,zr,zr,em,em2,ewy,ewh,efd,eio,elo];rw[eC]at hN cP1 ⊢;rw[eY]at hlt hge hUY fin ⊢;generalize hU:hi'*2^s+lo/2^(64-s)=U at*;generalize hM:(hi'*18446744073709551616+lo)*2^s=M at*;rw[VA,VA,Mo Y (by omega),Mo C (by omega)];have hY:(Y:Int)=((Y/4294967296:Nat):Int)*4294967296+((Y % 4294967296:Nat):Int):=by omega
  have b1:0<((Y/4294967296:Nat):Int)∧((Y/4294967296:Nat):Int)<4294967296:=by omega
  have b0:0≤((Y % 4294967296:Nat):Int)∧((Y % 4294967296:Nat):Int)<4294967296:=by omega
  have w1:0≤((C/4294967296:Nat):Int)∧((C/4294967296:Nat):Int)<4294967296:=by omega
  have w0:0≤((C % 4294967296:Nat):Int)∧((C % 4294967296:Nat):Int)<4294967296:=by omega
  have hC:(C:Int)=((C/4294967296:Nat):Int)*4294967296+((C % 4294967296:Nat):Int):=by omega
  generalize ((Y/4294967296:Nat):Int)=y1 at*;generalize ((Y % 4294967296:Nat):Int)=y0 at*;generalize ((C/4294967296:Nat):Int)=w at*;generalize ((C % 4294967296:Nat):Int)=z at*;refine zk uy (zk z0 (zk rfl (zk z0 (zk (decide_eq_true (by omega)) (zk z0 (zk rfl (zk (decide_eq_true (by omega)) ?_)))))));obtain⟨n,r,e1,e2,n1,n2,n3,n4,n5⟩:=start (u:=U) (w:=w) hY b1 b0.1 (by omega) w1.2;rw[e1,e2];refine Ak (Y:Int) s y1 y0 U w z hY b1 b0 hUY w1 (fun p p0 hp=>?_) n r n1 n2 n3 n4 n5;have er:=N0 hp (by omega);rw[er];have hp1:=hp.1;have hp2:=hp.2;rw[zo,zA]at hp2;obtain⟨m,t,k1,k2,m1,m2,m3,m4,m5⟩:=start (u:=U*4294967296+w-p*Y) (w:=z) hY b1 b0.1 (by omega) w0.2;rw[k1,k2];refine AN (Y:Int) s y1 y0 _ z p hY b1 b0 (by omega) w0 (by omega) (fun q q0 hq ob=>?_) m t m1 m2 m3 m4 m5;rw[N0 hq (by omega),zr,em];obtain⟨hq1,hq2⟩:=hq;have ez:(p*4294967296+q)*(Y:Int)=p*Y*4294967296+q*Y:=by
   rw[zo,zn,zw 4294967296 (Y:Int), ←zn]
  have ez1:(p*4294967296+q+1)*(Y:Int)=p*Y*4294967296+q*Y+Y:=by
   rw[zo,ez,zA]
  rw[zo,zA]at hq2;obtain⟨f1,f2⟩:=fin (p*4294967296+q) (by rw[ez];omega) (by rw[ez1];omega);refine hg _ _ _ ?_ ?_
  ·have hb:Sp.dq hi' lo y<18446744073709551616:=by
    unfold Sp.dq;refine Int.ediv_lt_of_lt_mul (by omega) ?_;have:=Int.mul_le_mul_of_nonneg_left (show hi'+1≤y by omega) (show(0:Int)≤18446744073709551616 by decide);omega
   rw[←f1]at hb ⊢;rw[I2,I2];omega
  ·rw[←f2,ez];congr 1;omega
end T317
end Go.Pe
end
section
namespace Go.Pe
open Sp
open Go.Det
theorem Wn(x k:Nat)(h:2^k≤x):x.log2=k+(x/2^k).log2:=by
 have hk:=zO k;have hz:x/2^k≠0:=by
  have:=Nat.div_pos h hk;omega
 have hx:x≠0:=by omega
 refine(Nat.log2_eq_iff hx).2 ⟨?_,?_⟩
 ·rw[zS];exact Nat.le_trans (Nat.mul_le_mul_left _ (Nat.log2_self_le hz)) (Nat.mul_div_le x (2^k))
 ·rw[Nat.add_assoc,zS];have a:x/2^k+1≤2^((x/2^k).log2+1):=Nat.lt_log2_self;have b:=Nat.mul_le_mul_left (2^k) a;have c:=Nat.lt_mul_div_succ x hk;exact Nat.lt_of_lt_of_le c b
theorem LP(x k:Nat)(h:2^k≤x):Fq (x:Int)=(k:Int)+Fq ((x/2^k:Nat):Int):=by
 have hk:=zO k;have hz:=Nat.div_pos h hk;have e:=Wn x k h;unfold Fq;rw[if_neg (by omega),if_neg (by omega),zr,zr,e];omega
theorem cQ(n k:Nat):Int.fdiv (n:Int) ((2:Int)^k)=((n/2^k:Nat):Int):=by
 have:(0:Int)<2^k:=Int.pow_pos (by decide);rw[zD _ (by omega),Int.natCast_ediv,zH];rfl
def eO:List UInt8:=[(0:UInt8),(1:UInt8),(2:UInt8),(2:UInt8),(3:UInt8),(3:UInt8),(3:UInt8),(3:UInt8),(4:UInt8),(4:UInt8),(4:UInt8),(4:UInt8),(4:UInt8),(4:UInt8),(4:UInt8),(4:UInt8),(5:UInt8),(5:UInt8),(5:UInt8),(5:UInt8),(5:UInt8),(5:UInt8),(5:UInt8),(5:UInt8),(5:UInt8),(5:UInt8),(5:UInt8),(5:UInt8),(5:UInt8),(5:UInt8),(5:UInt8),(5:UInt8),(6:UInt8),(6:UInt8),(6:UInt8),(6:UInt8),(6:UInt8),(6:UInt8),(6:UInt8),(6:UInt8),(6:UInt8),(6:UInt8),(6:UInt8),(6:UInt8),(6:UInt8),(6:UInt8),(6:UInt8),(6:UInt8),(6:UInt8),(6:UInt8),(6:UInt8),(6:UInt8),(6:UInt8),(6:UInt8),(6:UInt8),(6:UInt8),(6:UInt8),(6:UInt8),(6:UInt8),(6:UInt8),(6:UInt8),(6:UInt8),(6:UInt8),(6:UInt8),(7:UInt8),(7:UInt8),(7:UInt8),(7:UInt8),(7:UInt8),(7:UInt8),(7:UInt8),(7:UInt8),(7:UInt8),(7:UInt8),(7:UInt8),(7:UInt8),(7:UInt8),(7:UInt8),(7:UInt8),(7:UInt8),(7:UInt8),(7:UInt8),(7:UInt8),(7:UInt8),(7:UInt8),(7:UInt8),(7:UInt8),(7:UInt8),(7:UInt8),(7:UInt8),(7:UInt8),(7:UInt8),(7:UInt8),(7:UInt8),(7:UInt8),(7:UInt8),(7:UInt8),(7:UInt8),(7:UInt8),(7:UInt8),(7:UInt8),(7:UInt8),(7:UInt8),(7:UInt8),(7:UInt8),(7:UInt8),(7:UInt8),(7:UInt8),(7:UInt8),(7:UInt8),(7:UInt8),(7:UInt8),(7:UInt8),(7:UInt8),(7:UInt8),(7:UInt8),(7:UInt8),(7:UInt8),(7:UInt8),(7:UInt8),(7:UInt8),(7:UInt8),(7:UInt8),(7:UInt8),(7:UInt8),(7:UInt8),(7:UInt8),(7:UInt8),(8:UInt8),(8:UInt8),(8:UInt8),(8:UInt8),(8:UInt8),(8:UInt8),(8:UInt8),(8:UInt8),(8:UInt8),(8:UInt8),(8:UInt8),(8:UInt8),(8:UInt8),(8:UInt8),(8:UInt8),(8:UInt8),(8:UInt8),(8:UInt8),(8:UInt8),(8:UInt8),(8:UInt8),(8:UInt8),(8:UInt8),(8:UInt8),(8:UInt8),(8:UInt8),(8:UInt8),(8:UInt8),(8:UInt8),(8:UInt8),(8:UInt8),(8:UInt8),(8:UInt8),(8:UInt8),(8:UInt8),(8:UInt8),(8:UInt8),(8:UInt8),(8:UInt8),(8:UInt8),(8:UInt8),(8:UInt8),(8:UInt8),(8:UInt8),(8:UInt8),(8:UInt8),(8:UInt8),(8:UInt8),(8:UInt8),(8:UInt8),(8:UInt8),(8:UInt8),(8:UInt8),(8:UInt8),(8:UInt8),(8:UInt8),(8:UInt8),(8:UInt8),(8:UInt8),(8:UInt8),(8:UInt8),(8:UInt8),(8:UInt8),(8:UInt8),(8:UInt8),(8:UInt8),(8:UInt8),(8:UInt8),(8:UInt8),(8:UInt8),(8:UInt8),(8:UInt8),(8:UInt8),(8:UInt8),(8:UInt8),(8:UInt8),(8:UInt8),(8:UInt8),(8:UInt8),(8:UInt8),(8:UInt8),(8:UInt8),(8:UInt8),(8:UInt8),(8:UInt8),(8:UInt8),(8:UInt8),(8:UInt8),(8:UInt8),(8:UInt8),(8:UInt8),(8:UInt8),(8:UInt8),(8:UInt8),(8:UInt8),(8:UInt8),(8:UInt8),(8:UInt8),(8:UInt8),(8:UInt8),(8:UInt8),(8:UInt8),(8:UInt8),(8:UInt8),(8:UInt8),(8:UInt8),(8:UInt8),(8:UInt8),(8:UInt8),(8:UInt8),(8:UInt8),(8:UInt8),(8:UInt8),(8:UInt8),(8:UInt8),(8:UInt8),(8:UInt8),(8:UInt8),(8:UInt8),(8:UInt8),(8:UInt8),(8:UInt8),(8:UInt8),(8:UInt8),(8:UInt8),(8:UInt8),(8:UInt8),(8:UInt8)]
theorem TL:∀m:Fin 256,((zJ (eO.getD m.val 0):Nat):Int)=Fq (m.val:Int)∧zc .u8 (m.val:Int)=(m.val:Int)∧Fq (m.val:Int)≤8∧0≤Fq (m.val:Int):=by decide+kernel
theorem Ke{ACC:Int}(a z x:Nat)(hA:ACC=a)(ha:a≤64)(hz:z<256)(hx:Fq (x:Int)=(a:Int)+Fq (z:Int)):zc .i64 (ACC+zc .i64 ((zJ (eO.getD (Int.toNat (zc .u8 (z:Int))) 0):Nat):Int))=Fq x:=by
 obtain⟨e1,e2,e3,e4⟩:=TL ⟨z,hz⟩;have e1:((zJ (eO.getD z 0):Nat):Int)=Fq (z:Int):=e1;have e2:zc .u8 (z:Int)=(z:Int):=e2;have e3:Fq (z:Int)≤8:=e3;have e4:0≤Fq (z:Int):=e4;rw[e2,zr,e1,hA,hx,wr (Fq (z:Int)) (by omega) (by omega),wr _ (by omega) (by omega)]
theorem bH(z:Nat)(hz:z<256):(decide ((0:Sh.T (zt IntKind.u8))≤zc IntKind.u8 (z:Int))&&decide (zc IntKind.u8 (z:Int)<(↑(256:Nat):Int)))=true:=by
 obtain⟨_,e2,_,_⟩:=TL ⟨z,hz⟩;have e2:zc .u8 (z:Int)=(z:Int):=e2;rw[e2];exact Aj (decide_eq_true (show(0:Int)≤(z:Int)by omega)) (decide_eq_true (by omega))
namespace T246
set_option maxHeartbeats 1000000 in
set_option maxRecDepth 100000 in
theorem ok:Ad AT 246 XE:=by
 refine Av (X:=Rh) rfl HK (d:=9) (by kernel_rfl) (by kernel_rfl) (by kernel_rfl) (fun(x:Int) hx=>?_) (Ab (by kernel_rfl));have hx:=Sp.AW (n:=x) hx;obtain⟨x,rfl⟩:=zm hx.1;refine Ends.eq (An (x:Int)) ?_;conv=>zeta
 conv=>zeta
 rw[cQ x 32,cQ x 16,cQ x 8,cQ (x/2^32) 16,cQ (x/2^32) 8,cQ (x/2^32/2^16) 8,cQ (x/2^16) 8];have l32:=LP x 32;have l16:=LP x 16;have l8:=LP x 8;have l3216:=LP (x/2^32) 16;have l328:=LP (x/2^32) 8;have l32168:=LP (x/2^32/2^16) 8;have l168:=LP (x/2^16) 8;refine zy (fun c1=>zk rfl (zy (fun c2=>zk rfl (zy (fun c3=>zk rfl (zk (bH _ ?_) (zx (zV rfl rfl (Ke 56 _ x (by decide+kernel) (by decide) ?_ ?_))))) (fun c3=>zk (bH _ ?_) (zx (zV rfl rfl (Ke 48 _ x (by decide+kernel) (by decide) ?_ ?_)))))) (fun c2=>zy (fun c3=>zk rfl (zk (bH _ ?_) (zx (zV rfl rfl (Ke 40 _ x (by decide+kernel) (by decide) ?_ ?_))))) (fun c3=>zk (bH _ ?_) (zx (zV rfl rfl (Ke 32 _ x rfl (by decide) ?_ ?_))))))) (fun c1=>zy (fun c2=>zk rfl (zy (fun c3=>zk rfl (zk (bH _ ?_) (zx (zV rfl rfl (Ke 24 _ x (by decide+kernel) (by decide) ?_ ?_))))) (fun c3=>zk (bH _ ?_) (zx (zV rfl rfl (Ke 16 _ x (by decide+kernel) (by decide) ?_ ?_)))))) (fun c2=>zy (fun c3=>zk rfl (zk (bH _ ?_) (zx (zV rfl rfl (Ke 8 _ x (by decide+kernel) (by decide) ?_ ?_))))) (fun c3=>zk (bH _ ?_) (zx (zV rfl rfl (Ke 0 _ x rfl (by decide) ?_ ?_))))));all_goals
  first
   |replace c1:=of_decide_eq_true c1
   |replace c1:=of_decide_eq_false c1
  first
   |replace c2:=of_decide_eq_true c2
   |replace c2:=of_decide_eq_false c2
  first
   |replace c3:=of_decide_eq_true c3
   |replace c3:=of_decide_eq_false c3
  omega
end T246
theorem YL:∀g sp,jT.sp g=some sp→Ad AT g sp:=Ac T246.ok (fun g sp h=>by cases h)
theorem YA{n:Int}(h1:0≤n)(h2:n<18446744073709551616):0≤Sp.Fq n∧Sp.Fq n≤64:=by
 unfold Sp.Fq;split
 ·omega
 ·have:n.toNat.log2<64:=(Nat.log2_lt (by omega)).2 (by omega);omega
namespace T318
theorem ok:Ad AT 318 iF:=by
 refine Av (X:=jT) rfl YL (d:=9) (by kernel_rfl) (by kernel_rfl) (by kernel_rfl) (fun(x:Int) hx=>?_) (Ab (by kernel_rfl));have h:=Sp.AW (n:=x) hx;have hl:=YA h.1 h.2;refine Ends.eq (An x) (zk hx (zx (zV rfl rfl ?_)));show zc .i64 (64-Sp.Fq x)=Sp.lz x;unfold Sp.lz;exact wr _ (by omega) (by omega)
end T318
theorem V3:Ad AT 317 PF:=T317.ok T318.ok
end Go.Pe
end
section
namespace Go.Sp
def Yl(a b:List Int):Bool:=BQ a&&BQ b&&decide (a.length≤9000)&&decide (b.length≤9000)&&decide (0<Ao b)
end Go.Sp
namespace Go.Pe
open Sp
open Go.Det
noncomputable section
noncomputable def Gb:As:=⟨[CJ,CJ],fun i=>Yl i.1 i.2,[CJ,CJ],fun i=>(BG (Ao i.1/Ao i.2),BG (Ao i.1 % Ao i.2)),false⟩
noncomputable def HN:AX:=X7 [(292,Ua),(295,R4),(229,Pw),(294,Sg),(326,RC),(317,PF),(318,iF)]
end
end Go.Pe
end
section
namespace Go.Sp
def MO(c:UInt8):Int:=(c.toNat:Int)-48
def BE(c:UInt8):Bool:=decide (48≤c.toNat)&&decide (c.toNat≤57)
def AA(n:Int):List UInt8→Int
 |[]=>n
 |c::r=>AA (10*n+MO c) r
def Al(s:List UInt8):Bool:=s.all BE
theorem Dv:∀(n:Int) (a b:List UInt8),AA n (a++b)=AA (AA n a) b
 |_,[],_=>rfl
 |n,c::a,b=>by rw[List.cons_append,AA,AA,Dv]
theorem DW:∀(s:List UInt8) (n:Int),AA n s=n*10^s.length+AA 0 s
 |[],n=>by simp[AA]
 |c::s,n=>by
  rw[AA,AA,DW s (10*n+MO c),DW s (10*0+MO c),List.length_cons,Int.pow_succ,zo,Int.mul_zero,zN,zw 10 n,zn,zw 10 (10^s.length),Int.add_assoc]
theorem Da{c:UInt8}(h:BE c=true):0≤MO c∧MO c≤9:=by
 unfold BE at h;rw[zF,decide_eq_true_eq,decide_eq_true_eq]at h;unfold MO;omega
theorem Bo:∀ {s:List UInt8},Al s=true→0≤AA 0 s∧AA 0 s<10^s.length
 |[],_=>by simp[AA]
 |c::s,h=>by
  unfold Al at h;rw[List.all_cons,zF]at h;have a:=Da h.1;have b:=Bo (s:=s) h.2;have hp:=AQ (show(0:Int)<10 by decide) s.length;have c1:=zq a.1 (zB hp);have c2:=zi a.2 (zB hp);rw[AA,DW,List.length_cons,Int.pow_succ,Int.mul_zero,zN,zw (10^s.length) 10];omega
theorem A4{s:List UInt8}(h:Al s=true)(i:Nat):Al (s.take i)=true:=by
 unfold Al at h ⊢;rw[List.all_eq_true]at h ⊢;exact fun x hx=>h x (List.mem_of_mem_take hx)
theorem BC{s:List UInt8}(h:Al s=true)(i:Nat):Al (s.drop i)=true:=by
 unfold Al at h ⊢;rw[List.all_eq_true]at h ⊢;exact fun x hx=>h x (List.mem_of_mem_drop hx)
def AV(s:List UInt8):Bool:=decide (s≠[])&&Al s&&(decide (s.getD 0 0≠48)||decide (s=[48]))
end Go.Sp
end
section
namespace Go.Sp
def Mi(a b:Bj):Bj:=if vI a<0∧Ah (vI a) % vI b≠0 then Kz (Co (-(Ah (vI a)/vI b))) (1,[])else Co (sg (decide (vI a<0)) (Ah (vI a)/vI b))
def hJ(a b:Bj):Int:=(Mi a b).1
def gE(a b:Bj):List Int:=(Mi a b).2
def WJ(a b:Bj):Int:=Cc (vI a % vI b)
def W8(a b:Bj):List Int:=Cb (vI a % vI b)
def gI(a b:Int):Int:=if a<0 then -(-(Int.gcd a b:Int))else(Int.gcd a b:Int)
theorem Iz(a b:Int):gI a b=(Int.gcd a b:Int):=by unfold gI;split<;>omega
def QK(a b:Bj):Int:=Cc (gI (vI a) (vI b))
def QE(a b:Bj):List Int:=Cb (gI (vI a) (vI b))
def pI(a k:Int):Int:=if k<0 then -(-(a^k.toNat))else a^k.toNat
theorem Pv(a k:Int):pI a k=a^k.toNat:=by unfold pI;split<;>omega
def V6(a k:Int):Bool:=decide (0≤k)&&decide (k≤100000)&&decide (Ah (pI a k)<(18446744073709551616:Int)^(4000:Nat))
def Q4(a:Bj)(k:Int):Int:=Cc (pI (vI a) k)
def Qu(a:Bj)(k:Int):List Int:=Cb (pI (vI a) k)
def Dz(n:Int):List Int:=if n<0 then[]else[]
theorem CE(n:Int):Dz n=[]:=by unfold Dz;split<;>rfl
def CD(s:List UInt8):Int:=if s.getD 0 0=45 then -AA 0 (s.drop 1)else AA 0 s
def Du(s:List UInt8):Bool:=decide (s.length≤1499)&&(if s.getD 0 0=45 then Al (s.drop 1)else Al s)
def CP(s:List UInt8):Int:=Cc (CD s)
def CI(s:List UInt8):List Int:=Cb (CD s)
end Go.Sp
namespace Go.Pe
open Sp
open Go.Det
noncomputable section
noncomputable def Hs:As:=⟨[BW,BW],fun i=>BL i.1&&BL i.2&&decide (0<Sp.vI i.2),[BW,BW],fun i=>((hJ i.1 i.2,gE i.1 i.2),(WJ i.1 i.2,W8 i.1 i.2)),false⟩
noncomputable def cL:As:=⟨[BW,BW],fun i=>BL i.1&&BL i.2,[BW],fun i=>(QK i.1 i.2,QE i.1 i.2),false⟩
noncomputable def XB:As:=⟨[BW,i64],fun i=>BL i.1&&V6 (Sp.vI i.1) i.2,[BW],fun i=>(Q4 i.1 i.2,Qu i.1 i.2),false⟩
noncomputable def MF:As:=⟨[.str],fun s=>Du s,[BW],fun s=>(CP s,CI s),false⟩
noncomputable def P9:As:=⟨[i64],fun _=>true,[BW],fun n=>(n,Dz n),false⟩
noncomputable def cT:AX:=bT [(221,[9,10])] [] [(221,[(9,[3,4,5,8,12,13]),(10,[3,4,5,14,15])])] [(184,P9),(287,Gb),(231,RN),(232,XA),(228,Wz),(226,QP),(220,OM)]
noncomputable def kE:AX:=X7 []
noncomputable def fP:AX:=X7 [(221,Hs),(219,bG),(220,OM)]
noncomputable def fM:AX:=X7 [(184,P9),(186,QD)]
end
end Go.Pe
end
section
namespace Go.Sp
abbrev B9:Nat:=1000000000
def H8(l:List Int):Bool:=decide (l.length≤20000)&&l.all fun d=>decide (0≤d)&&decide (d<1000000000)
def hR(l:List Int):Bool:=H8 l&&decide (l.length≤9000)
def Cq(l:List Int):Bool:=H8 l&&eF l
def AY(l:List Int):Int:=val B9 l
def CG(n:Int):List Int:=dg B9 n
def rN(n:Int):Bool:=decide (n<0)
def rW(n:Int):List Int:=CG (Ah n)
def Ey(neg:Bool)(w:List Int):Bool:=neg&&decide (Az w≠[])
def Dp(s:List UInt8):Bool:=decide (s.length≤18)&&Al s
def Bg(s:List UInt8):Int:=AA 0 s
def Ep(s:List UInt8):Bool:=rN (CD s)
def Eo(s:List UInt8):List Int:=rW (CD s)
def KY(a b:List Int):List Int:=CG (gI (AY a) (AY b))
end Go.Sp
namespace Go.Pe
open Sp
open Go.Det
noncomputable section
abbrev li:Sh:=.list i64
abbrev NF:Sh:=.pair .bool li
noncomputable def SD:As:=⟨[li],fun l=>decide (zI (α:=Int) l≤20000),[li],fun l=>Az l,false⟩
noncomputable def Ml:As:=⟨[.bool,li],fun i=>decide (zI (α:=Int) i.2≤20000),[NF],fun i=>(Ey i.1 i.2,Az i.2),false⟩
noncomputable def XP:As:=⟨[li,li],fun i=>Cq i.1&&Cq i.2,[i64],fun i=>Bz (AY i.1) (AY i.2),false⟩
noncomputable def X3:As:=⟨[li,li],fun i=>Sp.hR i.1&&Sp.hR i.2,[li],fun i=>CG (AY i.1*AY i.2),false⟩
noncomputable def RW:As:=⟨[li,i64],fun i=>H8 i.1&&decide (0<(i.2:Int))&&decide ((i.2:Int)<1000000000),[li,i64],fun i=>(CG (AY i.1/i.2),AY i.1 % i.2),false⟩
noncomputable def Tn:As:=⟨[li,li],fun i=>Cq i.1&&Cq i.2&&decide (zI (α:=Int) i.1≤9000)&&decide (zI (α:=Int) i.2≤9000)&&decide (0<AY i.2),[li,li],fun i=>(CG (AY i.1/AY i.2),CG (AY i.1 % AY i.2)),false⟩
noncomputable def Nq:As:=⟨[li,li],fun i=>Cq i.1&&Cq i.2&&decide (zI (α:=Int) i.1≤9000)&&decide (zI (α:=Int) i.2≤9000),[li],fun i=>KY i.1 i.2,false⟩
noncomputable def Px:As:=⟨[.str],fun s=>Dp s,[i64],fun s=>Bg s,false⟩
noncomputable def Pz:As:=⟨[.str],fun s=>Du s,[NF],fun s=>(Ep s,Eo s),false⟩
noncomputable def Us:AX:=X7 []
noncomputable def SC:AX:=X7 [(267,SD)]
noncomputable def Jw:AX:=X7 [(265,XP),(267,SD),(266,RW),(268,X3)]
noncomputable def fY:AX:=X7 [(209,Tn)]
noncomputable def U0:AX:=X7 [(263,Px),(264,Ml)]
end
end Go.Pe
end
section
namespace Go.Sp
def CW:List UInt8:=[48,49,50,51,52,53,54,55,56,57]
def TZ(o:List Bool):List Bool:=(List.range 256).map fun j=>o.getD j false
def bO:List Bool:=List.replicate 256 false
def Mt(s:List UInt8):List UInt8:=((s.reverse.dropWhile BE).reverse).dropWhile BE
def MJ(s:List UInt8)(c:Int):Int:=match s.findIdx? (fun x=>x==c.toNat.toUInt8)with
 |some i=>(i:Int)
 |none=> -1
def Ay(s:List UInt8):List UInt8:=match s.findIdx? (fun x=>x==47)with
 |some i=>s.take i
 |none=>s
def AG(s:List UInt8):List UInt8:=match s.findIdx? (fun x=>x==47)with
 |some i=>s.drop (i+1)
 |none=>[]
def Bw(s:List UInt8):Bool:=s.any (fun x=>x==47)
def A3(s:List UInt8):List UInt8:=if s.getD 0 0=45 then s.drop 1 else s
def preB(s:List UInt8):Bool:=decide (s.getD 0 0=45)
def bI(s t:List UInt8):Bool:=decide (t=CW)&&decide (s.length≤1000000)
def dK(s t:List UInt8):Bool:=decide (t=[47])&&decide (s.length≤1000000)
def VK(s t:List UInt8):Bool:=decide (t=[45])&&decide (s.length≤1000000)
end Go.Sp
namespace Go.Pe
open Sp
open Go.Det
noncomputable section
noncomputable def RJ:As:=⟨[.str,.str],fun i=>bI i.1 i.2,[.str],fun i=>Mt i.1,false⟩
noncomputable def bL:As:=⟨[.str,.int .u8],fun i=>decide (0≤(i.2:Int))&&decide ((i.2:Int)<256),[i64],fun i=>MJ i.1 i.2,false⟩
noncomputable def V4:As:=⟨[.str,.str],fun i=>dK i.1 i.2,[.str,.str,.bool],fun i=>(Ay i.1,Sp.AG i.1,Bw i.1),false⟩
noncomputable def cJ:As:=⟨[.str,.str],fun i=>VK i.1 i.2,[.str,.bool],fun i=>(A3 i.1,Sp.preB i.1),false⟩
noncomputable def JS:As:=⟨[.str],fun s=>decide (s.length≤1000000),[.bool],fun s=>AV s,false⟩
noncomputable def HZ:AX:=X7 []
noncomputable def Tx:AX:=X7 [(285,⟨[.str,.str],fun _=>false,[.str],fun i=>i.1,false⟩),(286,⟨[.str,.str],fun _=>false,[.str],fun i=>i.1,false⟩),(280,⟨[.str,.int .u8],fun _=>false,[.str],fun i=>i.1,false⟩),(281,⟨[.str,.int .u8],fun _=>false,[.str],fun i=>i.1,false⟩)]
noncomputable def kA:AX:=X7 [(218,RJ)]
noncomputable def kF:AX:=X7 [(330,bL)]
noncomputable def Nu:AX:=X7 [(184,P9),(225,XB),(186,QD),(226,QP),(227,X1),(321,⟨[.str,i64,i64],fun _=>false,[i64],fun _=>(0:Int),false⟩),(290,⟨[.str],fun _=>false,[i64],fun _=>(0:Int),false⟩)]
end
end Go.Pe
end
section
namespace Go.Sp
def GK(a:List UInt8):Bool:=AV (Ay (A3 a))&&(!preB a||decide (Ay (A3 a)≠[48]))&&(!Bw (A3 a)||(AV (AG (A3 a))&&decide (AG (A3 a)≠[48])&&decide (AG (A3 a)≠[49])))
def jM(a:List UInt8):Int:=AA 0 (Ay (A3 a))
def jN(a:List UInt8):Int:=AA 0 (AG (A3 a))
def Bk(a:List UInt8):Int:=if GK a=false then 1 else if 600<(Ay (A3 a)).length∨600<(AG (A3 a)).length then 4 else if Bw (A3 a)=true∧gI (jM a) (jN a)≠1 then 1 else 0
def AS(s:List UInt8):Int:=((Ay s).length:Int)
def IU(a:List UInt8):Bool:=Du (Ay a)&&Du (AG a)&&decide (a.length≤1499)
def GW(a:List UInt8):Int:=CD (Ay a)
def GC(a:List UInt8):Int:=if Bw a=true then CD (AG a)else 1
def GO(a:List UInt8):Bool:=rN (GW a)
def Fo(a:List UInt8):List Int:=rW (GW a)
def Hd(a:List UInt8):Bool:=rN (GC a)
def Fv(a:List UInt8):List Int:=rW (GC a)
end Go.Sp
namespace Go.Pe
open Sp
open Go.Det
noncomputable section
noncomputable def E5:As:=⟨[.str],fun s=>decide (s.length≤1000000),[i64],fun s=>Bk s,false⟩
noncomputable def M6:As:=⟨[.str],fun s=>decide (s.length≤1000000),[i64],fun s=>AS s,false⟩
noncomputable def I0:As:=⟨[i64],fun n=>F4 n,[NF],fun n=>(Sp.rN n,Sp.rW n),false⟩
noncomputable def OD:As:=⟨[.str],fun s=>IU s,[NF,NF],fun s=>((GO s,Fo s),(Hd s,Fv s)),false⟩
noncomputable def Jx:AX:=bT [(136,[4,6,7,9,10])] [] [(136,[(4,[5,6,7,8]),(6,[5,6,7,8]),(7,[5,6,7,9]),(9,[5,6,7]),(10,[10])])] [(179,C2),(180,J5),(176,cJ),(177,V4),(178,JS),(181,cL),(182,MF),(183,VL),(184,P9)]
noncomputable def aK:AX:=X7 [(264,Ml)]
noncomputable def jK:AX:=X7 [(167,M6),(207,Pz),(208,I0)]
noncomputable def P5:AX:=bT [(128,[4,7,9,11,13,14])] [] [(128,[(4,[0,3]),(7,[3,4]),(9,[3,4]),(11,[3,4]),(13,[5,6]),(14,[7])])] [(167,M6),(168,JS),(169,OD),(170,Nq)]
end
end Go.Pe
end
section
namespace Go.Sp
abbrev Lm:=(Int×List Int)×(Int×List Int)
def NH(a:Bj):Bool:=ET a&&decide (a.2.length≤4000)
def Mb(a:Lm):Bool:=NH a.1&&NH a.2
def SF(a b:Lm):Int:=Bz (vI a.1*vI b.2) (vI b.1*vI a.2)
def Mn(a:List UInt8):Int:=Cc (GW a)
def Ln(a:List UInt8):List Int:=Cb (GW a)
def JN(a:List UInt8):Int:=Cc (GC a)
def JU(a:List UInt8):List Int:=Cb (GC a)
def RM(a:List UInt8):List UInt8:=if Bw a=true then AG a else[49]
def Nx(a:List UInt8)(n:Int):Bool:=decide ((a.length:Int)≤2*n+2)&&decide (Bk a=0)&&decide (((A3 (Ay a)).length:Int)≤n)&&decide (((RM a).length:Int)≤n)
def Bp(a:List UInt8)(n:Int):Bool:=decide (a.length≤40)&&(decide (Bk a≠0)||Nx a n)
end Go.Sp
namespace Go.Pe
open Sp
open Go.Det
noncomputable section
abbrev O2:Sh:=.pair BW BW
noncomputable def V5:As:=⟨[.str],fun s=>IU s,[O2],fun s=>((Mn s,Ln s),(JN s,JU s)),false⟩
noncomputable def Wk:As:=⟨[O2,O2],fun i=>Mb (i.1:Lm)&&Mb (i.2:Lm),[i64],fun i=>SF (i.1:Lm) (i.2:Lm),false⟩
noncomputable def XD:As:=⟨[.str,i64],fun i=>decide (zI (α:=UInt8) i.1≤1000000)&&decide (0≤(i.2:Int))&&decide ((i.2:Int)≤1000),[.bool],fun i=>Nx i.1 i.2,false⟩
noncomputable def JM:As:=⟨[.str,i64],fun i=>decide (0≤(i.2:Int))&&decide ((i.2:Int)≤1000),[.bool],fun i=>Bp i.1 i.2,false⟩
noncomputable def jB:AX:=X7 [(177,V4),(182,MF),(184,P9)]
noncomputable def jE:AX:=X7 [(186,QD),(183,VL)]
noncomputable def Wa:As:=⟨[.str],fun s=>decide (s.length≤1000000),[.str],fun s=>A3 s,false⟩
noncomputable def cD:As:=⟨[.str],fun s=>decide (s.length≤1000000),[.str],fun s=>Ay s,false⟩
noncomputable def WH:As:=⟨[.str],fun s=>decide (s.length≤1000000),[.str],fun s=>RM s,false⟩
noncomputable def gK:AX:=X7 [(167,M6)]
noncomputable def kK:AX:=X7 [(128,E5),(203,Wa),(204,cD),(205,WH)]
noncomputable def kG:AX:=X7 [(128,E5),(166,XD)]
end
end Go.Pe
end
section
namespace Go.Sp
def SL(a:List UInt8):Bool:=decide (a.length≤20)&&decide ((Ay (A3 a)).length≤9)&&decide ((AG (A3 a)).length≤9)
def A0(a:List UInt8):Int:=if preB a=true then -AA 0 (Ay (A3 a))else AA 0 (Ay (A3 a))
def AJ(a:List UInt8):Int:=if Bw (A3 a)=true then AA 0 (AG (A3 a))else 1
def Gg(a:List UInt8):Bool:=SL a&&Al (Ay (A3 a))&&Al (AG (A3 a))
def FG(a:List UInt8):Int:=if a=[48]then 0 else if a.getD 0 0=45 then -1 else 1
def Jd(a:List UInt8):List UInt8:=if a=[48]then a else if a.getD 0 0=45 then a.drop 1 else 45::a
def IT:Nat→Nat→Nat→List UInt8→List UInt8
 |0,_,_,acc=>acc
 |f+1,n,l,acc=>if n=0∧l≤acc.length then acc else IT f (n/10) l (UInt8.ofNat (48+n % 10)::acc)
def B0(n l:Int):List UInt8:=IT 64 n.toNat l.toNat []
def UB(a b:Int):Bool:=decide (0≤a)&&decide (a<9223372036854775808)&&decide (0≤b)&&decide (b<9223372036854775808)
end Go.Sp
namespace Go.Pe
open Sp
open Go.Det
noncomputable section
noncomputable def RB:As:=⟨[.str],fun s=>Gg s,[i64,i64,.bool],fun s=>(A0 s,AJ s,true),false⟩
noncomputable def bK:As:=⟨[i64,i64],fun i=>UB i.1 i.2,[i64],fun i=>Sp.gI i.1 i.2,false⟩
noncomputable def Pg:As:=⟨[.str],fun s=>decide (s.length≤1000000),[i64],fun s=>FG s,false⟩
noncomputable def Xg:As:=⟨[.str],fun s=>decide (s.length≤1000000),[.str],fun s=>Jd s,false⟩
noncomputable def Rm:As:=⟨[i64,i64],fun i=>decide (0≤(i.1:Int))&&decide ((i.1:Int)<9223372036854775808)&&decide (0≤(i.2:Int))&&decide ((i.2:Int)≤20),[.str],fun i=>B0 i.1 i.2,false⟩
noncomputable def M3:AX:=bT [(211,[5,7,11,13])] [] [(211,[(5,[5,6]),(7,[5,6]),(11,[5,6,7,8,9]),(13,[6,8,9])])] [(263,Px),(167,M6)]
noncomputable def kC:AX:=X7 [(130,Pg)]
end
end Go.Pe
end
section
namespace Go.Sp
def fH(n:Int):List UInt8:=if n<0 then[45]else[]
def dP(d:Int):List UInt8:=if 1<d then 47::B0 d 1 else[]
def Ym(n d:Int):List UInt8:=fH (zG n (gI (Ah n) d))++B0 (Ah (zG n (gI (Ah n) d))) 1++dP (zG d (gI (Ah n) d))
def fO(n d:Int):List UInt8:=if d<0 then Ym (-n) (-d)else Ym n d
def gJ(n d:Int):Bool:=decide (-4000000000000000000≤n)&&decide (n≤4000000000000000000)&&decide (-4000000000000000000≤d)&&decide (d≤4000000000000000000)&&decide (d≠0)
def A1(a:List UInt8):Bool:=Gg a&&decide (AJ a≠0)
def Pp(a b:List UInt8):List UInt8:=fO (A0 a*AJ b+A0 b*AJ a) (AJ a*AJ b)
def Dx(a b:List UInt8):Int:=Bz (A0 a*AJ b) (A0 b*AJ a)
end Go.Sp
namespace Go.Pe
open Sp
open Go.Det
noncomputable section
noncomputable def dO:As:=⟨[i64,i64],fun i=>gJ i.1 i.2,[.str],fun i=>fO i.1 i.2,false⟩
noncomputable def cN:As:=⟨[.str,.str],fun i=>A1 i.1&&A1 i.2,[.str],fun i=>Pp i.1 i.2,false⟩
noncomputable def bW:As:=⟨[.str,.str],fun i=>A1 i.1&&A1 i.2,[.str],fun i=>Pp i.1 (Jd i.2),false⟩
noncomputable def V1:As:=⟨[.str,.str],fun i=>A1 i.1&&A1 i.2,[i64],fun i=>Dx i.1 i.2,false⟩
noncomputable def gQ:As:=⟨[NF,NF],fun _=>false,[.str],fun _=>[],false⟩
noncomputable def gO:As:=⟨[NF,NF],fun _=>false,[NF],fun i=>(i.1.1,i.1.2),false⟩
noncomputable def iX:AX:=X7 [(272,bK),(273,Rm),(208,I0),(213,gQ)]
noncomputable def jF:AX:=X7 [(211,RB),(212,dO),(169,OD),(213,gQ),(214,gO),(215,gO)]
noncomputable def jS:AX:=X7 [(173,cN),(174,Xg)]
noncomputable def jH:AX:=X7 [(131,bW),(130,Pg)]
end
end Go.Pe
end
section
namespace Go.Sp
abbrev AK:=List UInt8×List UInt8×Bool
def B2(l:List AK):List (List UInt8):=l.map (·.1)
def GG(x:AK):Bool:=decide (x.1.length≤40)&&Bp x.2.1 6
def DH(l:List AK):Bool:=decide (l.length≤205)&&l.all GG
def D4(l:List AK)(n:Int):Bool:= !((decide ((l.length:Int)>n)&&decide (l.length≤200))||decide (205<l.length))&&l.all GG
def aB:List UInt8:=[45,49,48]
def QN:List UInt8:=[53,52]
def RY(a:List UInt8):Bool:=decide (Dx a aB<0)||decide (Dx a QN>0)
def NC(seen:List (List UInt8))(x:AK):Int:=Hy (CX seen x.1) (Hy (Bk x.2.1) (if RY x.2.1=true then 3 else 0))
def IQ(seen:List (List UInt8)):List AK→Int
 |[]=>0
 |x::r=>Hy (NC seen x) (IQ (seen++[x.1]) r)
def AB(l:List AK):Int:=if 200<l.length then 5 else IQ [] l
end Go.Sp
namespace Go.Pe
open Go.Det
noncomputable section
abbrev E3:Sh:=.pair .str (.pair .str .bool)
noncomputable def Jb:As:=⟨[.list E3,i64],fun _=>true,[.bool],fun i=>Sp.D4 i.1 i.2,false⟩
noncomputable def Tk:As:=⟨[.list E3],fun l=>Sp.DH l,[UO],fun l=>Sp.B2 l,false⟩
noncomputable def DT:As:=⟨[.list E3],fun l=>Sp.DH l,[i64],fun l=>Sp.AB l,false⟩
noncomputable def VE:AX:=X7 [(126,JM)]
noncomputable def fT:AX:=X7 [(112,EL),(128,E5),(55,V1),(127,Tk)]
end
end Go.Pe
end
section
namespace Go.Sp
def ix(l:List AK)(i:Int):List UInt8:=(l.getD i.toNat ([],[],false)).2.1
def Eh(l:List AK)(o:List Int)(x:Int):List Int→List Int
 |[]=>x::o
 |y::r=>if Dx (ix l y) (ix l x)>0 then Eh l (y::o) x r else r.reverse++y::x::o
def H5(l:List AK)(o:List Int)(x:Int):List Int:=Eh l [] x o.reverse
def BV(l:List AK)(a:List Int):List Int:=a.foldl (H5 l) []
def Ks(l:List AK)(a:List Int):Bool:=decide (l.length≤205)&&decide (a.length≤205)&&a.all fun i=>decide (0≤i)&&decide (i<(l.length:Int))&&A1 (ix l i)
end Go.Sp
namespace Go.Pe
open Go.Det
noncomputable section
noncomputable def So:As:=⟨[.list E3,DZ],fun i=>Sp.Ks i.1 i.2,[DZ],fun i=>Sp.BV i.1 i.2,false⟩
noncomputable def Vs:AX:=X7 [(55,V1)]
end
end Go.Pe
end
section
namespace Go.Sp
def NU(i:Nat):List AK→List Int
 |[]=>[]
 |x::r=>if x.2.2=true then(i:Int)::NU (i+1) r else NU (i+1) r
def Nv(i:Nat):List AK→List Int
 |[]=>[]
 |x::r=>if x.2.2=true then Nv (i+1) r else(i:Int)::Nv (i+1) r
def pick(o b:List Int):List Int:=b.map fun k=>o.getD k.toNat 0
def Cm(l:List AK)(key:Int):List Int:=pick (Nv 0 l) (Ck (Nv 0 l).length key)
def Gd:List UInt8:=[105,110,100,101,120]
def JJ:List UInt8:=[98,97,108,108,111,116]
def DU(l:List AK)(rule:List UInt8)(key:Int):List Int:=NU 0 l++(if rule=Gd then BV l (Cm l key)else Cm l key)
def CF(l:List AK)(n:Int)(rule:List UInt8)(key:Int):Int:=Hy (AB l) (Hy (out n 0 200) (Hy (if rule=JJ∨rule=Gd then 0 else 13) (out key 1 2147483646)))
def C1(l:List AK)(n:Int)(rule:List UInt8)(key:Int):List Int×List Int×Int:=
 if CF l n rule key≠0 then([],[],CF l n rule key)else((DU l rule key).take n.toNat,(DU l rule key).drop n.toNat,0)
def Fc(l:List AK):List Int:=BV l (iota l.length)
def D0(l:List AK):List Int×Int:=if AB l≠0 then([],AB l)else(Fc l,0)
def Kt(l:List AK)(a:List Int):Bool:=decide (l.length≤205)&&decide (a.length≤19)&&a.all fun i=>decide (0≤i)&&decide (i<(l.length:Int))&&Bp (ix l i) 6&&decide (Bk (ix l i)=0)
def Yj(l:List AK):Bool:=DH l&&(decide (l.length≤12)||decide (200<l.length))
def okO(l:List AK):Bool:=DH l&&decide (AB l=0)
end Go.Sp
namespace Go.Pe
open Sp
open Go.Det
noncomputable section
noncomputable def bR:As:=⟨[.list E3],fun l=>DH l,[.list E3],fun l=>l,false⟩
noncomputable def Lu:As:=⟨[.list E3],fun l=>Sp.okO l,[DZ],fun l=>Fc l,false⟩
noncomputable def Td:As:=⟨[.list E3,.str,i64],fun i=>Sp.okO i.1&&decide (zE i.2.2 1 2147483646=0),[DZ],fun i=>DU i.1 i.2.1 i.2.2,false⟩
noncomputable def Uc:As:=⟨[.list E3],fun l=>Yj l,[DZ,i64],fun l=>D0 l,false⟩
noncomputable def KS:As:=⟨[.list E3,i64,.str,i64],fun i=>Yj i.1,[DZ,DZ,i64],fun i=>C1 i.1 i.2.1 i.2.2.1 i.2.2.2,false⟩
noncomputable def kP:List (FuncId×As):=(60,DT)::(89,VQ)::(90,B8)::(88,Is)::iY
noncomputable def LX:Ff:=⟨[.list E3],3,i64,fun l a=>Kt l a,fun l a=>BV l a⟩
noncomputable def Ku:AX:=X7 [(137,V5),(138,Wk),(271,fL)]
noncomputable def jA:AX:=(X7 kP).wr [(129,LX)]
noncomputable def GA:AX:=AX.wr (bT [(52,[12,20])] [(52,[(12,[(13,i64)]),(20,[(16,i64)])])] [(52,[(20,[1,12,16]),(12,[0,1,2,3,12,13]),(15,[0,1,2,12,13,16,59,60,61]),(14,[0,1,2,12,13,16,59,60,61]),(11,[0,1,2,3,12,13,38,39,40]),(7,[0,1,2,3,12,13,38,39,40]),(6,[0,1,2,3,12,13,38,39,40]),(4,[0,1,2,3])])] kP) [(129,LX)]
noncomputable def GD:AX:=bT [(62,[8,16])] [(62,[(8,[(8,i64)]),(16,[(11,i64)])])] [(62,[(16,[7,11]),(8,[0,1,2,7,8]),(13,[0,1,7,8,10,11,12]),(11,[0,1,7,8,10,11,12]),(4,[0,1,2,7,8,9]),(5,[0,1,2,7,8,9]),(3,[0,1,2,7,8,9])])] [(140,So),(24,B8)]
noncomputable def U2:AX:=X7 [(140,So),(24,B8)]
end
noncomputable section
noncomputable def JV:AX:=bT [(11,[8,11,14,20])] [(11,[(11,[(11,i64)]),(20,[(12,i64)])])] [] [(17,RH),(50,Jb),(53,bR),(52,KS),(59,Uc),(51,DT),(60,DT),(61,Lu),(22,Is),(21,C2),(23,VQ),(62,Td),(27,NW)]
end
end Go.Pe
end
section
namespace Go.Pe
open Sp
open Go.Det
noncomputable section
open List Int Prod
namespace T11
def T(l:List (List UInt8×List UInt8×Bool))(c:Int×List UInt8×Int):Tr:=tree JV false 9 11 (Af ([zf (ze zd (ze zd zg)),ze i64 (ze zd i64)]) (l,c))
def L1(v0:List (List UInt8×List UInt8×Bool))(v5 v6:List Int)(v7:Int)(v8:List Int)(v10 o0:Int)(o0_1:List UInt8)(o0_2:Int):Tr:=re ((T [] (0,([],0))).L.R.R.L.L.L.L.L.L.L.R.R) (Ar 121 [(0,.dat (zf (ze zd (ze zd zg))) v0),(3,.ptr 0 0),(5,.dat (zf i64) v5),(6,.dat (zf i64) v6),(7,.dat i64 v7),(8,.dat (zf i64) v8),(10,.dat i64 v10)] [(0,.box [.dat i64 o0,.dat zd o0_1,.dat i64 o0_2])] 1)
theorem An(l:List (List UInt8×List UInt8×Bool))(c:Int×List UInt8×Int):T l c=let a':=[(0,.box [.dat i64 (fst c),.dat zd (fst (snd c)),.dat i64 (snd (snd c))])];let b':=C1 l (fst c) (fst (snd c)) (snd (snd c));let c':Tr:=.ite true (.leaf (.dat zg true) a') .fail;.ite true (.ite (!D4 l 12) c' (.ite (decide ((↑(length (fst (snd c))):Int)>40)) c' (.ite (DH l) (.ite (Yj l) (.ite (DH l) (.ite (Yj l) (.ite (DH l) (.ite (DH l) (.ite (DH l) (.ite (AB l !=AB l) (.leaf (.bl false) a') (.ite (snd (D0 l) !=AB l) (.leaf (.bl false) a') (L1 l (fst b') (fst (snd b')) (snd (snd b')) (fst (D0 l)) (AB l) (fst c) (fst (snd c)) (snd (snd c))))) .fail) .fail) .fail) .fail) .fail) .fail) .fail))) .fail:=by kernel_rfl
def L2(v0:List (List UInt8×List UInt8×Bool))(v5 v6:List Int)(v7:Int)(v8:List Int)(v10:Int)(v11:List Int)(o0:Int)(o0_1:List UInt8)(o0_2:Int):Tr:=re ((stepT JV (L1 [] [] [] 0 [] 0 0 [] 0)).L.L) (Ar 121 [(0,.dat (zf (ze zd (ze zd zg))) v0),(3,.ptr 0 0),(5,.dat (zf i64) v5),(6,.dat (zf i64) v6),(7,.dat i64 v7),(8,.dat (zf i64) v8),(10,.dat i64 v10),(11,.dat (zf i64) v11)] [(0,.box [.dat i64 o0,.dat zd o0_1,.dat i64 o0_2])] 1)
theorem Ai(v0:List (List UInt8×List UInt8×Bool))(v5 v6:List Int)(v7:Int)(v8:List Int)(v10 o0:Int)(o0_1:List UInt8)(o0_2:Int):stepT JV (L1 v0 v5 v6 v7 v8 v10 o0 o0_1 o0_2)=.ite (v10==0) (.ite (Sp.okO v0) (L2 v0 v5 v6 v7 v8 v10 (Fc v0) o0 o0_1 o0_2) .fail) (L2 v0 v5 v6 v7 v8 v10 [] o0 o0_1 o0_2):=by kernel_rfl
def L3(v0:List (List UInt8×List UInt8×Bool))(v5 v6:List Int)(v7:Int)(v8:List Int)(v10:Int)(v11:List Int)(o0:Int)(o0_1:List UInt8)(o0_2:Int):Tr:=re ((stepT JV (L2 [] [] [] 0 [] 0 [] 0 [] 0)).L.L.L.L.L) (Ar 121 [(0,.dat (zf (ze zd (ze zd zg))) v0),(3,.ptr 0 0),(5,.dat (zf i64) v5),(6,.dat (zf i64) v6),(7,.dat i64 v7),(8,.dat (zf i64) v8),(10,.dat i64 v10),(11,.dat (zf i64) v11)] [(0,.box [.dat i64 o0,.dat zd o0_1,.dat i64 o0_2])] 1)
theorem AM(v0:List (List UInt8×List UInt8×Bool))(v5 v6:List Int)(v7:Int)(v8:List Int)(v10:Int)(v11:List Int)(o0:Int)(o0_1:List UInt8)(o0_2:Int):stepT JV (L2 v0 v5 v6 v7 v8 v10 v11 o0 o0_1 o0_2)=let a':=L3 v0 v5 v6 v7 v8 (zz [v10,zE o0 0 200]) v11 o0 o0_1 o0_2;.ite true (.ite (decide (2≤2)&&true&&decide (2≤1000000)) (.ite (zz [v10,zE o0 0 200]==0) (.ite (!o0_1==[(98:UInt8),(97:UInt8),(108:UInt8),(108:UInt8),(111:UInt8),(116:UInt8)]) (.ite (!o0_1==[(105:UInt8),(110:UInt8),(100:UInt8),(101:UInt8),(120:UInt8)]) (L3 v0 v5 v6 v7 v8 13 v11 o0 o0_1 o0_2) a') a') a') .fail) .fail:=by kernel_rfl
def L4(v5 v6:List Int)(v7:Int)(v8:List Int)(v10:Int)(v11 v12:List Int)(v13:Int):Tr:=re ((stepT JV (L3 [] [] [] 0 [] 0 [] 0 [] 0)).L.L.L.L) (Ar 121 [(5,.dat (zf i64) v5),(6,.dat (zf i64) v6),(7,.dat i64 v7),(8,.dat (zf i64) v8),(10,.dat i64 v10),(11,.dat (zf i64) v11),(12,.dat (zf i64) v12),(13,.dat i64 v13)] [] 0)
theorem Bm(v0:List (List UInt8×List UInt8×Bool))(v5 v6:List Int)(v7:Int)(v8:List Int)(v10:Int)(v11:List Int)(o0:Int)(o0_1:List UInt8)(o0_2:Int):stepT JV (L3 v0 v5 v6 v7 v8 v10 v11 o0 o0_1 o0_2)=let a':=zz [v10,zE o0_2 1 2147483646];let b':=DU v0 o0_1 o0_2;.ite true (.ite (decide (2≤2)&&true&&decide (2≤1000000)) (.ite (zz [v10,zE o0_2 1 2147483646]==0) (.ite (Sp.okO v0&&decide (zE o0_2 1 2147483646=0)) (L4 v5 v6 v7 v8 a' v11 b' (Cs o0 (↑(length b'):Int))) .fail) (L4 v5 v6 v7 v8 a' v11 [] 0)) .fail) .fail:=by kernel_rfl
theorem BB(v5 v6:List Int)(v7:Int)(v8:List Int)(v10:Int)(v11 v12:List Int)(v13:Int):stepT JV (L4 v5 v6 v7 v8 v10 v11 v12 v13)=let a':Tr:=.leaf (.bl false) [];let b':=decide (toNat v13≤length v12);.ite (v7==v10) (.ite (decide (length v8≤1000000)) (.ite (v8==v11) (.ite (decide (0≤v13)&&decide (0≤toNat v13)&&b') (.ite (decide (length v5≤1000000)) (.ite (v5==take (toNat v13) v12) (.ite (decide (0≤v13)&&true&&b'&&decide (length v12≤length v12)) (.ite (decide (length v6≤1000000)) (.ite (v6==take (zC (length v12) (toNat v13)) (drop (toNat v13) v12)) (.ite true (.leaf (.dat zg true) []) .fail) a') .fail) .fail) a') .fail) .fail) a') .fail) a':=by kernel_rfl
end T11
end
end Go.Pe
end
section
namespace Go.Pe
open Sp
open Go.Det
noncomputable section
open List Int Prod
namespace T61
def T(l:List (List UInt8×List UInt8×Bool)):Tr:=tree U2 false 9 61 (Af ([zf (ze zd (ze zd zg))]) l)
def L1(v0:List (List UInt8×List UInt8×Bool))(v4:Int):Tr:=re ((T [])) (Ar 18 [(0,.dat (zf (ze zd (ze zd zg))) v0),(3,.nil),(4,.dat i64 v4)] [] 0)
theorem An(l:List (List UInt8×List UInt8×Bool)):T l=L1 l 0:=by kernel_rfl
def L2(v0:List (List UInt8×List UInt8×Bool))(v3n:Nat)(v4:Int)(o0:List Int):Tr:=re ((stepT U2 (L1 [] 0)).L.L) (Ar 18 [(0,.dat (zf (ze zd (ze zd zg))) v0),(3,.sl 0 1 0 v3n none),(4,.dat i64 v4)] [(0,.arr false 3 i64 o0)] 1)
theorem Ai(v0:List (List UInt8×List UInt8×Bool))(v4:Int):stepT U2 (L1 v0 v4)=.ite (decide (v4<(length v0:Int))) (.ite (decide (1≤1)&&decide (0<1)&&decide ((2*1+1000)*8≤281474976710656)) (L2 v0 1 (zc .i64 (v4+1)) [v4]) .fail) (.ite (Ks v0 []) (.leaf (.dat (zf i64) (BV v0 [])) []) .fail):=by kernel_rfl
theorem AM(v0:List (List UInt8×List UInt8×Bool))(v3n:Nat)(v4:Int)(o0:List Int):stepT U2 (L2 v0 v3n v4 o0)=.ite (decide (v4<(length v0:Int))) (.ite (decide (1≤1)&&true&&decide (v3n=length o0)&&decide ((2*(v3n+1)+1000)*8≤281474976710656)) (L2 v0 (zj v3n 1) (zc .i64 (v4+1)) (o0++[v4])) .fail) (.ite (decide (0+v3n≤length o0)&&true&&Ks v0 (take v3n o0)) (.leaf (.dat (zf i64) (BV v0 (take v3n o0))) ([(0,.arr true 3 i64 o0)])) .fail):=by kernel_rfl
end T61
namespace T62
def T(l:List (List UInt8×List UInt8×Bool))(rule:List UInt8)(key:Int):Tr:=tree GD false 9 62 (Af ([zf (ze zd (ze zd zg)),zd,zt zp]) (l,rule,key))
def L1(v0:List (List UInt8×List UInt8×Bool))(v1:List UInt8)(v2 v9:Int):Tr:=re ((T [] [] 0)) (Ar 60 [(0,.dat (zf (ze zd (ze zd zg))) v0),(1,.dat zd v1),(2,.dat i64 v2),(7,.nil),(8,.nil),(9,.dat i64 v9)] [] 0)
theorem An(l:List (List UInt8×List UInt8×Bool))(rule:List UInt8)(key:Int):T l rule key=L1 l rule key 0:=by kernel_rfl
def L2(v0:List (List UInt8×List UInt8×Bool))(v1:List UInt8)(v2:Int)(v7n:Nat)(v9:Int)(o0:List Int):Tr:=re ((stepT GD (L1 [] [] 0 0)).L.L.L.L) (Ar 60 [(0,.dat (zf (ze zd (ze zd zg))) v0),(1,.dat zd v1),(2,.dat i64 v2),(7,.sl 0 1 0 v7n none),(8,.nil),(9,.dat i64 v9)] [(0,.arr false 3 i64 o0)] 1)
def L3(v0:List (List UInt8×List UInt8×Bool))(v1:List UInt8)(v2:Int)(v8n:Nat)(v9:Int)(o0:List Int):Tr:=re ((stepT GD (L1 [] [] 0 0)).L.L.R.L) (Ar 60 [(0,.dat (zf (ze zd (ze zd zg))) v0),(1,.dat zd v1),(2,.dat i64 v2),(7,.nil),(8,.sl 0 1 0 v8n none),(9,.dat i64 v9)] [(0,.arr false 3 i64 o0)] 1)
def L4(v0:List (List UInt8×List UInt8×Bool))(v1:List UInt8)(v2:Int)(v8:List Int):Tr:=re ((stepT GD (L1 [] [] 0 0)).R) (Ar 60 [(0,.dat (zf (ze zd (ze zd zg))) v0),(1,.dat zd v1),(2,.dat i64 v2),(7,.nil),(8,.dat (zf i64) v8)] [] 0)
theorem Ai(v0:List (List UInt8×List UInt8×Bool))(v1:List UInt8)(v2 v9:Int):stepT GD (L1 v0 v1 v2 v9)=let a':=decide (1≤1)&&decide (0<1)&&decide ((2*1+1000)*8≤281474976710656);let b':=decide (v9<(length v0:Int));let c':=zc .i64 (v9+1);.ite (b') (.ite (decide (0≤v9)&&b') (.ite (snd (snd (getD v0 (toNat v9) ([],[],false)))) (.ite a' (L2 v0 v1 v2 1 c' [v9]) .fail) (.ite a' (L3 v0 v1 v2 1 c' [v9]) .fail)) .fail) (L4 v0 v1 v2 []):=by kernel_rfl
def L5(v0:List (List UInt8×List UInt8×Bool))(v1:List UInt8)(v2:Int)(v7n v8n:Nat)(v9:Int)(o1 o0:List Int):Tr:=re ((stepT GD (L2 [] [] 0 0 0 [])).L.L.R.L) (Ar 60 [(0,.dat (zf (ze zd (ze zd zg))) v0),(1,.dat zd v1),(2,.dat i64 v2),(7,.sl 0 1 0 v7n none),(8,.sl 1 1 0 v8n none),(9,.dat i64 v9)] [(1,.arr false 3 i64 o1),(0,.arr false 3 i64 o0)] 2)
def L6(v0:List (List UInt8×List UInt8×Bool))(v1:List UInt8)(v2:Int)(v7n:Nat)(v8 o0:List Int):Tr:=re ((stepT GD (L2 [] [] 0 0 0 [])).R) (Ar 60 [(0,.dat (zf (ze zd (ze zd zg))) v0),(1,.dat zd v1),(2,.dat i64 v2),(7,.sl 0 1 0 v7n none),(8,.dat (zf i64) v8)] [(0,.arr false 3 i64 o0)] 1)
theorem AM(v0:List (List UInt8×List UInt8×Bool))(v1:List UInt8)(v2:Int)(v7n:Nat)(v9:Int)(o0:List Int):stepT GD (L2 v0 v1 v2 v7n v9 o0)=let a':=decide (v9<(length v0:Int));let b':=zc .i64 (v9+1);.ite (a') (.ite (decide (0≤v9)&&a') (.ite (snd (snd (getD v0 (toNat v9) ([],[],false)))) (.ite (decide (1≤1)&&true&&decide (v7n=length o0)&&decide ((2*(v7n+1)+1000)*8≤281474976710656)) (L2 v0 v1 v2 (zj v7n 1) b' (o0++[v9])) .fail) (.ite (decide (1≤1)&&decide (0<1)&&decide ((2*1+1000)*8≤281474976710656)) (L5 v0 v1 v2 v7n 1 b' [v9] o0) .fail)) .fail) (L6 v0 v1 v2 v7n [] o0):=by kernel_rfl
theorem Bm(v0:List (List UInt8×List UInt8×Bool))(v1:List UInt8)(v2:Int)(v8n:Nat)(v9:Int)(o0:List Int):stepT GD (L3 v0 v1 v2 v8n v9 o0)=let a':=decide (v9<(length v0:Int));let b':=zc .i64 (v9+1);.ite (a') (.ite (decide (0≤v9)&&a') (.ite (snd (snd (getD v0 (toNat v9) ([],[],false)))) (.ite (decide (1≤1)&&decide (0<1)&&decide ((2*1+1000)*8≤281474976710656)) (L5 v0 v1 v2 1 v8n b' o0 [v9]) .fail) (.ite (decide (1≤1)&&true&&decide (v8n=length o0)&&decide ((2*(v8n+1)+1000)*8≤281474976710656)) (L3 v0 v1 v2 (zj v8n 1) b' (o0++[v9])) .fail)) .fail) (L4 v0 v1 v2 (take v8n o0)):=by kernel_rfl
def L7(v0:List (List UInt8×List UInt8×Bool))(v1:List UInt8)(v8 v10:List Int)(v12:Int):Tr:=re ((stepT GD (L4 [] [] 0 [])).L) (Ar 60 [(0,.dat (zf (ze zd (ze zd zg))) v0),(1,.dat zd v1),(7,.nil),(8,.dat (zf i64) v8),(10,.dat (zf i64) v10),(11,.nil),(12,.dat i64 v12)] [] 0)
theorem BB(v0:List (List UInt8×List UInt8×Bool))(v1:List UInt8)(v2:Int)(v8:List Int):stepT GD (L4 v0 v1 v2 v8)=let a':=(length v8:Int);.ite (decide (0≤a')&&decide (a'≤200)&&decide (1≤v2)&&decide (v2≤2147483646)) (L7 v0 v1 v8 (Ck a' v2) 0) .fail:=by kernel_rfl
theorem CZ(v0:List (List UInt8×List UInt8×Bool))(v1:List UInt8)(v2:Int)(v7n v8n:Nat)(v9:Int)(o1 o0:List Int):stepT GD (L5 v0 v1 v2 v7n v8n v9 o1 o0)=let a':=decide (v9<(length v0:Int));let b':=zc .i64 (v9+1);.ite (a') (.ite (decide (0≤v9)&&a') (.ite (snd (snd (getD v0 (toNat v9) ([],[],false)))) (.ite (decide (1≤1)&&true&&decide (v7n=length o0)&&decide ((2*(v7n+1)+1000)*8≤281474976710656)) (L5 v0 v1 v2 (zj v7n 1) v8n b' o1 (o0++[v9])) .fail) (.ite (decide (1≤1)&&true&&decide (v8n=length o1)&&decide ((2*(v8n+1)+1000)*8≤281474976710656)) (L5 v0 v1 v2 v7n (zj v8n 1) b' (o1++[v9]) o0) .fail)) .fail) (L6 v0 v1 v2 v7n (take v8n o1) o0):=by kernel_rfl
def L8(v0:List (List UInt8×List UInt8×Bool))(v1:List UInt8)(v7n:Nat)(v8 v10:List Int)(v12:Int)(o0:List Int):Tr:=re ((stepT GD (L6 [] [] 0 0 [] [])).L) (Ar 60 [(0,.dat (zf (ze zd (ze zd zg))) v0),(1,.dat zd v1),(7,.sl 0 1 0 v7n none),(8,.dat (zf i64) v8),(10,.dat (zf i64) v10),(11,.nil),(12,.dat i64 v12)] [(0,.arr false 3 i64 o0)] 1)
theorem DP(v0:List (List UInt8×List UInt8×Bool))(v1:List UInt8)(v2:Int)(v7n:Nat)(v8 o0:List Int):stepT GD (L6 v0 v1 v2 v7n v8 o0)=let a':=(length v8:Int);.ite (decide (0≤a')&&decide (a'≤200)&&decide (1≤v2)&&decide (v2≤2147483646)) (L8 v0 v1 v7n v8 (Ck a' v2) 0 o0) .fail:=by kernel_rfl
def L9(v0:List (List UInt8×List UInt8×Bool))(v1:List UInt8)(v8 v10:List Int)(v11n:Nat)(v12:Int)(o0:List Int):Tr:=re ((stepT GD (L7 [] [] [] [] 0)).L.L.L.L) (Ar 60 [(0,.dat (zf (ze zd (ze zd zg))) v0),(1,.dat zd v1),(7,.nil),(8,.dat (zf i64) v8),(10,.dat (zf i64) v10),(11,.sl 0 1 0 v11n none),(12,.dat i64 v12)] [(0,.arr false 3 i64 o0)] 1)
def Ry(v11:List Int):Tr:=re ((stepT GD (L7 [] [] [] [] 0)).R.L.L) (Ar 60 [(7,.nil),(11,.dat (zf i64) v11)] [] 0)
theorem Dw(v0:List (List UInt8×List UInt8×Bool))(v1:List UInt8)(v8 v10:List Int)(v12:Int):stepT GD (L7 v0 v1 v8 v10 v12)=let a':=decide (v12<(length v10:Int));.ite (a') (.ite (decide (0≤v12)&&a') (.ite (decide (0≤getD v10 (toNat v12) 0)&&decide (getD v10 (toNat v12) 0<(length v8:Int))) (.ite (decide (1≤1)&&decide (0<1)&&decide ((2*1+1000)*8≤281474976710656)) (L9 v0 v1 v8 v10 1 (zc .i64 (v12+1)) ([getD v8 (toNat (getD v10 (toNat v12) 0)) 0])) .fail) .fail) .fail) (.ite (v1==[(105:UInt8),(110:UInt8),(100:UInt8),(101:UInt8),(120:UInt8)]) (.ite (Ks v0 []) (Ry (BV v0 [])) .fail) (Ry [])):=by kernel_rfl
def Zc(v0:List (List UInt8×List UInt8×Bool))(v1:List UInt8)(v7n:Nat)(v8 v10:List Int)(v11n:Nat)(v12:Int)(o1 o0:List Int):Tr:=re ((stepT GD (L8 [] [] 0 [] [] 0 [])).L.L.L.L) (Ar 60 [(0,.dat (zf (ze zd (ze zd zg))) v0),(1,.dat zd v1),(7,.sl 0 1 0 v7n none),(8,.dat (zf i64) v8),(10,.dat (zf i64) v10),(11,.sl 1 1 0 v11n none),(12,.dat i64 v12)] [(1,.arr false 3 i64 o1),(0,.arr false 3 i64 o0)] 2)
def Vm(v7n:Nat)(v11 o0:List Int):Tr:=re ((stepT GD (L8 [] [] 0 [] [] 0 [])).R.L.L) (Ar 60 [(7,.sl 0 1 0 v7n none),(11,.dat (zf i64) v11)] [(0,.arr false 3 i64 o0)] 1)
theorem E7(v0:List (List UInt8×List UInt8×Bool))(v1:List UInt8)(v7n:Nat)(v8 v10:List Int)(v12:Int)(o0:List Int):stepT GD (L8 v0 v1 v7n v8 v10 v12 o0)=let a':=decide (v12<(length v10:Int));.ite (a') (.ite (decide (0≤v12)&&a') (.ite (decide (0≤getD v10 (toNat v12) 0)&&decide (getD v10 (toNat v12) 0<(length v8:Int))) (.ite (decide (1≤1)&&decide (0<1)&&decide ((2*1+1000)*8≤281474976710656)) (Zc v0 v1 v7n v8 v10 1 (zc .i64 (v12+1)) ([getD v8 (toNat (getD v10 (toNat v12) 0)) 0]) o0) .fail) .fail) .fail) (.ite (v1==[(105:UInt8),(110:UInt8),(100:UInt8),(101:UInt8),(120:UInt8)]) (.ite (Ks v0 []) (Vm v7n (BV v0 []) o0) .fail) (Vm v7n [] o0)):=by kernel_rfl
theorem Mg(v0:List (List UInt8×List UInt8×Bool))(v1:List UInt8)(v8 v10:List Int)(v11n:Nat)(v12:Int)(o0:List Int):stepT GD (L9 v0 v1 v8 v10 v11n v12 o0)=let a':=decide (v12<(length v10:Int));let b':=take v11n o0;.ite (a') (.ite (decide (0≤v12)&&a') (.ite (decide (0≤getD v10 (toNat v12) 0)&&decide (getD v10 (toNat v12) 0<(length v8:Int))) (.ite (decide (1≤1)&&true&&decide (v11n=length o0)&&decide ((2*(v11n+1)+1000)*8≤281474976710656)) (L9 v0 v1 v8 v10 (zj v11n 1) (zc .i64 (v12+1)) (o0++[getD v8 (toNat (getD v10 (toNat v12) 0)) 0])) .fail) .fail) .fail) (.ite (v1==[(105:UInt8),(110:UInt8),(100:UInt8),(101:UInt8),(120:UInt8)]) (.ite (decide (0+v11n≤length o0)&&true&&Ks v0 b') (Ry (BV v0 b')) .fail) (Ry b')):=by kernel_rfl
theorem Ld(v11:List Int):stepT GD (Ry v11)=.ite (decide (0<length v11)) (.ite (decide ((2*length v11+1000)*8≤281474976710656)) (.leaf (.sl 0 1 0 (length v11) none) ([(0,.arr false 3 i64 v11)])) .fail) (.leaf .nil []):=by kernel_rfl
theorem LA(v0:List (List UInt8×List UInt8×Bool))(v1:List UInt8)(v7n:Nat)(v8 v10:List Int)(v11n:Nat)(v12:Int)(o1 o0:List Int):stepT GD (Zc v0 v1 v7n v8 v10 v11n v12 o1 o0)=let a':=decide (v12<(length v10:Int));let b':=take v11n o1;.ite (a') (.ite (decide (0≤v12)&&a') (.ite (decide (0≤getD v10 (toNat v12) 0)&&decide (getD v10 (toNat v12) 0<(length v8:Int))) (.ite (decide (1≤1)&&true&&decide (v11n=length o1)&&decide ((2*(v11n+1)+1000)*8≤281474976710656)) (Zc v0 v1 v7n v8 v10 (zj v11n 1) (zc .i64 (v12+1)) (o1++[getD v8 (toNat (getD v10 (toNat v12) 0)) 0]) o0) .fail) .fail) .fail) (.ite (v1==[(105:UInt8),(110:UInt8),(100:UInt8),(101:UInt8),(120:UInt8)]) (.ite (decide (0+v11n≤length o1)&&true&&Ks v0 b') (Vm v7n (BV v0 b') o0) .fail) (Vm v7n b' o0)):=by kernel_rfl
theorem Sr(v7n:Nat)(v11 o0:List Int):stepT GD (Vm v7n v11 o0)=.ite (decide (v7n=length o0)&&decide ((2*(v7n+length v11)+1000)*8≤281474976710656)) (.leaf (.sl 1 1 0 (zj v7n (length v11)) none) ([(1,.arr false 3 i64 (o0++v11))])) .fail:=by kernel_rfl
end T62
end
noncomputable section
open List Int Prod
namespace T53
def T(l:List (List UInt8×List UInt8×Bool)):Tr:=tree U2 false 9 53 (Af ([zf (ze zd (ze zd zg))]) l)
def L1(v6:List (List UInt8×List UInt8×Bool))(v7 v8:Int):Tr:=re ((T [])) (Ar 18 [(3,.nil),(6,.dat (zf (ze zd (ze zd zg))) v6),(7,.dat i64 v7),(8,.dat i64 v8)] [] 0)
theorem An(l:List (List UInt8×List UInt8×Bool)):T l=L1 l ((length l:Int)) 0:=by kernel_rfl
def L2(v3n:Nat)(v6:List (List UInt8×List UInt8×Bool))(v7 v8:Int)(o0:List (List UInt8×List UInt8×Bool)):Tr:=re ((stepT U2 (L1 [] 0 0)).L.L.L) (Ar 18 [(3,.sl 0 3 0 v3n none),(6,.dat (zf (ze zd (ze zd zg))) v6),(7,.dat i64 v7),(8,.dat i64 v8)] [(0,.arr false 147 (ze zd (ze zd zg)) o0)] 1)
theorem Ai(v6:List (List UInt8×List UInt8×Bool))(v7 v8:Int):stepT U2 (L1 v6 v7 v8)=let a':=getD v6 (toNat v8) ([],[],false);.ite (decide (v8<v7)) (.ite (decide (0≤v8)&&decide (v8<(length v6:Int))) (.ite (decide (1≤1)&&decide (0<1)&&decide ((2*1+1000)*40≤281474976710656)) (L2 1 v6 v7 (zc .i64 (v8+1)) ([(fst a',fst (snd a'),snd (snd a'))])) .fail) .fail) (.leaf .nil []):=by kernel_rfl
theorem AM(v3n:Nat)(v6:List (List UInt8×List UInt8×Bool))(v7 v8:Int)(o0:List (List UInt8×List UInt8×Bool)):stepT U2 (L2 v3n v6 v7 v8 o0)=let a':=getD v6 (toNat v8) ([],[],false);.ite (decide (v8<v7)) (.ite (decide (0≤v8)&&decide (v8<(length v6:Int))) (.ite (decide (1≤1)&&true&&decide (v3n=length o0)&&decide ((2*(v3n+1)+1000)*40≤281474976710656)) (L2 (zj v3n 1) v6 v7 (zc .i64 (v8+1)) (o0++[(fst a',fst (snd a'),snd (snd a'))])) .fail) .fail) (.leaf (.sl 0 3 0 v3n none) ([(0,.arr false 147 (ze zd (ze zd zg)) o0)])):=by kernel_rfl
end T53
end
end Go.Pe
end
section
namespace Go.Pe
open Sp
open Go.Det
noncomputable section
open List Int Prod
namespace T52
def T(l:List (List UInt8×List UInt8×Bool))(places:Int)(rule:List UInt8)(key:Int):Tr:=tree GA false 9 52 (Af ([zf (ze zd (ze zd zg)),zt zp,zd,zt zp]) (l,places,rule,key))
def L1(v0:List (List UInt8×List UInt8×Bool))(v1:Int)(v2:List UInt8)(v3:Int)(v38:List (List UInt8×List UInt8×Bool))(v39 v40:Int):Tr:=re ((T [] 0 [] 0).L.L.L.L.L.L.R) (Ar 92 [(0,.dat (zf (ze zd (ze zd zg))) v0),(1,.dat i64 v1),(2,.dat zd v2),(3,.dat i64 v3),(12,.nil),(13,.nil),(38,.dat (zf (ze zd (ze zd zg))) v38),(39,.dat i64 v39),(40,.dat i64 v40)] [] 0)
theorem An(l:List (List UInt8×List UInt8×Bool))(places:Int)(rule:List UInt8)(key:Int):T l places rule key=let a':=!rule==[(105:UInt8),(110:UInt8),(100:UInt8),(101:UInt8),(120:UInt8)];let b':=L1 l places rule key l ((length l:Int)) 0;let c':=decide (4≤4)&&true&&decide (4≤1000000);.ite (DH l) (.ite true (.ite (!rule==[(98:UInt8),(97:UInt8),(108:UInt8),(108:UInt8),(111:UInt8),(116:UInt8)]) (.ite true (.ite true (.ite c' (.ite (zz [AB l,zE places 0 200,Ew a' 13,zE key 1 2147483646] !=0) (.leaf (.tup [.nil,.nil,.dat i64 (zz [AB l,zE places 0 200,Ew a' 13,zE key 1 2147483646])]) ([(0,.arr false 25 i64 [AB l,zE places 0 200,Ew a' 13,zE key 1 2147483646])])) b') .fail) .fail) .fail) (.ite true (.ite true (.ite c' (.ite (zz [AB l,zE places 0 200,Ew false 13,zE key 1 2147483646] !=0) (.leaf (.tup [.nil,.nil,.dat i64 (zz [AB l,zE places 0 200,Ew false 13,zE key 1 2147483646])]) ([(0,.arr false 25 i64 [AB l,zE places 0 200,Ew false 13,zE key 1 2147483646])])) b') .fail) .fail) .fail)) .fail) .fail:=by kernel_rfl
def L2(v0:List (List UInt8×List UInt8×Bool))(v1:Int)(v2:List UInt8)(v3:Int)(v12n:Nat)(v38:List (List UInt8×List UInt8×Bool))(v39 v40:Int)(o0:List Int):Tr:=re ((stepT GA (L1 [] 0 [] 0 [] 0 0)).L.L.L.L) (Ar 92 [(0,.dat (zf (ze zd (ze zd zg))) v0),(1,.dat i64 v1),(2,.dat zd v2),(3,.dat i64 v3),(12,.sl 0 1 0 v12n none),(13,.nil),(38,.dat (zf (ze zd (ze zd zg))) v38),(39,.dat i64 v39),(40,.dat i64 v40)] [(0,.arr false 3 i64 o0)] 1)
def L3(v0:List (List UInt8×List UInt8×Bool))(v1:Int)(v2:List UInt8)(v3:Int)(v13n:Nat)(v38:List (List UInt8×List UInt8×Bool))(v39 v40:Int)(o0:List Int):Tr:=re ((stepT GA (L1 [] 0 [] 0 [] 0 0)).L.L.R.L) (Ar 92 [(0,.dat (zf (ze zd (ze zd zg))) v0),(1,.dat i64 v1),(2,.dat zd v2),(3,.dat i64 v3),(12,.nil),(13,.sl 0 1 0 v13n none),(38,.dat (zf (ze zd (ze zd zg))) v38),(39,.dat i64 v39),(40,.dat i64 v40)] [(0,.arr false 3 i64 o0)] 1)
def L4(v0:List (List UInt8×List UInt8×Bool))(v1:Int)(v2:List UInt8)(v3:Int)(v13:List Int):Tr:=re ((stepT GA (L1 [] 0 [] 0 [] 0 0)).R) (Ar 92 [(0,.dat (zf (ze zd (ze zd zg))) v0),(1,.dat i64 v1),(2,.dat zd v2),(3,.dat i64 v3),(12,.nil),(13,.dat (zf i64) v13)] [] 0)
theorem Ai(v0:List (List UInt8×List UInt8×Bool))(v1:Int)(v2:List UInt8)(v3:Int)(v38:List (List UInt8×List UInt8×Bool))(v39 v40:Int):stepT GA (L1 v0 v1 v2 v3 v38 v39 v40)=let a':=decide (1≤1)&&decide (0<1)&&decide ((2*1+1000)*8≤281474976710656);let b':=zc .i64 (v40+1);.ite (decide (v40<v39)) (.ite (decide (0≤v40)&&decide (v40<(length v38:Int))) (.ite (snd (snd (getD v38 (toNat v40) ([],[],false)))) (.ite a' (L2 v0 v1 v2 v3 1 v38 v39 b' [v40]) .fail) (.ite a' (L3 v0 v1 v2 v3 1 v38 v39 b' [v40]) .fail)) .fail) (L4 v0 v1 v2 v3 []):=by kernel_rfl
def L5(v0:List (List UInt8×List UInt8×Bool))(v1:Int)(v2:List UInt8)(v3:Int)(v12n v13n:Nat)(v38:List (List UInt8×List UInt8×Bool))(v39 v40:Int)(o1 o0:List Int):Tr:=re ((stepT GA (L2 [] 0 [] 0 0 [] 0 0 [])).L.L.R.L) (Ar 92 [(0,.dat (zf (ze zd (ze zd zg))) v0),(1,.dat i64 v1),(2,.dat zd v2),(3,.dat i64 v3),(12,.sl 0 1 0 v12n none),(13,.sl 1 1 0 v13n none),(38,.dat (zf (ze zd (ze zd zg))) v38),(39,.dat i64 v39),(40,.dat i64 v40)] [(1,.arr false 3 i64 o1),(0,.arr false 3 i64 o0)] 2)
def L6(v0:List (List UInt8×List UInt8×Bool))(v1:Int)(v2:List UInt8)(v3:Int)(v12n:Nat)(v13 o0:List Int):Tr:=re ((stepT GA (L2 [] 0 [] 0 0 [] 0 0 [])).R) (Ar 92 [(0,.dat (zf (ze zd (ze zd zg))) v0),(1,.dat i64 v1),(2,.dat zd v2),(3,.dat i64 v3),(12,.sl 0 1 0 v12n none),(13,.dat (zf i64) v13)] [(0,.arr false 3 i64 o0)] 1)
theorem AM(v0:List (List UInt8×List UInt8×Bool))(v1:Int)(v2:List UInt8)(v3:Int)(v12n:Nat)(v38:List (List UInt8×List UInt8×Bool))(v39 v40:Int)(o0:List Int):stepT GA (L2 v0 v1 v2 v3 v12n v38 v39 v40 o0)=let a':=zc .i64 (v40+1);.ite (decide (v40<v39)) (.ite (decide (0≤v40)&&decide (v40<(length v38:Int))) (.ite (snd (snd (getD v38 (toNat v40) ([],[],false)))) (.ite (decide (1≤1)&&true&&decide (v12n=length o0)&&decide ((2*(v12n+1)+1000)*8≤281474976710656)) (L2 v0 v1 v2 v3 (zj v12n 1) v38 v39 a' (o0++[v40])) .fail) (.ite (decide (1≤1)&&decide (0<1)&&decide ((2*1+1000)*8≤281474976710656)) (L5 v0 v1 v2 v3 v12n 1 v38 v39 a' [v40] o0) .fail)) .fail) (L6 v0 v1 v2 v3 v12n [] o0):=by kernel_rfl
theorem Bm(v0:List (List UInt8×List UInt8×Bool))(v1:Int)(v2:List UInt8)(v3:Int)(v13n:Nat)(v38:List (List UInt8×List UInt8×Bool))(v39 v40:Int)(o0:List Int):stepT GA (L3 v0 v1 v2 v3 v13n v38 v39 v40 o0)=let a':=zc .i64 (v40+1);.ite (decide (v40<v39)) (.ite (decide (0≤v40)&&decide (v40<(length v38:Int))) (.ite (snd (snd (getD v38 (toNat v40) ([],[],false)))) (.ite (decide (1≤1)&&decide (0<1)&&decide ((2*1+1000)*8≤281474976710656)) (L5 v0 v1 v2 v3 1 v13n v38 v39 a' o0 [v40]) .fail) (.ite (decide (1≤1)&&true&&decide (v13n=length o0)&&decide ((2*(v13n+1)+1000)*8≤281474976710656)) (L3 v0 v1 v2 v3 (zj v13n 1) v38 v39 a' (o0++[v40])) .fail)) .fail) (L4 v0 v1 v2 v3 (take v13n o0)):=by kernel_rfl
def L7(v0:List (List UInt8×List UInt8×Bool))(v1:Int)(v2:List UInt8)(v13 v59:List Int)(v60 v61:Int):Tr:=re ((stepT GA (L4 [] 0 [] 0 [])).L) (Ar 92 [(0,.dat (zf (ze zd (ze zd zg))) v0),(1,.dat i64 v1),(2,.dat zd v2),(12,.nil),(13,.dat (zf i64) v13),(16,.nil),(59,.dat (zf i64) v59),(60,.dat i64 v60),(61,.dat i64 v61)] [] 0)
theorem BB(v0:List (List UInt8×List UInt8×Bool))(v1:Int)(v2:List UInt8)(v3:Int)(v13:List Int):stepT GA (L4 v0 v1 v2 v3 v13)=let a':=(length v13:Int);.ite (decide (0≤a')&&decide (a'≤200)&&decide (1≤v3)&&decide (v3≤2147483646)) (L7 v0 v1 v2 v13 (Ck a' v3) ((↑(length (Ck a' v3)):Int)) 0) .fail:=by kernel_rfl
theorem CZ(v0:List (List UInt8×List UInt8×Bool))(v1:Int)(v2:List UInt8)(v3:Int)(v12n v13n:Nat)(v38:List (List UInt8×List UInt8×Bool))(v39 v40:Int)(o1 o0:List Int):stepT GA (L5 v0 v1 v2 v3 v12n v13n v38 v39 v40 o1 o0)=let a':=zc .i64 (v40+1);.ite (decide (v40<v39)) (.ite (decide (0≤v40)&&decide (v40<(length v38:Int))) (.ite (snd (snd (getD v38 (toNat v40) ([],[],false)))) (.ite (decide (1≤1)&&true&&decide (v12n=length o0)&&decide ((2*(v12n+1)+1000)*8≤281474976710656)) (L5 v0 v1 v2 v3 (zj v12n 1) v13n v38 v39 a' o1 (o0++[v40])) .fail) (.ite (decide (1≤1)&&true&&decide (v13n=length o1)&&decide ((2*(v13n+1)+1000)*8≤281474976710656)) (L5 v0 v1 v2 v3 v12n (zj v13n 1) v38 v39 a' (o1++[v40]) o0) .fail)) .fail) (L6 v0 v1 v2 v3 v12n (take v13n o1) o0):=by kernel_rfl
def L8(v0:List (List UInt8×List UInt8×Bool))(v1:Int)(v2:List UInt8)(v12n:Nat)(v13 v59:List Int)(v60 v61:Int)(o0:List Int):Tr:=re ((stepT GA (L6 [] 0 [] 0 0 [] [])).L) (Ar 92 [(0,.dat (zf (ze zd (ze zd zg))) v0),(1,.dat i64 v1),(2,.dat zd v2),(12,.sl 0 1 0 v12n none),(13,.dat (zf i64) v13),(16,.nil),(59,.dat (zf i64) v59),(60,.dat i64 v60),(61,.dat i64 v61)] [(0,.arr false 3 i64 o0)] 1)
theorem DP(v0:List (List UInt8×List UInt8×Bool))(v1:Int)(v2:List UInt8)(v3:Int)(v12n:Nat)(v13 o0:List Int):stepT GA (L6 v0 v1 v2 v3 v12n v13 o0)=let a':=(length v13:Int);.ite (decide (0≤a')&&decide (a'≤200)&&decide (1≤v3)&&decide (v3≤2147483646)) (L8 v0 v1 v2 v12n v13 (Ck a' v3) ((↑(length (Ck a' v3)):Int)) 0 o0) .fail:=by kernel_rfl
def L9(v0:List (List UInt8×List UInt8×Bool))(v1:Int)(v2:List UInt8)(v13:List Int)(v16n:Nat)(v59:List Int)(v60 v61:Int)(o0:List Int):Tr:=re ((stepT GA (L7 [] 0 [] [] [] 0 0)).L.L.L.L) (Ar 92 [(0,.dat (zf (ze zd (ze zd zg))) v0),(1,.dat i64 v1),(2,.dat zd v2),(12,.nil),(13,.dat (zf i64) v13),(16,.sl 0 1 0 v16n none),(59,.dat (zf i64) v59),(60,.dat i64 v60),(61,.dat i64 v61)] [(0,.arr false 3 i64 o0)] 1)
def Ry(v1:Int)(v16:List Int):Tr:=re ((stepT GA (L7 [] 0 [] [] [] 0 0)).R.L.L) (Ar 92 [(1,.dat i64 v1),(12,.nil),(16,.dat (zf i64) v16)] [] 0)
theorem Dw(v0:List (List UInt8×List UInt8×Bool))(v1:Int)(v2:List UInt8)(v13 v59:List Int)(v60 v61:Int):stepT GA (L7 v0 v1 v2 v13 v59 v60 v61)=.ite (decide (v61<v60)) (.ite (decide (0≤v61)&&decide (v61<(length v59:Int))) (.ite (decide (0≤getD v59 (toNat v61) 0)&&decide (getD v59 (toNat v61) 0<(length v13:Int))) (.ite (decide (1≤1)&&decide (0<1)&&decide ((2*1+1000)*8≤281474976710656)) (L9 v0 v1 v2 v13 1 v59 v60 (zc .i64 (v61+1)) ([getD v13 (toNat (getD v59 (toNat v61) 0)) 0])) .fail) .fail) .fail) (.ite (v2==[(105:UInt8),(110:UInt8),(100:UInt8),(101:UInt8),(120:UInt8)]) (.ite (Kt v0 []) (Ry v1 []) .fail) (Ry v1 [])):=by kernel_rfl
def Zc(v0:List (List UInt8×List UInt8×Bool))(v1:Int)(v2:List UInt8)(v12n:Nat)(v13:List Int)(v16n:Nat)(v59:List Int)(v60 v61:Int)(o1 o0:List Int):Tr:=re ((stepT GA (L8 [] 0 [] 0 [] [] 0 0 [])).L.L.L.L) (Ar 92 [(0,.dat (zf (ze zd (ze zd zg))) v0),(1,.dat i64 v1),(2,.dat zd v2),(12,.sl 0 1 0 v12n none),(13,.dat (zf i64) v13),(16,.sl 1 1 0 v16n none),(59,.dat (zf i64) v59),(60,.dat i64 v60),(61,.dat i64 v61)] [(1,.arr false 3 i64 o1),(0,.arr false 3 i64 o0)] 2)
def Vm(v1:Int)(v12n:Nat)(v16 o0:List Int):Tr:=re ((stepT GA (L8 [] 0 [] 0 [] [] 0 0 [])).R.L.L) (Ar 92 [(1,.dat i64 v1),(12,.sl 0 1 0 v12n none),(16,.dat (zf i64) v16)] [(0,.arr false 3 i64 o0)] 1)
theorem E7(v0:List (List UInt8×List UInt8×Bool))(v1:Int)(v2:List UInt8)(v12n:Nat)(v13 v59:List Int)(v60 v61:Int)(o0:List Int):stepT GA (L8 v0 v1 v2 v12n v13 v59 v60 v61 o0)=.ite (decide (v61<v60)) (.ite (decide (0≤v61)&&decide (v61<(length v59:Int))) (.ite (decide (0≤getD v59 (toNat v61) 0)&&decide (getD v59 (toNat v61) 0<(length v13:Int))) (.ite (decide (1≤1)&&decide (0<1)&&decide ((2*1+1000)*8≤281474976710656)) (Zc v0 v1 v2 v12n v13 1 v59 v60 (zc .i64 (v61+1)) ([getD v13 (toNat (getD v59 (toNat v61) 0)) 0]) o0) .fail) .fail) .fail) (.ite (v2==[(105:UInt8),(110:UInt8),(100:UInt8),(101:UInt8),(120:UInt8)]) (.ite (Kt v0 []) (Vm v1 v12n [] o0) .fail) (Vm v1 v12n [] o0)):=by kernel_rfl
theorem Mg(v0:List (List UInt8×List UInt8×Bool))(v1:Int)(v2:List UInt8)(v13:List Int)(v16n:Nat)(v59:List Int)(v60 v61:Int)(o0:List Int):stepT GA (L9 v0 v1 v2 v13 v16n v59 v60 v61 o0)=.ite (decide (v61<v60)) (.ite (decide (0≤v61)&&decide (v61<(length v59:Int))) (.ite (decide (0≤getD v59 (toNat v61) 0)&&decide (getD v59 (toNat v61) 0<(length v13:Int))) (.ite (decide (1≤1)&&true&&decide (v16n=length o0)&&decide ((2*(v16n+1)+1000)*8≤281474976710656)) (L9 v0 v1 v2 v13 (zj v16n 1) v59 v60 (zc .i64 (v61+1)) (o0++[getD v13 (toNat (getD v59 (toNat v61) 0)) 0])) .fail) .fail) .fail) (.ite (v2==[(105:UInt8),(110:UInt8),(100:UInt8),(101:UInt8),(120:UInt8)]) (.ite (Kt v0 o0&&decide (v16n=length o0)&&true) (Ry v1 (take v16n (BV v0 o0))) .fail) (Ry v1 (take v16n o0))):=by kernel_rfl
theorem Ld(v1:Int)(v16:List Int):stepT GA (Ry v1 v16)=let a':=Cs v1 (length v16:Int);let b':=decide (0≤Cs v1 (length v16:Int));let c':=decide (0≤Cs v1 0);let d':=decide (toNat (Cs v1 0)≤0);.ite (decide (0<length v16)) (.ite (decide ((2*length v16+1000)*8≤281474976710656)) (.ite (b'&&b'&&decide (0≤toNat a')&&decide (toNat a'≤toNat a')&&decide (toNat a'≤zl none (length v16))&&decide (0<zl none (length v16))) (.ite (b'&&true&&true&&decide (toNat a'≤length v16)&&decide (length v16≤zl none (length v16))&&decide (zl none (length v16)≤zl none (length v16))&&true) (.leaf (.tup [.sl 0 1 0 (toNat a') (zT (toNat a')),.sl 0 1 (zj 0 (toNat a')) (zC (length v16) (toNat a')) (zT (zC (zl none (length v16)) (toNat a'))),.dat i64 (0:Int)]) ([(0,.arr false 3 i64 v16)])) .fail) .fail) .fail) (.ite (c'&&c'&&decide (0≤toNat (Cs v1 0))&&decide (toNat (Cs v1 0)≤toNat (Cs v1 0))&&d') (.ite (c'&&true&&d'&&true) (.leaf (.tup [.nil,.nil,.dat i64 (0:Int)]) []) .fail) .fail):=by kernel_rfl
theorem LA(v0:List (List UInt8×List UInt8×Bool))(v1:Int)(v2:List UInt8)(v12n:Nat)(v13:List Int)(v16n:Nat)(v59:List Int)(v60 v61:Int)(o1 o0:List Int):stepT GA (Zc v0 v1 v2 v12n v13 v16n v59 v60 v61 o1 o0)=.ite (decide (v61<v60)) (.ite (decide (0≤v61)&&decide (v61<(length v59:Int))) (.ite (decide (0≤getD v59 (toNat v61) 0)&&decide (getD v59 (toNat v61) 0<(length v13:Int))) (.ite (decide (1≤1)&&true&&decide (v16n=length o1)&&decide ((2*(v16n+1)+1000)*8≤281474976710656)) (Zc v0 v1 v2 v12n v13 (zj v16n 1) v59 v60 (zc .i64 (v61+1)) (o1++[getD v13 (toNat (getD v59 (toNat v61) 0)) 0]) o0) .fail) .fail) .fail) (.ite (v2==[(105:UInt8),(110:UInt8),(100:UInt8),(101:UInt8),(120:UInt8)]) (.ite (Kt v0 o1&&decide (v16n=length o1)&&true) (Vm v1 v12n (take v16n (BV v0 o1)) o0) .fail) (Vm v1 v12n (take v16n o1) o0)):=by kernel_rfl
theorem Sr(v1:Int)(v12n:Nat)(v16 o0:List Int):stepT GA (Vm v1 v12n v16 o0)=let a':=zj v12n (length v16);let b':=Cs v1 (↑a':Int);let c':=decide (0≤Cs v1 (↑a':Int));.ite (decide (v12n=length o0)&&decide ((2*(v12n+length v16)+1000)*8≤281474976710656)) (.ite (c'&&c'&&decide (0≤toNat b')&&decide (toNat b'≤toNat b')&&decide (toNat b'≤zl none a')&&decide (0<zl none a')) (.ite (c'&&true&&true&&decide (toNat b'≤zj v12n (length v16))&&decide (zj v12n (length v16)≤zl none a')&&decide (zl none a'≤zl none a')&&true) (.leaf (.tup [.sl 1 1 0 (toNat b') (zT (toNat b')),.sl 1 1 (zj 0 (toNat b')) (zC a' (toNat b')) (zT (zC (zl none a') (toNat b'))),.dat i64 (0:Int)]) ([(1,.arr false 3 i64 (o0++v16))])) .fail) .fail) .fail:=by kernel_rfl
end T52
namespace T59
def T(l:List (List UInt8×List UInt8×Bool)):Tr:=tree jA false 9 59 (Af ([zf (ze zd (ze zd zg))]) l)
def L1(l:List (List UInt8×List UInt8×Bool))(v3n:Nat)(v8 v9:Int)(o0:List Int):Tr:=re ((T l).L.R.L) (Ar 18 [(3,.sl 0 1 0 v3n none),(8,.dat i64 v8),(9,.dat i64 v9)] [(0,.arr false 3 i64 o0)] 1)
theorem An(l:List (List UInt8×List UInt8×Bool)):T l=let a':=(length l:Int);.ite (DH l) (.ite (AB l !=0) (.leaf (.tup [.nil,.dat i64 (AB l)]) []) (.ite (decide (0≤a')&&decide (a'=a')&&decide (8*toNat a'≤281474976710656)&&decide (a'<9223372036854775808)) (L1 l (toNat a') ((↑(toNat a'):Int)) 0 (replicate (toNat a') 0)) .fail)) .fail:=by kernel_rfl
theorem Ai(l:List (List UInt8×List UInt8×Bool))(v3n:Nat)(v8 v9:Int)(o0:List Int):stepT jA (L1 l v3n v8 v9 o0)=.ite (decide (v9<v8)) (.ite (decide (0≤v9)&&decide (v9<(↑v3n:Int))) (.ite (decide (toNat v9<length o0)) (L1 l v3n v8 (zc .i64 (v9+1)) (set o0 (toNat v9) v9)) .fail) .fail) (.ite (Kt l o0&&decide (v3n=length o0)&&true) (.leaf (.tup [.sl 0 1 0 v3n none,.dat i64 (0:Int)]) ([(0,.arr false (3:Go.TypeId) i64 (BV l o0))])) .fail):=by kernel_rfl
end T59
end
end Go.Pe
end
section
namespace Go.Pe
open Sp
open Go.Det
noncomputable section
open List Int Prod
namespace T129
def T(l:List (List UInt8×List UInt8×Bool))(a:List Int):Tr:=T8 Ku 9 129 LX l a
def L1(l:List (List UInt8×List UInt8×Bool))(a:List Int)(v0n:Nat)(v1 v6 v7 v8:Int)(o1:List (List UInt8×List UInt8×Bool))(o0:List Int):Tr:=re ((T l a)) (Ar 63 [(0,.sl 0 1 0 v0n none),(1,.dat i64 v1),(2,zR (zu 172) [] [.ptr 1 0]),(6,.dat i64 v6),(7,.dat i64 v7),(8,.dat i64 v8)] [(1,.box [.dat (zf (ze zd (ze zd zg))) o1]),(0,.arr false 3 i64 o0)] 2)
theorem An(l:List (List UInt8×List UInt8×Bool))(a:List Int):T l a=L1 l a (length a) ((length a:Int)) 20 0 20 l a:=by kernel_rfl
def L2(l:List (List UInt8×List UInt8×Bool))(a:List Int)(v0n:Nat)(v1 v6 v7 v8:Int)(o1:List (List UInt8×List UInt8×Bool))(o0:List Int)(v0n':Nat)(v1':Int)(v2:Int)(v8':Int)(o1':List (List UInt8×List UInt8×Bool))(o0':List Int):Tr:=re ((stepT Ku (L1 l a v0n v1 v6 v7 v8 o1 o0)).L) (Ar 53 [(0,.sl 0 1 0 v0n' none),(1,.dat i64 v1'),(2,.dat i64 v2),(3,zR (zu 172) [] [.ptr 1 0]),(8,.dat i64 v8')] [(1,.box [.dat (zf (ze zd (ze zd zg))) o1']),(0,.arr false 3 i64 o0')] 2)
def L3(l:List (List UInt8×List UInt8×Bool))(a:List Int)(v0n:Nat)(v1 v6 v7 v8:Int)(o1:List (List UInt8×List UInt8×Bool))(o0:List Int)(v0n':Nat)(v1':Int)(v2:Int)(v8':Int)(o1':List (List UInt8×List UInt8×Bool))(o0':List Int):Tr:=re ((stepT Ku (L1 l a v0n v1 v6 v7 v8 o1 o0)).R) (Ar 53 [(0,.sl 0 1 0 v0n' none),(1,.dat i64 v1'),(2,.dat i64 v2),(3,zR (zu 172) [] [.ptr 1 0]),(8,.dat i64 v8')] [(1,.box [.dat (zf (ze zd (ze zd zg))) o1']),(0,.arr false 3 i64 o0')] 2)
theorem Ai(l:List (List UInt8×List UInt8×Bool))(a:List Int)(v0n:Nat)(v1 v6 v7 v8:Int)(o1:List (List UInt8×List UInt8×Bool))(o0:List Int):stepT Ku (L1 l a v0n v1 v6 v7 v8 o1 o0)=let a':=zc .i64 (v7+1);.ite (decide (v8≤v1)) (L2 l a v0n v1 v6 v7 v8 o1 o0 v0n v7 v8 a' o1 o0) (L3 l a v0n v1 v6 v7 v8 o1 o0 v0n v7 v1 a' o1 o0):=by kernel_rfl
def L5(l:List (List UInt8×List UInt8×Bool))(a:List Int)(v0n:Nat)(v1 v6 v7 v8:Int)(o1:List (List UInt8×List UInt8×Bool))(o0:List Int)(v0n':Nat)(v1':Int)(v2:Int)(v8':Int)(v9:Int)(o1':List (List UInt8×List UInt8×Bool))(o0':List Int):Tr:=re ((stepT Ku (L3 l a v0n v1 v6 v7 v8 o1 o0 0 0 0 0 [] [])).L) (Ar 53 [(0,.sl 0 1 0 v0n' none),(1,.dat i64 v1'),(2,.dat i64 v2),(3,zR (zu 172) [] [.ptr 1 0]),(8,.dat i64 v8'),(9,.dat i64 v9)] [(1,.box [.dat (zf (ze zd (ze zd zg))) o1']),(0,.arr false 3 i64 o0')] 2)
def L6(l:List (List UInt8×List UInt8×Bool))(a:List Int)(v0n:Nat)(v1 v6:Int)(o1:List (List UInt8×List UInt8×Bool))(o0:List Int):Tr:=re ((stepT Ku (L3 l a 0 0 0 0 0 [] [] 0 0 0 0 [] [])).R) (Ar 63 [(0,.sl 0 1 0 v0n none),(1,.dat i64 v1),(2,zR (zu 172) [] [.ptr 1 0]),(6,.dat i64 v6)] [(1,.box [.dat (zf (ze zd (ze zd zg))) o1]),(0,.arr false 3 i64 o0)] 2)
theorem Bm(l:List (List UInt8×List UInt8×Bool))(a:List Int)(v0n:Nat)(v1 v6 v7 v8:Int)(o1:List (List UInt8×List UInt8×Bool))(o0:List Int)(v0n':Nat)(v1':Int)(v2:Int)(v8':Int)(o1':List (List UInt8×List UInt8×Bool))(o0':List Int):stepT Ku (L3 l a v0n v1 v6 v7 v8 o1 o0 v0n' v1' v2 v8' o1' o0')=.ite (decide (v8'<v2)) (L5 l a v0n v1 v6 v7 v8 o1 o0 v0n' v1' v2 v8' v8' o1' o0') (L6 l a v0n v1 v6 o1' o0'):=by kernel_rfl
theorem CZ(l:List (List UInt8×List UInt8×Bool))(a:List Int)(v0n:Nat)(v1 v6 v7 v8:Int)(o1:List (List UInt8×List UInt8×Bool))(o0:List Int)(v0n':Nat)(v1':Int)(v2:Int)(v8':Int)(v9:Int)(o1':List (List UInt8×List UInt8×Bool))(o0':List Int):stepT Ku (L5 l a v0n v1 v6 v7 v8 o1 o0 v0n' v1' v2 v8' v9 o1' o0')=let b':=fst (snd (getD o1' (toNat (getD o0' (toNat v9) 0)) ([],[],false)));let c':=zc .i64 (v9-1);let d':=decide (0≤zc .i64 (v9-1))&&decide (zc .i64 (v9-1)<(↑v0n':Int));let e':=decide (0≤v9)&&decide (v9<(↑v0n':Int));let f':=L3 l a v0n v1 v6 v7 v8 o1 o0 v0n' v1' v2 (zc .i64 (v8'+1)) o1' o0';let g':=decide (toNat v9<length o0');let h':=((Mn b',Ln b'),JN b',JU b');let j':=getD o0' (toNat c') 0;let k':=decide (toNat c'<length o0');let a':=fst (snd (getD o1' (toNat j') ([],[],false)));let i':=((Mn a',Ln a'),JN a',JU a');.ite (decide (v9>v1')) (.ite e' (.ite g' (.ite d' (.ite k' (.ite (decide (0≤getD o0' (toNat v9) 0)&&decide (getD o0' (toNat v9) 0<(↑(length o1'):Int))) (.ite (decide (0≤getD o0' (toNat c') 0)&&decide (getD o0' (toNat c') 0<(↑(length o1'):Int))) (.ite (IU b') (.ite (IU a') (.ite (Mb h'&&Mb i') (.ite (decide (SF h' i'<0)) (.ite d' (.ite k' (.ite e' (.ite g' (.ite e' (.ite g' (.ite d' (.ite (decide (toNat c'<length (set o0' (toNat v9) j'))) (L5 l a v0n v1 v6 v7 v8 o1 o0 v0n' v1' v2 v8' c' o1' (set (set o0' (toNat v9) j') (toNat c') (getD o0' (toNat v9) 0))) .fail) .fail) .fail) .fail) .fail) .fail) .fail) .fail) f') .fail) .fail) .fail) .fail) .fail) .fail) .fail) .fail) .fail) f':=by kernel_rfl
def L7(l:List (List UInt8×List UInt8×Bool))(a:List Int)(v0n:Nat)(v1 v6 v7 v8:Int)(o1:List (List UInt8×List UInt8×Bool))(o0:List Int):Tr:=re ((stepT Ku (L6 l a 0 0 0 [] [])).L) (Ar 63 [(0,.sl 0 1 0 v0n none),(1,.dat i64 v1),(2,zR (zu 172) [] [.ptr 1 0]),(6,.dat i64 v6),(7,.dat i64 v7),(8,.dat i64 v8)] [(1,.box [.dat (zf (ze zd (ze zd zg))) o1]),(0,.arr false 3 i64 o0)] 2)
theorem DP(l:List (List UInt8×List UInt8×Bool))(a:List Int)(v0n:Nat)(v1 v6:Int)(o1:List (List UInt8×List UInt8×Bool))(o0:List Int):stepT Ku (L6 l a v0n v1 v6 o1 o0)=.ite (decide (v6<v1)) (L7 l a v0n v1 v6 0 (zc .i64 (2*v6)) o1 o0) (.leaf (.tup []) ([(1,.box [.dat (zf (ze zd (ze zd zg))) o1]),(0,.arr false 3 i64 o0)])):=by kernel_rfl
end T129
namespace T129z
def T(l:List (List UInt8×List UInt8×Bool)):Tr:=OT Ku 9 129 LX l
def L1(l:List (List UInt8×List UInt8×Bool))(v1 v6 v7 v8:Int)(o0:List (List UInt8×List UInt8×Bool)):Tr:=re ((T l)) (Ar 63 [(0,.nil),(1,.dat i64 v1),(2,zR (zu 172) [] [.ptr 0 0]),(6,.dat i64 v6),(7,.dat i64 v7),(8,.dat i64 v8)] [(0,.box [.dat (zf (ze zd (ze zd zg))) o0])] 1)
theorem An(l:List (List UInt8×List UInt8×Bool)):T l=L1 l 0 20 0 20 l:=by kernel_rfl
def L2(l:List (List UInt8×List UInt8×Bool))(v1 v6 v7 v8:Int)(o0:List (List UInt8×List UInt8×Bool))(v1':Int)(v2:Int)(v8':Int)(o0':List (List UInt8×List UInt8×Bool)):Tr:=re ((stepT Ku (L1 l v1 v6 v7 v8 o0)).L) (Ar 53 [(0,.nil),(1,.dat i64 v1'),(2,.dat i64 v2),(3,zR (zu 172) [] [.ptr 0 0]),(8,.dat i64 v8')] [(0,.box [.dat (zf (ze zd (ze zd zg))) o0'])] 1)
def L3(l:List (List UInt8×List UInt8×Bool))(v1 v6 v7 v8:Int)(o0:List (List UInt8×List UInt8×Bool))(v1':Int)(v2:Int)(v8':Int)(o0':List (List UInt8×List UInt8×Bool)):Tr:=re ((stepT Ku (L1 l v1 v6 v7 v8 o0)).R) (Ar 53 [(0,.nil),(1,.dat i64 v1'),(2,.dat i64 v2),(3,zR (zu 172) [] [.ptr 0 0]),(8,.dat i64 v8')] [(0,.box [.dat (zf (ze zd (ze zd zg))) o0'])] 1)
theorem Ai(l:List (List UInt8×List UInt8×Bool))(v1 v6 v7 v8:Int)(o0:List (List UInt8×List UInt8×Bool)):stepT Ku (L1 l v1 v6 v7 v8 o0)=.ite (decide (v8≤v1)) (L2 l v1 v6 v7 v8 o0 v7 v8 (zc .i64 (v7+1)) o0) (L3 l v1 v6 v7 v8 o0 v7 v1 (zc .i64 (v7+1)) o0):=by kernel_rfl
def L5(l:List (List UInt8×List UInt8×Bool))(v1 v6 v7 v8:Int)(o0:List (List UInt8×List UInt8×Bool))(v1':Int)(v2:Int)(v8':Int)(v9:Int)(o0':List (List UInt8×List UInt8×Bool)):Tr:=re ((stepT Ku (L3 l v1 v6 v7 v8 o0 0 0 0 [])).L) (Ar 53 [(0,.nil),(1,.dat i64 v1'),(2,.dat i64 v2),(3,zR (zu 172) [] [.ptr 0 0]),(8,.dat i64 v8'),(9,.dat i64 v9)] [(0,.box [.dat (zf (ze zd (ze zd zg))) o0'])] 1)
def L6(l:List (List UInt8×List UInt8×Bool))(v1 v6:Int)(o0:List (List UInt8×List UInt8×Bool)):Tr:=re ((stepT Ku (L3 l 0 0 0 0 [] 0 0 0 [])).R) (Ar 63 [(0,.nil),(1,.dat i64 v1),(2,zR (zu 172) [] [.ptr 0 0]),(6,.dat i64 v6)] [(0,.box [.dat (zf (ze zd (ze zd zg))) o0])] 1)
theorem Bm(l:List (List UInt8×List UInt8×Bool))(v1 v6 v7 v8:Int)(o0:List (List UInt8×List UInt8×Bool))(v1':Int)(v2:Int)(v8':Int)(o0':List (List UInt8×List UInt8×Bool)):stepT Ku (L3 l v1 v6 v7 v8 o0 v1' v2 v8' o0')=.ite (decide (v8'<v2)) (L5 l v1 v6 v7 v8 o0 v1' v2 v8' v8' o0') (L6 l v1 v6 o0'):=by kernel_rfl
def L7(l:List (List UInt8×List UInt8×Bool))(v1 v6 v7 v8:Int)(o0:List (List UInt8×List UInt8×Bool)):Tr:=re ((stepT Ku (L6 l 0 0 [])).L) (Ar 63 [(0,.nil),(1,.dat i64 v1),(2,zR (zu 172) [] [.ptr 0 0]),(6,.dat i64 v6),(7,.dat i64 v7),(8,.dat i64 v8)] [(0,.box [.dat (zf (ze zd (ze zd zg))) o0])] 1)
theorem DP(l:List (List UInt8×List UInt8×Bool))(v1 v6:Int)(o0:List (List UInt8×List UInt8×Bool)):stepT Ku (L6 l v1 v6 o0)=.ite (decide (v6<v1)) (L7 l v1 v6 0 (zc .i64 (2*v6)) o0) (.leaf (.tup []) ([(0,.box [.dat (zf (ze zd (ze zd zg))) o0])])):=by kernel_rfl
end T129z
end
noncomputable section
open List Int Prod
namespace T140
def T(l:List (List UInt8×List UInt8×Bool))(a:List Int):Tr:=tree Vs false 9 140 (Af ([zf (ze zd (ze zd zg)),zf i64]) (l,a))
def L1(v0:List (List UInt8×List UInt8×Bool))(v1:List Int)(v6:Int):Tr:=re ((T [] [])) (Ar 57 [(0,.dat (zf (ze zd (ze zd zg))) v0),(1,.dat (zf i64) v1),(5,.nil),(6,.dat i64 v6)] [] 0)
theorem An(l:List (List UInt8×List UInt8×Bool))(a:List Int):T l a=L1 l a 0:=by kernel_rfl
def L2(v0:List (List UInt8×List UInt8×Bool))(v1:List Int)(v6 v7:Int):Tr:=re ((stepT Vs (L1 [] [] 0)).L) (Ar 57 [(0,.dat (zf (ze zd (ze zd zg))) v0),(1,.dat (zf i64) v1),(5,.nil),(6,.dat i64 v6),(7,.dat i64 v7)] [] 0)
theorem Ai(v0:List (List UInt8×List UInt8×Bool))(v1:List Int)(v6:Int):stepT Vs (L1 v0 v1 v6)=.ite (decide (v6<(length v1:Int))) (L2 v0 v1 v6 0) (.leaf .nil []):=by kernel_rfl
def L3(v0:List (List UInt8×List UInt8×Bool))(v1:List Int)(v5n:Nat)(v6:Int)(o0:List Int):Tr:=re ((stepT Vs (L2 [] [] 0 0)).R.L.L.L.L.L.L) (Ar 57 [(0,.dat (zf (ze zd (ze zd zg))) v0),(1,.dat (zf i64) v1),(5,.sl 0 1 0 v5n none),(6,.dat i64 v6)] [(0,.arr false 3 i64 o0)] 1)
theorem AM(v0:List (List UInt8×List UInt8×Bool))(v1:List Int)(v6 v7:Int):stepT Vs (L2 v0 v1 v6 v7)=.ite (decide (v7>0)) .fail (.ite (decide (0≤v7)&&decide (0≤toNat v7)&&decide (toNat v7≤0)) (.ite (decide (0≤v6)&&decide (v6<(length v1:Int))) (.ite (decide (0≤v7)&&true&&decide (toNat v7≤0)&&true) (.ite true (.ite (decide (1≤1)&&true&&true&&decide ((2*(0+1)+1000)*8≤281474976710656)) (.ite (decide (zj 0 1=length ([]++[]++[getD v1 (toNat v6) 0]))&&decide ((2*zj 0 1+1000)*8≤281474976710656)) (L3 v0 v1 1 (zc .i64 (v6+1)) ([]++[]++[getD v1 (toNat v6) 0]++[])) .fail) .fail) .fail) .fail) .fail) .fail):=by kernel_rfl
def L4(v0:List (List UInt8×List UInt8×Bool))(v1:List Int)(v5n:Nat)(v6 v7:Int)(o0:List Int):Tr:=re ((stepT Vs (L3 [] [] 0 0 [])).L) (Ar 57 [(0,.dat (zf (ze zd (ze zd zg))) v0),(1,.dat (zf i64) v1),(5,.sl 0 1 0 v5n none),(6,.dat i64 v6),(7,.dat i64 v7)] [(0,.arr false 3 i64 o0)] 1)
theorem Bm(v0:List (List UInt8×List UInt8×Bool))(v1:List Int)(v5n:Nat)(v6:Int)(o0:List Int):stepT Vs (L3 v0 v1 v5n v6 o0)=.ite (decide (v6<(length v1:Int))) (L4 v0 v1 v5n v6 ((↑v5n:Int)) o0) (.leaf (.sl 0 1 0 v5n none) ([(0,.arr false 3 i64 o0)])):=by kernel_rfl
theorem BB(v0:List (List UInt8×List UInt8×Bool))(v1:List Int)(v5n:Nat)(v6 v7:Int)(o0:List Int):stepT Vs (L4 v0 v1 v5n v6 v7 o0)=let b':=zc .i64 (v7-1);let c':=length (take (toNat v7) o0);let e':=fst (snd (getD v0 (toNat (getD v1 (toNat v6) 0)) ([],[],false)));let g':=decide (zl none v5n≤zl none v5n);let h':=decide (0≤v6)&&decide (v6<(length v1:Int));let i':=drop (zj 0 (toNat v7)) o0;let k':=zC v5n (toNat v7);let d':=fst (snd (getD v0 (toNat (getD o0 (toNat b') 0)) ([],[],false)));let f':=take k' i';let j':=zj 0 c';let a':Tr:=.ite (decide (0≤v7)&&true&&decide (0≤toNat v7)&&decide (toNat v7≤zl none v5n)&&g'&&true) (.ite h' (.ite (decide (0≤v7)&&true&&true&&decide (toNat v7≤v5n)&&decide (v5n≤zl none v5n)&&g'&&true) (.ite (decide (0+toNat v7≤length o0)&&true&&true&&decide ((2*(0+length (take (toNat v7) o0))+1000)*8≤281474976710656)) (.ite (decide (1≤1)&&true&&decide (zj 0 c'=length ([]++take (toNat v7) o0))&&decide ((2*(zj 0 c'+1)+1000)*8≤281474976710656)) (.ite (decide (zj 0 (toNat v7)+zC v5n (toNat v7)≤length o0)&&true&&decide (zj j' 1=length ([]++take (toNat v7) o0++[getD v1 (toNat v6) 0]))&&decide ((2*(zj j' 1+length f')+1000)*8≤281474976710656)) (L3 v0 v1 (zj (zj j' 1) (length f')) (zc .i64 (v6+1)) ([]++take (toNat v7) o0++[getD v1 (toNat v6) 0]++take k' i')) .fail) .fail) .fail) .fail) .fail) .fail;.ite (decide (v7>0)) (.ite (decide (0≤zc .i64 (v7-1))&&decide (zc .i64 (v7-1)<(↑v5n:Int))) (.ite (decide (toNat b'<length o0)) (.ite (decide (0≤getD o0 (toNat b') 0)&&decide (getD o0 (toNat b') 0<(length v0:Int))) (.ite h' (.ite (decide (0≤getD v1 (toNat v6) 0)&&decide (getD v1 (toNat v6) 0<(length v0:Int))) (.ite (Sp.A1 d'&&Sp.A1 e') (.ite (decide (Sp.Dx d' e'>0)) (L4 v0 v1 v5n v6 b' o0) a') .fail) .fail) .fail) .fail) .fail) .fail) a':=by kernel_rfl
end T140
end
noncomputable section
noncomputable def cF:As:=⟨[i64],fun n=>Sp.F4 n,[O2],fun n=>(((n:Int),Sp.Dz n),((1:Int),Sp.Dz 1)),false⟩
noncomputable def kJ:AX:=X7 [(184,P9)]
noncomputable def Yx:AX:=bT [(135,[1])] [(135,[(1,[(2,E3)])])] [(135,[(1,[1,2])])] ((136,E5)::(137,V5)::(138,Wk)::(139,cF)::(184,P9)::iY)
end
end Go.Pe
end
section
namespace Go.Pe
open Sp
open Go.Det
noncomputable section
open List Int Prod
namespace T60
def T(l:List (List UInt8×List UInt8×Bool)):Tr:=tree Yx false 9 60 (Af ([zf (ze zd (ze zd zg))]) l)
def L1(l:List (List UInt8×List UInt8×Bool))(v8:List (List UInt8×List UInt8×Bool))(v9 v10:Int)(o0:List (List UInt8×Bool)):Tr:=re ((T l).R) (Ar 21 [(1,zR (zu 135) [] [.ptr 1 0]),(8,.dat (zf (ze zd (ze zd zg))) v8),(9,.dat i64 v9),(10,.dat i64 v10)] [(1,.box [PV.mp 0]),(0,Obj.map zd zg o0)] 2)
theorem An(l:List (List UInt8×List UInt8×Bool)):T l=.ite (decide ((length l:Int)>200)) (.leaf (.dat i64 (5:Int)) []) (L1 l l ((length l:Int)) 0 []):=by kernel_rfl
def L2(l:List (List UInt8×List UInt8×Bool))(v8:List (List UInt8×List UInt8×Bool))(v9 v10:Int)(o0:List (List UInt8×Bool))(v2:List UInt8×List UInt8×Bool)(o2 o2_1:List UInt8)(o2_2:Bool)(o0':List (List UInt8×Bool)):Tr:=re ((stepT Yx (L1 l v8 v9 v10 o0)).L.L) (Ar 32 [(1,.ptr 1 0),(2,PV.dptr (ze zd (ze zd zg)) v2 0)] [(2,.box [.dat zd o2,.dat zd o2_1,.dat zg o2_2]),(1,.box [PV.mp 0]),(0,Obj.map zd zg o0')] 3)
theorem Ai(l:List (List UInt8×List UInt8×Bool))(v8:List (List UInt8×List UInt8×Bool))(v9 v10:Int)(o0:List (List UInt8×Bool)):stepT Yx (L1 l v8 v9 v10 o0)=let a':=getD v8 (toNat v10) ([],[],false);.ite (decide (v10<v9)) (.ite (decide (0≤v10)&&decide (v10<(length v8:Int))) (L2 l v8 v9 v10 o0 ((fst a',fst (snd a'),snd (snd a'))) (fst a') (fst (snd a')) (snd (snd a')) o0) .fail) (.leaf (.dat i64 (0:Int)) ([(1,.box [PV.mp 0]),(0,Obj.map zd zg o0)])):=by kernel_rfl
theorem AM(l:List (List UInt8×List UInt8×Bool))(v8:List (List UInt8×List UInt8×Bool))(v9 v10:Int)(o0:List (List UInt8×Bool))(v2:List UInt8×List UInt8×Bool)(o2 o2_1:List UInt8)(o2_2:Bool)(o0':List (List UInt8×Bool)):stepT Yx (L2 l v8 v9 v10 o0 v2 o2 o2_1 o2_2 o0')=let c':=zl (D1 zd zg (fst v2) o0') false;let d':=fst (snd v2);let f':=!Sp.isName (fst v2);let g':=H4 zd zg (fst v2) true o0';let i':=((54,Dz 54),1,Dz 1);let j':=decide (2≤2)&&true&&decide (2≤1000000);let k':=(((-10),Dz (-10)),1,Dz 1);let l':=zL (zt zh);let a':=[(zj (zj 3 1) 1,.box [.dat i64 (Mn d'),.dat l' (Ln d'),.dat i64 (JN d'),.dat l' (JU d')]),(zj 3 1,.arr false 25 i64 [zz [Ew f' 8,Ew c' 9],Bk d']),(3,.arr false 25 i64 [Ew f' 8,Ew c' 9]),(2,.box [.dat zd o2,.dat zd o2_1,.dat zg o2_2]),(1,.box [PV.mp 0]),(0,Obj.map zd zg g')];let b':=((Mn d',Ln d'),JN d',JU d');let e':=L1 l v8 v9 (zc .i64 (v10+1)) g';let h':=zz [zz [Ew f' 8,Ew c' 9],Bk d'] !=0;let m':=decide (SF b' i'>0);.ite (decide (length (fst v2)≤1000000)) (.ite true (.ite true (.ite j' (.ite (decide (length d'≤1000000)) (.ite j' (.ite h' (.ite h' (.leaf (.dat i64 (zz [zz [Ew f' 8,Ew c' 9],Bk d'])) ([(zj 3 1,.arr false 25 i64 [zz [Ew f' 8,Ew c' 9],Bk d']),(3,.arr false 25 i64 [Ew f' 8,Ew c' 9]),(2,.box [.dat zd o2,.dat zd o2_1,.dat zg o2_2]),(1,.box [PV.mp 0]),(0,Obj.map zd zg g')])) e') (.ite (IU d') (.ite true (.ite (Mb b'&&Mb k') (.ite (decide (SF b' k'<0)) (.ite true (.ite true (.leaf (.dat i64 (Ew true 3)) a') e') .fail) (.ite true (.ite (Mb b'&&Mb i') (.ite true (.ite (Ew m' 3 !=0) (.leaf (.dat i64 (Ew m' 3)) a') e') .fail) .fail) .fail)) .fail) .fail) .fail)) .fail) .fail) .fail) .fail) .fail) .fail:=by kernel_rfl
end T60
end
end Go.Pe
end
section
namespace Go.Pe
open Sp
open Go.Det
noncomputable section
open List Int Prod
namespace T139
def T(n:Int):Tr:=tree kJ false 9 139 (Af ([zt zp]) n)
theorem An(n:Int):T n=let a':=zL (zt zh);.ite true (.ite true (.leaf (PV.agg [.dat i64 n,.dat a' (Dz n),.dat i64 (1:Int),.dat a' (Dz 1)]) ([(zj (zj 0 1) 1,.box [.dat i64 n,.dat a' (Dz n),.dat i64 (1:Int),.dat a' (Dz 1)]),(zj 0 1,.box [.dat i64 n,.dat a' (Dz n)]),(0,.box [.dat i64 n,.dat a' (Dz n),.dat i64 (1:Int),.dat a' (Dz 1)])])) .fail) .fail:=by kernel_rfl
end T139
end
end Go.Pe
end
section
namespace Go.Pe
open Sp
open Go.Det
noncomputable section
open List Int Prod
namespace T50
def T(l:List (List UInt8×List UInt8×Bool))(n:Int):Tr:=tree VE false 9 50 (Af ([zf (ze zd (ze zd zg)),zt zp]) (l,n))
def L1(v0:List (List UInt8×List UInt8×Bool))(v5:Int):Tr:=re ((T [] 0).L.R.R) (Ar 42 [(0,.dat (zf (ze zd (ze zd zg))) v0),(5,.dat i64 v5)] [] 0)
theorem An(l:List (List UInt8×List UInt8×Bool))(n:Int):T l n=let b':=(length l:Int);let a':Tr:=.ite (decide (b'>205)) (.leaf (.bl false) []) (L1 l 0);.ite (decide (b'>n)) (.ite (decide (b'≤200)) (.leaf (.bl false) []) a') a':=by kernel_rfl
theorem Ai(v0:List (List UInt8×List UInt8×Bool))(v5:Int):stepT VE (L1 v0 v5)=let a':=decide (v5<(length v0:Int));let b':=getD v0 (toNat v5) ([],[],false);.ite (a') (.ite (decide (0≤v5)&&a') (.ite (decide ((↑(length (fst b')):Int)>40)) (.leaf (.bl false) []) (.ite (decide (0≤v5)&&a') (.ite (decide (0≤6)&&decide (6≤1000)) (.ite (!Bp (fst (snd b')) 6) (.leaf (.bl false) []) (L1 v0 (zc .i64 (v5+1)))) .fail) .fail)) .fail) (.leaf (.bl true) []):=by kernel_rfl
end T50
namespace T127
def T(l:List (List UInt8×List UInt8×Bool)):Tr:=tree VE false 9 127 (Af ([zf (ze zd (ze zd zg))]) l)
def L1(v0:List (List UInt8×List UInt8×Bool))(v4:Int):Tr:=re ((T [])) (Ar 20 [(0,.dat (zf (ze zd (ze zd zg))) v0),(3,.nil),(4,.dat i64 v4)] [] 0)
theorem An(l:List (List UInt8×List UInt8×Bool)):T l=L1 l 0:=by kernel_rfl
def L2(v0:List (List UInt8×List UInt8×Bool))(v3n:Nat)(v4:Int)(o0:List (List UInt8)):Tr:=re ((stepT VE (L1 [] 0)).L.L.L) (Ar 20 [(0,.dat (zf (ze zd (ze zd zg))) v0),(3,.sl 0 1 0 v3n none),(4,.dat i64 v4)] [(0,.arr false 9 zd o0)] 1)
theorem Ai(v0:List (List UInt8×List UInt8×Bool))(v4:Int):stepT VE (L1 v0 v4)=let a':=decide (v4<(length v0:Int));.ite (a') (.ite (decide (0≤v4)&&a') (.ite (decide (1≤1)&&decide (0<1)&&decide ((2*1+1000)*16≤281474976710656)) (L2 v0 1 (zc .i64 (v4+1)) ([fst (getD v0 (toNat v4) ([],[],false))])) .fail) .fail) (.leaf .nil []):=by kernel_rfl
theorem AM(v0:List (List UInt8×List UInt8×Bool))(v3n:Nat)(v4:Int)(o0:List (List UInt8)):stepT VE (L2 v0 v3n v4 o0)=let a':=decide (v4<(length v0:Int));.ite (a') (.ite (decide (0≤v4)&&a') (.ite (decide (1≤1)&&true&&decide (v3n=length o0)&&decide ((2*(v3n+1)+1000)*16≤281474976710656)) (L2 v0 (zj v3n 1) (zc .i64 (v4+1)) (o0++[fst (getD v0 (toNat v4) ([],[],false))])) .fail) .fail) (.leaf (.sl 0 1 0 v3n none) ([(0,.arr false 9 zd o0)])):=by kernel_rfl
end T127
namespace T51
def T(l:List (List UInt8×List UInt8×Bool)):Tr:=tree fT false 9 51 (Af ([zf (ze zd (ze zd zg))]) l)
def L1(v0:List (List UInt8×List UInt8×Bool))(v3:List (List UInt8))(v4:Int):Tr:=re ((T []).R.L) (Ar 51 [(0,.dat (zf (ze zd (ze zd zg))) v0),(3,.dat (zf zd) v3),(4,.dat i64 v4)] [] 0)
theorem An(l:List (List UInt8×List UInt8×Bool)):T l=.ite (decide ((length l:Int)>200)) (.leaf (.dat i64 (5:Int)) []) (.ite (DH l) (L1 l (B2 l) 0) .fail):=by kernel_rfl
theorem Ai(v0:List (List UInt8×List UInt8×Bool))(v3:List (List UInt8))(v4:Int):stepT fT (L1 v0 v3 v4)=let a':=fst (snd (getD v0 (toNat v4) ([],[],false)));let b':=L1 v0 v3 (zc .i64 (v4+1));let f':=([45,49,48]:List UInt8);let g':=getD v3 (toNat v4) [];let h':=([53,52]:List UInt8);let j':=take (toNat v4) v3;let m':=decide (v4<(length v0:Int));let c':=decide (0≤v4)&&m';let d':Tr:=.ite (CX j' g' !=0) (.leaf (.dat i64 (CX j' g')) []) b';let e':Tr:=.ite true (.leaf (.dat i64 (3:Int)) []) b';let i':Tr:=.ite (Bk a' !=0) (.leaf (.dat i64 (Bk a')) []) b';let k':=A1 a'&&A1 f';let l':=A1 a'&&A1 h';let n':=decide (Dx a' f'<0);let o':=decide (Dx a' h'>0);.ite (m') (.ite (Yg v3&&decide (0≤v4)&&decide (v4<(length v3:Int))) (.ite (CX j' g'==0) (.ite c' (.ite (decide (length a'≤1000000)) (.ite (Bk a'==0) (.ite c' (.ite k' (.ite n' e' (.ite c' (.ite l' (.ite o' e' i') .fail) .fail)) .fail) .fail) i') .fail) .fail) (.ite (CX j' g'==0) (.ite c' (.ite k' (.ite n' e' (.ite c' (.ite l' (.ite o' e' d') .fail) .fail)) .fail) .fail) d')) .fail) (.leaf (.dat i64 (0:Int)) []):=by kernel_rfl
end T51
end
end Go.Pe
end
section
namespace Go.Pe
open Sp
open Go.Det
noncomputable section
open List Int Prod
namespace T212
def T(n d:Int):Tr:=tree iX false 9 212 (Af ([zt zp,zt zp]) (n,d))
theorem An(n d:Int):T n d=let b':=zc .i64 (0-n);let g':Tr:=.ite (F4 n) (.ite (F4 d) (.ite false (.leaf (.dat zd []) []) .fail) .fail) .fail;let p':=zc .i64 (0-d);let e':=Sp.gI (imax n b') d;let j':=imax b' (zc .i64 (0-zc .i64 (0-n)));let w':=decide (Sp.gI (imax n b') d≠0);let a':=Sp.gI j' p';let t':=zG d e';let z':=zG n e';let b'':=decide (Sp.gI j' p'≠0);let f':=zG p' a';let k':=decide (0≤zc .i64 t')&&decide (zc .i64 t'<9223372036854775808)&&decide (0≤1)&&decide (1≤20);let n':=zc .i64 (0-zc .i64 z');let o':=zc .i64 t';let r':=zc .i64 z';let v':=decide (zc .i64 t'>1);let x':=zG b' a';let c':=imax r' n';let i':=decide (0≤imax r' n')&&decide (imax r' n'<9223372036854775808)&&decide (0≤1)&&decide (1≤20);let l':=zc .i64 (0-zc .i64 x');let m':=decide (0≤zc .i64 f')&&decide (zc .i64 f'<9223372036854775808)&&decide (0≤1)&&decide (1≤20);let q':=zc .i64 x';let s':=zc .i64 f';let u':=decide (zc .i64 f'>1);let d':=imax q' l';let h':=decide (0≤imax q' l')&&decide (imax q' l'<9223372036854775808)&&decide (0≤1)&&decide (1≤20);let a'':=[(45:UInt8)]++B0 c' 1;let y':=[(45:UInt8)]++B0 d' 1;.ite (decide (n<(-4000000000000000000))) g' (.ite (decide (n>4000000000000000000)) g' (.ite (decide (d<(-4000000000000000000))) g' (.ite (decide (d>4000000000000000000)) g' (.ite (decide (d<0)) (.ite (UB j' p') (.ite b'' (.ite b'' (.ite (decide (zc .i64 x'<0)) (.ite h' (.ite (decide (1+length (B0 d' 1)≤4611686018427387904)) (.ite u' (.ite (decide (length y'+1≤4611686018427387904)) (.ite m' (.ite (decide (length ([(45:UInt8)]++B0 d' 1++[(47:UInt8)])+length (B0 s' 1)≤4611686018427387904)) (.leaf (.dat zd ([(45:UInt8)]++B0 d' 1++[(47:UInt8)]++B0 s' 1)) []) .fail) .fail) .fail) (.leaf (.dat zd y') [])) .fail) .fail) (.ite h' (.ite (decide (0+length (B0 d' 1)≤4611686018427387904)) (.ite u' (.ite (decide (length ([]++B0 d' 1)+1≤4611686018427387904)) (.ite m' (.ite (decide (length ([]++B0 d' 1++[(47:UInt8)])+length (B0 s' 1)≤4611686018427387904)) (.leaf (.dat zd ([]++B0 d' 1++[(47:UInt8)]++B0 s' 1)) []) .fail) .fail) .fail) (.leaf (.dat zd ([]++B0 d' 1)) [])) .fail) .fail)) .fail) .fail) .fail) (.ite (UB (imax n b') d) (.ite w' (.ite w' (.ite (decide (zc .i64 z'<0)) (.ite i' (.ite (decide (1+length (B0 c' 1)≤4611686018427387904)) (.ite v' (.ite (decide (length a''+1≤4611686018427387904)) (.ite k' (.ite (decide (length ([(45:UInt8)]++B0 c' 1++[(47:UInt8)])+length (B0 o' 1)≤4611686018427387904)) (.leaf (.dat zd ([(45:UInt8)]++B0 c' 1++[(47:UInt8)]++B0 o' 1)) []) .fail) .fail) .fail) (.leaf (.dat zd a'') [])) .fail) .fail) (.ite i' (.ite (decide (0+length (B0 c' 1)≤4611686018427387904)) (.ite v' (.ite (decide (length ([]++B0 c' 1)+1≤4611686018427387904)) (.ite k' (.ite (decide (length ([]++B0 c' 1++[(47:UInt8)])+length (B0 o' 1)≤4611686018427387904)) (.leaf (.dat zd ([]++B0 c' 1++[(47:UInt8)]++B0 o' 1)) []) .fail) .fail) .fail) (.leaf (.dat zd ([]++B0 c' 1)) [])) .fail) .fail)) .fail) .fail) .fail))))):=by kernel_rfl
end T212
namespace T173
def T(a b:List UInt8):Tr:=tree jF false 9 173 (Af ([zd,zd]) (a,b))
theorem An(a b:List UInt8):T a b=let a':Tr:=.ite (IU a) (.ite (IU b) (.ite false (.ite false (.ite false (.ite false (.ite false (.leaf (.dat zd []) ([(zj (zj (zj 0 1) 1) 1,.box [.dat zg (Hd b),.dat (zf i64) (Fv b)]),(zj (zj 0 1) 1,.box [.dat zg (GO b),.dat (zf i64) (Fo b)]),(zj 0 1,.box [.dat zg (Hd a),.dat (zf i64) (Fv a)]),(0,.box [.dat zg (GO a),.dat (zf i64) (Fo a)])])) .fail) .fail) .fail) .fail) .fail) .fail) .fail;let b':=zc .i64 (zc .i64 (A0 a*AJ b)+zc .i64 (A0 b*AJ a));let c':=zc .i64 (AJ a*AJ b);.ite (Gg a) (.ite (Gg b) (.ite true (.ite true (.ite (gJ b' c') (.leaf (.dat zd (fO b' c')) []) .fail) a') a') .fail) .fail:=by kernel_rfl
end T173
namespace T131
def T(a b:List UInt8):Tr:=tree jS false 9 131 (Af ([zd,zd]) (a,b))
theorem An(a b:List UInt8):T a b=.ite (decide (length b≤1000000)) (.ite (A1 a&&A1 (Jd b)) (.leaf (.dat zd (Pp a (Jd b))) []) .fail) .fail:=by kernel_rfl
end T131
namespace T55
def T(a b:List UInt8):Tr:=tree jH false 9 55 (Af ([zd,zd]) (a,b))
theorem An(a b:List UInt8):T a b=.ite (A1 a&&A1 b) (.ite (decide (length (Pp a (Jd b))≤1000000)) (.leaf (.dat i64 (FG (Pp a (Jd b)))) []) .fail) .fail:=by kernel_rfl
end T55
end
end Go.Pe
end
section
namespace Go.Pe
open Sp
open Go.Det
noncomputable section
open List Int Prod
namespace T272
def T(a b:Int):Tr:=tree HZ false 9 272 (Af ([zt zp,zt zp]) (a,b))
def L1(v0 v1:Int):Tr:=re ((T 0 0)) (Ar 12 [(0,.dat i64 v0),(1,.dat i64 v1)] [] 0)
theorem An(a b:Int):T a b=L1 a b:=by kernel_rfl
theorem Ai(v0 v1:Int):stepT HZ (L1 v0 v1)=.ite (decide (v1>0)) (.ite (decide (v1≠0)) (L1 v1 (zU v0 v1)) .fail) (.leaf (.dat i64 v0) []):=by kernel_rfl
end T272
namespace T211
def T(a:List UInt8):Tr:=tree M3 false 9 211 (Af ([zd]) a)
def L1(v5:List UInt8)(v6:Bool):Tr:=re ((T []).R.L.L) (Ar 54 [(5,.dat zd v5),(6,.dat zg v6)] [] 0)
def L2(v5:List UInt8):Tr:=re ((T []).R.R) (Ar 54 [(5,.dat zd v5),(6,.bl false)] [] 0)
theorem An(a:List UInt8):T a=let a':=(length a:Int);.ite (decide (a'>20)) (.leaf (.tup [.dat i64 (0:Int),.dat i64 (0:Int),.bl false]) []) (.ite (decide (a'>0)) (.ite (decide (0<a')) (L1 a ((↑(zJ (getD a 0 (0:UInt8))):Int)==45)) .fail) (L2 a)):=by kernel_rfl
def L3(v5:List UInt8)(v6:Bool):Tr:=re ((stepT M3 (L1 [] false)).L.L) (Ar 54 [(5,.dat zd v5),(6,.dat zg v6)] [] 0)
theorem Ai(v5:List UInt8)(v6:Bool):stepT M3 (L1 v5 v6)=.ite v6 (.ite (decide (1≤length v5)&&decide (length v5≤length v5)) (L3 (take (zC (length v5) 1) (drop 1 v5)) v6) .fail) (L3 v5 v6):=by kernel_rfl
def L4(v5:List UInt8):Tr:=re ((stepT M3 (L2 []))) (Ar 54 [(5,.dat zd v5),(6,.bl false)] [] 0)
theorem AM(v5:List UInt8):stepT M3 (L2 v5)=L4 v5:=by kernel_rfl
def L5(v5:List UInt8)(v6:Bool)(v7 v8 v9:Int):Tr:=re ((stepT M3 (L3 [] false)).L.R.R.L.L) (Ar 54 [(5,.dat zd v5),(6,.dat zg v6),(7,.dat i64 v7),(8,.dat i64 v8),(9,.dat i64 v9)] [] 0)
theorem Bm(v5:List UInt8)(v6:Bool):stepT M3 (L3 v5 v6)=let a':Tr:=.leaf (.tup [.dat i64 (0:Int),.dat i64 (0:Int),.bl false]) [];let b':=AS v5;.ite (decide (length v5≤1000000)) (.ite (decide (AS v5>9)) a' (.ite (decide (zc .i64 ((length v5:Int)-AS v5)>10)) a' (.ite (decide (0≤AS v5)&&decide (0≤toNat b')&&decide (toNat b'≤length v5)) (.ite (Dp (take (toNat b') v5)) (L5 v5 v6 b' (Bg (take (toNat b') v5)) 1) .fail) .fail))) .fail:=by kernel_rfl
def L6(v5:List UInt8)(v7 v8 v9:Int):Tr:=re ((stepT M3 (L4 [])).L.R.R.L.L) (Ar 54 [(5,.dat zd v5),(6,.bl false),(7,.dat i64 v7),(8,.dat i64 v8),(9,.dat i64 v9)] [] 0)
theorem BB(v5:List UInt8):stepT M3 (L4 v5)=let a':Tr:=.leaf (.tup [.dat i64 (0:Int),.dat i64 (0:Int),.bl false]) [];let b':=AS v5;.ite (decide (length v5≤1000000)) (.ite (decide (AS v5>9)) a' (.ite (decide (zc .i64 ((length v5:Int)-AS v5)>10)) a' (.ite (decide (0≤AS v5)&&decide (0≤toNat b')&&decide (toNat b'≤length v5)) (.ite (Dp (take (toNat b') v5)) (L6 v5 b' (Bg (take (toNat b') v5)) 1) .fail) .fail))) .fail:=by kernel_rfl
def L7(v6:Bool)(v8 v9:Int):Tr:=re ((stepT M3 (L5 [] false 0 0 0)).L.L.L) (Ar 54 [(6,.dat zg v6),(8,.dat i64 v8),(9,.dat i64 v9)] [] 0)
theorem CZ(v5:List UInt8)(v6:Bool)(v7 v8 v9:Int):stepT M3 (L5 v5 v6 v7 v8 v9)=let b':=zc .i64 (v7+1);let a':=take (zC (length v5) (toNat b')) (drop (toNat b') v5);.ite (decide (v7<(length v5:Int))) (.ite (decide (0≤zc .i64 (v7+1))&&true&&decide (toNat b'≤length v5)&&decide (length v5≤length v5)) (.ite (Dp a') (L7 v6 v8 (Bg a')) .fail) .fail) (L7 v6 v8 v9):=by kernel_rfl
def L8(v8 v9:Int):Tr:=re ((stepT M3 (L6 [] 0 0 0)).L.L.L) (Ar 54 [(6,.bl false),(8,.dat i64 v8),(9,.dat i64 v9)] [] 0)
theorem DP(v5:List UInt8)(v7 v8 v9:Int):stepT M3 (L6 v5 v7 v8 v9)=let b':=zc .i64 (v7+1);let a':=take (zC (length v5) (toNat b')) (drop (toNat b') v5);.ite (decide (v7<(length v5:Int))) (.ite (decide (0≤zc .i64 (v7+1))&&true&&decide (toNat b'≤length v5)&&decide (length v5≤length v5)) (.ite (Dp a') (L8 v8 (Bg a')) .fail) .fail) (L8 v8 v9):=by kernel_rfl
theorem Dw(v6:Bool)(v8 v9:Int):stepT M3 (L7 v6 v8 v9)=.ite v6 (.leaf (.tup [.dat i64 (zc .i64 (0-v8)),.dat i64 v9,.bl true]) []) (.leaf (.tup [.dat i64 v8,.dat i64 v9,.bl true]) []):=by kernel_rfl
theorem E7(v8 v9:Int):stepT M3 (L8 v8 v9)=.leaf (.tup [.dat i64 v8,.dat i64 v9,.bl true]) []:=by kernel_rfl
end T211
namespace T130
def T(a:List UInt8):Tr:=tree HZ false 9 130 (Af ([zd]) a)
theorem An(a:List UInt8):T a=let a':Tr:=.leaf (.dat i64 (1:Int)) [];.ite (a==[(48:UInt8)]) (.leaf (.dat i64 (0:Int)) []) (.ite (decide ((length a:Int)>0)) (.ite (decide (0<(length a:Int))) (.ite ((↑(zJ (getD a 0 (0:UInt8))):Int)==45) (.leaf (.dat i64 (-1:Int)) []) a') .fail) a'):=by kernel_rfl
end T130
namespace T174
def T(a:List UInt8):Tr:=tree kC false 9 174 (Af ([zd]) a)
theorem An(a:List UInt8):T a=let a':=decide (length a≤1000000);.ite a' (.ite (decide (FG a<0)) (.ite (decide (1≤length a)&&decide (length a≤length a)) (.leaf (.dat zd (take (zC (length a) 1) (drop 1 a))) []) .fail) (.ite a' (.ite (FG a==0) (.leaf (.dat zd a) []) (.ite (decide (1+length a≤4611686018427387904)) (.leaf (.dat zd ([(45:UInt8)]++a)) []) .fail)) .fail)) .fail:=by kernel_rfl
end T174
namespace T273
def T(n l:Int):Tr:=tree HZ false 9 273 (Af ([zt zp,zt zp]) (n,l))
def L1(v0 v1:Int)(v5:List UInt8):Tr:=re ((T 0 0)) (Ar 25 [(0,.dat i64 v0),(1,.dat i64 v1),(5,.dat zd v5)] [] 0)
theorem An(n l:Int):T n l=L1 n l []:=by kernel_rfl
theorem Ai(v0 v1:Int)(v5:List UInt8):stepT HZ (L1 v0 v1 v5)=let c':=zc .i64 (zU v0 10+1);let d':=toNat (zU v0 10);let b':=drop d' [(48:UInt8),(49:UInt8),(50:UInt8),(51:UInt8),(52:UInt8),(53:UInt8),(54:UInt8),(55:UInt8),(56:UInt8),(57:UInt8)];let a':Tr:=.ite true (.ite true (.ite (decide (0≤zU v0 10)&&decide (0≤zc .i64 (zU v0 10+1))&&decide (toNat (zU v0 10)≤toNat c')&&decide (toNat c'≤10)) (.ite (decide (length (take (zC (toNat c') d') b')+length v5≤4611686018427387904)) (.ite true (L1 (zc .i64 (zG v0 10)) v1 (take (zC (toNat c') d') b'++v5)) .fail) .fail) .fail) .fail) .fail;.ite (decide (v0>0)) a' (.ite (decide ((length v5:Int)<v1)) a' (.leaf (.dat zd v5) [])):=by kernel_rfl
end T273
end
end Go.Pe
end
section
namespace Go.Pe
open Sp
open Go.Det
noncomputable section
open List Int Prod
namespace T137
def T(a:List UInt8):Tr:=tree jB false 9 137 (Af ([zd]) a)
theorem An(a:List UInt8):T a=let a':=zL (zt zh);let b':=CP (Ay a);let c':=CI (Ay a);.ite (dK a [(47:UInt8)]) (.ite (!Bw a) (.ite (Du (Ay a)) (.ite true (.leaf (PV.agg [.dat i64 b',.dat a' c',.dat i64 (1:Int),.dat a' (Dz 1)]) ([(zj (zj 0 1) 1,.box [.dat i64 b',.dat a' c',.dat i64 (1:Int),.dat a' (Dz 1)]),(zj 0 1,.box [.dat i64 b',.dat a' c']),(0,.box [.dat i64 b',.dat a' c',.dat i64 (1:Int),.dat a' (Dz 1)])])) .fail) .fail) (.ite (Du (Ay a)) (.ite (Du (Sp.AG a)) (.leaf (PV.agg [.dat i64 b',.dat a' c',.dat i64 (CP (Sp.AG a)),.dat a' (CI (Sp.AG a))]) ([(0,.box [.dat i64 b',.dat a' c',.dat i64 (CP (Sp.AG a)),.dat a' (CI (Sp.AG a))])])) .fail) .fail)) .fail:=by kernel_rfl
end T137
namespace T138
def T(a:(Int×List Int)×Int×List Int)(b:(Int×List Int)×Int×List Int):Tr:=tree jE false 9 138 (Af ([ze (ze i64 (zL (zt zh))) (ze i64 (zL (zt zh))),ze (ze i64 (zL (zt zh))) (ze i64 (zL (zt zh)))]) (a,b))
theorem An(a:(Int×List Int)×Int×List Int)(b:(Int×List Int)×Int×List Int):T a b=let c':=zL (zt zh);let d':=(fst (fst a),snd (fst a));let e':=(fst (snd b),snd (snd b));let f':=(fst (fst b),snd (fst b));let g':=(fst (snd a),snd (snd a));let a':=(GH d' e',GB d' e');let b':=(GH f' g',GB f' g');.ite (BL d'&&BL e') (.ite (BL f'&&BL g') (.ite (BL a'&&BL b') (.leaf (.dat i64 (UE a' b')) ([(zj 0 1,.box [.dat i64 (fst (fst b)),.dat c' (snd (fst b)),.dat i64 (fst (snd b)),.dat c' (snd (snd b))]),(0,.box [.dat i64 (fst (fst a)),.dat c' (snd (fst a)),.dat i64 (fst (snd a)),.dat c' (snd (snd a))])])) .fail) .fail) .fail:=by kernel_rfl
end T138
namespace T203
def T(a:List UInt8):Tr:=tree HZ false 9 203 (Af ([zd]) a)
theorem An(a:List UInt8):T a=let a':Tr:=.ite (decide (1≤length a)&&decide (length a≤length a)) (.leaf (.dat zd (take (zC (length a) 1) (drop 1 a))) []) .fail;let b':Tr:=.ite false a' (.leaf (.dat zd a) []);.ite (a==[(48:UInt8)]) b' (.ite (decide ((length a:Int)>0)) (.ite (decide (0<(length a:Int))) (.ite ((↑(zJ (getD a 0 (0:UInt8))):Int)==45) (.ite true a' (.leaf (.dat zd a) [])) b') .fail) b'):=by kernel_rfl
end T203
namespace T204
def T(a:List UInt8):Tr:=tree gK false 9 204 (Af ([zd]) a)
theorem An(a:List UInt8):T a=.ite (decide (length a≤1000000)) (.ite (decide (0≤AS a)&&decide (0≤toNat (AS a))&&decide (toNat (AS a)≤length a)) (.leaf (.dat zd (take (toNat (AS a)) a)) []) .fail) .fail:=by kernel_rfl
end T204
namespace T205
def T(a:List UInt8):Tr:=tree gK false 9 205 (Af ([zd]) a)
theorem An(a:List UInt8):T a=let a':=zc .i64 (AS a+1);.ite (decide (length a≤1000000)) (.ite (AS a==(length a:Int)) (.leaf (.dat zd [(49:UInt8)]) []) (.ite (decide (0≤zc .i64 (AS a+1))&&true&&decide (toNat a'≤length a)&&decide (length a≤length a)) (.leaf (.dat zd (take (zC (length a) (toNat a')) (drop (toNat a') a))) []) .fail)) .fail:=by kernel_rfl
end T205
namespace T166
def T(a:List UInt8)(n:Int):Tr:=tree kK false 9 166 (Af ([zd,zt zp]) (a,n))
theorem An(a:List UInt8)(n:Int):T a n=let a':=decide (length a≤1000000);let b':Tr:=.leaf (.bl false) [];.ite (decide ((length a:Int)≤zc .i64 (zc .i64 (2*n)+2))) (.ite a' (.ite (Bk a==0) (.ite a' (.ite (decide (length (Ay a)≤1000000)) (.ite (decide ((↑(length (A3 (Ay a))):Int)≤n)) (.ite a' (.leaf (.dat zg (decide ((↑(length (RM a)):Int)≤n))) []) .fail) b') .fail) .fail) b') .fail) b':=by kernel_rfl
end T166
namespace T126
def T(a:List UInt8)(n:Int):Tr:=tree kG false 9 126 (Af ([zd,zt zp]) (a,n))
theorem An(a:List UInt8)(n:Int):T a n=let a':=decide (length a≤1000000);.ite (decide ((length a:Int)≤40)) (.ite (a') (.ite (Bk a !=0) (.leaf (.bl true) []) (.ite (a'&&decide (0≤n)&&decide (n≤1000)) (.leaf (.dat zg (Nx a n)) []) .fail)) .fail) (.leaf (.bl false) []):=by kernel_rfl
end T126
end
end Go.Pe
end
