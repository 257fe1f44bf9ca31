import Derived.Test.YtlapcggejnojjaaGreatDoorX09
import Derived.Lib.Mul64
import Derived.Test.YtlapcggejnojjaaGreatDoorX01
/- A part of a proof (no law is stated here). Made by program out of texts by AI agents. -/
open Go.IntKind renaming wrap → zc, u64 → zd, i64 → z6, wrap_i64 → yy, u8 → yL
open Go.Pe.Ends renaming tt → ze, leaf → zi, ite → zk, eq → zQ, ff → zU, An → z7
open Go.Sp renaming vI → zf, val → zD, u64 → zE, sg → ym, AM → yK, hW → yN
open Bool renaming and_eq_true → zg, true_and → zJ, false_eq_true → yo, or_eq_true → yD
open Int renaming mul_le_mul_of_nonneg_right → zh, toNat_natCast → zj, fdiv → zo, mul_le_mul_of_nonneg_left → zp, eq_ofNat_of_zero_le → zq, mul_nonneg → zr, mul_assoc → zw, lt_or_le → zy, le_of_lt → zz, mul_add → zA, add_mul → zB, mul_comm → zF, tdiv → zH, lt_of_le_of_lt → zL, fdiv_eq_ediv_of_nonneg → zM, tdiv_eq_ediv_of_nonneg → zN, tmod_add_tdiv_mul → zO, one_mul → zP, natCast_add → zR, natCast_pow → zS, mul_lt_mul_of_pos_left → zX, natCast_mul → zY, mul_zero → yi, natCast_nonneg → yq, lt_or_eq_of_le → yr, mul_sub → yu, zero_add → yB, ediv_nonneg → yF, toNat → yI, add_assoc → yJ, le_trans → yM, pow_succ → yO, tmod → yP, zero_mul → yQ
open List renaming replicate → zl, mem_cons_of_mem → zm, mem_cons_self → zt, take_of_length_le → zx, mem_cons → zT, getD_eq_getElem?_getD → zV, pairwise_append → zW, pairwise_cons → zZ, take_append_drop → z8, take_length → ya, cons_append → yb, length_cons → yc, perm_middle → yd, length → yg, mem_append → yh, drop_eq_getElem_cons → yt, append_assoc → yv, drop_eq_nil_of_le → yz, mem_map → yC
open Go.Pe.Sh renaming int → zn, nlist → zG, pair → ye
open Nat renaming add → zu, mod_eq_of_lt → yw, two_pow_pos → yE, pow_add → yG
open Go.Pe.Af renaming of → zC
open BitVec renaming ofInt → zI, ofInt_natCast → yf, toNat_ofNat → yj
open UInt8 renaming toNat → zK
open Go.Lib renaming half_mul_le → yk
open Go.Pe.PV renaming agg → yn
open List.Pairwise renaming cons → yp
open Min renaming min → yA
open List.Perm renaming cons → yH
section
namespace Go.Pe
open Sp
open Go.Det
theorem DL{a:Ba}(h:EB a=true):(-9223372036854775808≤a.1∧a.1<9223372036854775808)∧(a.2=[]∨(By a.2=true∧(a.1=1∨a.1= -1)∧9223372036854775808≤Ai a.2)):=by
 unfold EB at h;rw[zg,yD,zg,zg,yD,decide_eq_true_eq,decide_eq_true_eq,decide_eq_true_eq,decide_eq_true_eq]at h;exact⟨Ep h.1,h.2.imp id fun h=>⟨h.1.1,h.1.2,h.2⟩⟩
theorem val_one(d:Int):zD Aj [d]=d:=by simp[zD]
theorem aO{d:Int}(h1:0<d)(h2:d<18446744073709551616):[d]=Br d:=by
 have:=JZ (b:=Aj) (l:=[d]) (by decide) (fun x hx=>by rw[List.mem_singleton]at hx;subst hx;exact⟨by omega,h2⟩) (by unfold Sp.nz;simp;omega);rw[val_one]at this;exact this
theorem DP{s:Int}:zf (s,[])=s:=by unfold zf;exact if_pos rfl
namespace T146
theorem ok(hall:∀g sp,Je.sp g=some sp→Ac A4 g sp):Ac A4 146 QV:=by
 refine AJ (X:=Je) rfl hall (d:=9) (by kernel_rfl) (by kernel_rfl) (by kernel_rfl) (fun(a:Int×List Int) ha=>?_) (Ad (by kernel_rfl));obtain⟨hr,hw⟩:=DL (a:=a) ha;obtain⟨s,w⟩:=a;have hr: -9223372036854775808≤s∧s<9223372036854775808:=hr;refine zQ (Ay (s,w)) (zk (fun c=>?_) (fun c=>zk (fun d=>?_) (fun d=>ze ?_ ?_)))
 ·have c:0<w.length:=of_decide_eq_true c;have hne:w≠[]:=by rintro rfl;simp at c
  rcases hw with hw|⟨h1,h2,h3⟩
  ·exact absurd hw hne
  ·obtain⟨n1,n2,n3⟩:=DI h1;have h2:s=1∨s= -1:=h2;have h3:9223372036854775808≤Ai w:=h3;have ev:zf (s,w)=if s<0 then -Ai w else Ai w:=by unfold zf;exact if_neg hne
   have e1:Ag (zf (s,w))=Ai w:=by rw[ev];simp only[Ar];split<;>omega
   have e2:decide (zf (s,w)<0)=decide (s<0):=by
    rw[ev];rcases h2 with rfl|rfl<;>simp<;>omega
   refine zi (zC rfl rfl ?_);show(decide (s<0),w)=(decide (zf (s,w)<0),Br (Ag (zf (s,w))));rw[e1,e2,show w=Br (Ai w)from JZ (by decide) n2 n3];congr 2;exact(CU (b:=Aj) (by decide) (Au (b:=Aj) (by decide) n2)).symm
 all_goals
  have c:¬0<w.length:=of_decide_eq_false c;have hn:w=[]:=List.length_eq_zero_iff.1 (by omega);subst hn
 ·have d:s=0:=by simpa using d
  subst d;exact zi (zC rfl rfl rfl)
 ·show Hz s=true;unfold Hz;rw[zg,decide_eq_true_eq,decide_eq_true_eq];exact hr
 ·have d:s≠0:=by simpa using d
  refine zi (zC rfl rfl ?_);show(decide (s<0),[Ag s])=(decide (zf (s,[])<0),Br (Ag (zf (s,[]))));rw[DP,aO (d:=Ag s) (by simp only[Ar];omega) (by simp only[Ar];omega)]
end T146
theorem Bt{n:Int}(h: -9223372036854775808<n∧n<9223372036854775808):B7 n=(n,[]):=if_pos h
theorem O2{w:List Int}(neg:Bool)(h1:As Aj w)(h2:Sp.nz w)(h3:9223372036854775808≤Ai w):B7 (if neg=true then -Ai w else Ai w)=(if neg=true then -1 else 1,w):=by
 have e:Br (Ai w)=w:=(JZ (by decide) h1 h2).symm;cases neg with
 |true=>
  simp only[if_true];unfold B7;rw[if_neg (by omega),if_pos (by omega)];rw[show Ag (-Ai w)=Ai w by simp only[Ar];omega,e]
 |false=>
  show B7 (Ai w)=(1,w);unfold B7;rw[if_neg (by omega),if_neg (by omega)];rw[show Ag (Ai w)=Ai w by simp only[Ar];omega,e]
namespace T148
theorem ok(hall:∀g sp,Je.sp g=some sp→Ac A4 g sp):Ac A4 148 Vq:=by
 refine AJ (X:=Je) rfl hall (d:=9) (by kernel_rfl) (by kernel_rfl) (by kernel_rfl) (fun(i:Bool×List Int) hi=>?_) (Ad (by kernel_rfl));obtain⟨neg,w⟩:=i;obtain⟨n1,n2,n3⟩:=DI (l:=w) hi;refine zQ (Ay neg w) ?_;conv=>zeta
 cases w with
 |nil=>
  refine ze rfl (zi (zC rfl rfl ?_));show _=B7 (if neg=true then -0 else 0);rw[show(if neg=true then(-0:Int)else 0)=0 by split<;>rfl,Bt (by omega)]
 |cons d t=>
  cases t with
  |nil=>
   have hd:=n2 d (by simp);have hz:d≠0:=by intro h;subst h;exact n3 rfl
   have hd1:0≤d:=hd.1;have hd2:d<18446744073709551616:=hd.2;have ev:Ai [d]=d:=val_one d;refine zU rfl (ze rfl (ze rfl (zk (fun c=>?_) (fun c=>?_))))
   ·have c:d≤9223372036854775807:=of_decide_eq_true c;have e1:zc .i64 d=d:=wr _ (by omega) (by omega);have e2:zc .i64 (0-d)= -d:=by rw[wr _ (by omega) (by omega)];omega
    refine zk (fun n=>ze rfl (zi (zC rfl rfl ?_))) (fun n=>ze rfl (ze rfl (ze (decide_eq_true c) (ze rfl (zi (zC rfl rfl ?_))))))
    ·show(zc .i64 (0-zc .i64 d),[])=B7 (if neg=true then -Ai [d]else Ai [d]);rw[e1,e2,if_pos n,ev,Bt (by omega)]
    ·show(zc .i64 d,[])=B7 (if neg=true then -Ai [d]else Ai [d]);subst n;rw[e1,if_neg (by decide),ev,Bt (by omega)]
   ·have c':¬d≤9223372036854775807:=of_decide_eq_false c;have hb:=O2 neg n2 n3 (by rw[ev];omega);refine ze rfl (ze rfl (zU c (zk (fun n=>zi (zC rfl rfl ?_)) (fun n=>zi (zC rfl rfl ?_)))))
    ·show(-1,[d])=B7 (if neg=true then -Ai [d]else Ai [d]);rw[hb,if_pos n]
    ·show(1,[d])=B7 (if neg=true then -Ai [d]else Ai [d]);rw[hb,n];rfl
  |cons e t=>
   have hv:9223372036854775808≤Ai (d::e::t):=by
    have h:=Cn (b:=Aj) (by decide) n2 n3 (by simp);have h2:=AN (b:=Aj) (by decide) (show 1≤(d::e::t).length-1 by simp);rw[Int.pow_one]at h2;have:(9223372036854775808:Int)≤(Aj:Int):=by decide
    exact yM this (yM h2 h)
   have hb:=O2 neg n2 n3 hv;have z0:(((d::e::t).length:Int)==0)=false:=by simp;omega
   have z1:(((d::e::t).length:Int)==1)=false:=by simp;omega
   refine zU z0 (zU z1 (zU z1 (zk (fun n=>zi (zC rfl rfl ?_)) (fun n=>zi (zC rfl rfl ?_)))))
   ·show(-1,d::e::t)=B7 (if neg=true then -Ai (d::e::t)else Ai (d::e::t));rw[hb,if_pos n]
   ·show(1,d::e::t)=B7 (if neg=true then -Ai (d::e::t)else Ai (d::e::t));rw[hb,n];rfl
end T148
namespace T155
variable {Q:PV→Ob→Prop}
theorem Aq(x y:List Int)(hx:As Aj x)(hy:As Aj y)(hl:y.length≤x.length)(hm:x.length≤9000)(hq:∀ob,Q (.dat Cp (Br (Ai x+Ai y))) ob):∀(k i:Nat) (p:List Int) (c:Int),i+k=x.length→p.length=i→As Aj p→(0≤c∧c≤1)→zD Aj p+(Aj:Int)^i*c=zD Aj (x.take i)+zD Aj (y.take i)→
  Ends Je (L1 x y (x.length+1) c x.length i (p++zl (x.length+1-i) 0)) Q
 |0,i,p,c,hi,hp,hd,hc,he=>by
  have hi:i=x.length:=by omega
  subst hi;have er:x.length+1-x.length=1:=by omega
  have es:(p++zl (x.length+1-x.length) (0:Int)).set x.length c=p++[c]:=by
   rw[er];exact Pe.BT p [] 0 c hp
  have ht:(p++[c]).take (x.length+1)=p++[c]:=zx (by simp;omega);have hd':As Aj (p++[c]):=CV hd (BV hc.1 (by omega));have hv:Ai (p++[c])=Ai x+Ai y:=by
   unfold Ai;rw[DB,hp,he,ya,zx hl]
  refine z7 (Ap ..) (zU (by simp) ?_);rw[zj,es,ht];refine ze (by simp<;>omega) (ze (by simp;omega) (ze ?_ (zi ?_)))
  ·rw[Da (by simp;omega) hd'];simp;omega
  ·rw[ID hd',hv];exact hq _
 |k+1,i,p,c,hi,hp,hd,hc,he=>by
  have gx:=AI hx i;have gy:=AI hy i;have lo:(p++zl (x.length+1-i) (0:Int)).length=x.length+1:=by simp;omega
  have step:∀z,zE z=true→z=y.getD i 0→Ends Je (L1 x y (x.length+1) (Mz (x.getD i 0) z c) x.length (zc .i64 ((i:Int)+1)) ((p++zl (x.length+1-i) 0).set i (F6 (x.getD i 0) z c))) Q:=by
   intro z hz ez;obtain⟨a1,a2,a3⟩:=Ik gx hz hc;rw[wr ((i:Int)+1) (by omega) (by omega),Hl p (x.length+1) i _ hp (by omega)];refine Aq x y hx hy hl hm hq k (i+1) (p++[F6 (x.getD i 0) z c]) _ (by omega) (by simp;omega) (CV hd a1) a2 ?_;rw[DB,hp,IF,Av _ x i,Av _ y i, ←ez,yJ, ←zA,a3,zA,zA];omega
  refine z7 (Ap ..) (ze (by simp;omega) ?_);rw[zj];refine zk (fun d=>?_) (fun d=>?_)
  ·have d:=of_decide_eq_true d;refine ze (by simp;omega) (ze (by simp;omega) (ze ?_ (ze (by simp;omega) (ze (decide_eq_true (by rw[lo];omega)) (step _ gy rfl)))));rw[gx,gy,zJ,zJ,zg];exact⟨decide_eq_true hc.1,decide_eq_true hc.2⟩
  ·have d:=of_decide_eq_false d;have hz:y.getD i 0=0:=by rw[zV,List.getElem?_eq_none (by omega)];rfl
   refine ze (by simp;omega) (ze ?_ (ze (by simp;omega) (ze (decide_eq_true (by rw[lo];omega)) (step _ rfl hz.symm))));rw[gx,show zE 0=true from rfl,zJ,zJ,zg];exact⟨decide_eq_true hc.1,decide_eq_true hc.2⟩
theorem start(x y:List Int)(hx:As Aj x)(hy:As Aj y)(hl:y.length≤x.length)(hm:x.length≤9000)(hq:∀ob,Q (.dat Cp (Br (Ai x+Ai y))) ob){t:Tr}:
  Ends Je (.ite (decide ((0:Int)≤zc z6 ((x.length:Int)+(1:Int)))&&decide (zc z6 ((x.length:Int)+(1:Int))=zc z6 ((x.length:Int)+(1:Int)))&&decide ((8:Nat)*yI (zc z6 ((x.length:Int)+(1:Int)))≤(281474976710656:Nat))&&decide (zc z6 ((x.length:Int)+(1:Int))<(9223372036854775808:Int)))
   (L1 x y (yI (zc z6 ((x.length:Int)+(1:Int)))) ((0:Int)) ((x.length:Int)) ((0:Int)) (zl (yI (zc z6 ((x.length:Int)+(1:Int)))) (0:Int))) t) Q:=by
 have e1:zc .i64 ((x.length:Int)+1)=((x.length+1:Nat):Int):=by rw[wr _ (by omega) (by omega)];omega
 rw[e1,zj];refine ze (by simp;omega) ?_;exact Aq x y hx hy hl hm hq x.length 0 [] 0 (by omega) rfl (fun _ h=>by cases h) (by omega) (by simp[zD])
theorem ok(hall:∀g sp,Je.sp g=some sp→Ac A4 g sp):Ac A4 155 Wo:=by
 refine AJ (X:=Je) rfl hall (d:=9) (by kernel_rfl) (by kernel_rfl) (by kernel_rfl) (fun(i:List Int×List Int) hi=>?_) (Ad (by kernel_rfl));obtain⟨x,y⟩:=i;have hi:(yN x&&yN y)=true:=hi;rw[zg]at hi;obtain⟨x1,x2⟩:=Sm hi.1;obtain⟨y1,y2⟩:=Sm hi.2;have hq:∀ob,Af Wo (x,y) (.dat Cp (Br (Ai x+Ai y))) ob:=fun ob=>zC rfl rfl rfl
 refine zQ (Ay x y) (zk (fun c=>?_) (fun c=>?_))
 ·have c:=of_decide_eq_true c;exact start y x y2 x2 (by omega) y1 (by rw[Int.add_comm];exact hq)
 ·have c:=of_decide_eq_false c;exact start x y x2 y2 (by omega) x1 hq
end T155
namespace T157
variable {Q:PV→Ob→Prop}
theorem Wp{b:Int}(hb:0<b){l:List Int}{n:Nat}(h:As b l)(hv:zD b l<b^n):zD b (l.take n)=zD b l:=by
 rcases Nat.lt_or_ge n l.length with hn|hn
 ·have h1:=BI b l n (by omega);have h2:=Au (by omega) (AE h n);have h3:=Au (by omega) (EX h n);rcases zy 0 (zD b (l.drop n))with h4|h4
  ·have:=zp (show 1≤zD b (l.drop n)by omega) (zz (AK hb n));rw[Int.mul_one]at this;omega
  ·have:zD b (l.drop n)=0:=by omega
   rw[this,yi]at h1;omega
 ·rw[zx hn]
theorem Aq(x y:List Int)(hx:As Aj x)(hy:As Aj y)(hl:Ai y≤Ai x)(hm:x.length≤20000)(hq:∀ob,Q (.dat Cp (Br (Ai x-Ai y))) ob):∀(k i:Nat) (p:List Int) (c:Int),i+k=x.length→p.length=i→As Aj p→(0≤c∧c≤1)→zD Aj p-(Aj:Int)^i*c=zD Aj (x.take i)-zD Aj (y.take i)→
  Ends Je (L1 x y x.length c x.length i (p++zl (x.length-i) 0)) Q
 |0,i,p,c,hi,hp,hd,hc,he=>by
  have hi:i=x.length:=by omega
  subst hi;have er:p++zl (x.length-x.length) (0:Int)=p:=by rw[Nat.sub_self];simp
  have ht:p.take x.length=p:=zx (by omega);have hX:Ai x<(Aj:Int)^x.length:=Bi (by decide) hx;have hP:Ai p<(Aj:Int)^p.length:=Bi (by decide) hd;have hv:Ai p=Ai x-Ai y:=by
   rw[ya,Wp (by decide) hy (show zD Aj y<_ from zL hl hX)]at he;have he:Ai p-(Aj:Int)^x.length*c=Ai x-Ai y:=he;rw[hp]at hP;rcases zy 0 c with h|h
   ·have:c=1:=by omega
    subst this;rw[Int.mul_one]at he;omega
   ·have:c=0:=by omega
    subst this;rw[yi]at he;omega
  rw[er];refine z7 (Ap ..) (zU (by simp) ?_);rw[ht];refine ze ?_ (zi ?_)
  ·rw[Da (by omega) hd];simp;omega
  ·rw[ID hd,hv];exact hq _
 |k+1,i,p,c,hi,hp,hd,hc,he=>by
  have gx:=AI hx i;have gy:=AI hy i;have lo:(p++zl (x.length-i) (0:Int)).length=x.length:=by simp;omega
  have step:∀z,zE z=true→z=y.getD i 0→Ends Je (L1 x y x.length (MM (x.getD i 0) z c) x.length (zc .i64 ((i:Int)+1)) ((p++zl (x.length-i) 0).set i (Pd (x.getD i 0) z c))) Q:=by
   intro z hz ez;obtain⟨a1,a2,a3⟩:=Lq gx hz hc;rw[wr ((i:Int)+1) (by omega) (by omega),Hl p x.length i _ hp (by omega)];refine Aq x y hx hy hl hm hq k (i+1) (p++[Pd (x.getD i 0) z c]) _ (by omega) (by simp;omega) (CV hd a1) a2 ?_;have e:(Aj:Int)^i*Pd (x.getD i 0) z c-(Aj:Int)^i*(18446744073709551616*MM (x.getD i 0) z c)=(Aj:Int)^i*x.getD i 0-(Aj:Int)^i*z-(Aj:Int)^i*c:=by
    rw[←yu,a3,yu,yu]
   rw[DB,hp,IF,Av _ x i,Av _ y i, ←ez];omega
  refine z7 (Ap ..) (ze (by simp;omega) ?_);rw[zj];refine zk (fun d=>?_) (fun d=>?_)
  ·have d:=of_decide_eq_true d;refine ze (by simp;omega) (ze (by simp;omega) (ze ?_ (ze (by simp;omega) (ze (decide_eq_true (by rw[lo];omega)) (step _ gy rfl)))));rw[gx,gy,zJ,zJ,zg];exact⟨decide_eq_true hc.1,decide_eq_true hc.2⟩
  ·have d:=of_decide_eq_false d;have hz:y.getD i 0=0:=by rw[zV,List.getElem?_eq_none (by omega)];rfl
   refine ze (by simp;omega) (ze ?_ (ze (by simp;omega) (ze (decide_eq_true (by rw[lo];omega)) (step _ rfl hz.symm))));rw[gx,show zE 0=true from rfl,zJ,zJ,zg];exact⟨decide_eq_true hc.1,decide_eq_true hc.2⟩
theorem ok(hall:∀g sp,Je.sp g=some sp→Ac A4 g sp):Ac A4 157 Vu:=by
 refine AJ (X:=Je) rfl hall (d:=9) (by kernel_rfl) (by kernel_rfl) (by kernel_rfl) (fun(i:List Int×List Int) hi=>?_) (Ad (by kernel_rfl));obtain⟨x,y⟩:=i;have hi:(B2 x&&B2 y&&decide (Ai y≤Ai x))=true:=hi;rw[zg,zg,decide_eq_true_eq]at hi;obtain⟨x1,x2⟩:=GL hi.1.1;obtain⟨y1,y2⟩:=GL hi.1.2;have hq:∀ob,Af Vu (x,y) (.dat Cp (Br (Ai x-Ai y))) ob:=fun ob=>zC rfl rfl rfl
 refine zQ (Ay x y) ?_;conv=>zeta
 rw[zj];refine ze (by simp;omega) ?_;exact Aq x y x2 y2 hi.2 x1 hq x.length 0 [] 0 (by omega) rfl (fun _ h=>by cases h) (by omega) (by simp[zD])
end T157
end Go.Pe
end
section
namespace Go.Pe
open Sp
open Go.Det
theorem Ic(n:Int):zc .u64 n=n % 18446744073709551616:=by simp[zc,IntKind.bits,IntKind.signed]
theorem TU(n:Nat):zo (n:Int) ((2:Int)^(32:Nat))=((n/4294967296:Nat):Int):=by
 rw[zM _ (by decide)];rfl
theorem VY(n:Nat)(h:n<18446744073709551616):zc .u64 (n:Int)=n:=wu _ (by omega) (by omega)
theorem LH(n:Nat)(h:n<18446744073709551616):FV .u64 (n:Int) 4294967295=((n % 4294967296:Nat):Int):=by
 have e:(zI 64 (n:Int)&&&zI 64 4294967295).toNat=n % 4294967296:=by
  rw[BitVec.toNat_and];have h1:(zI 64 (n:Int)).toNat=n:=by rw[yf,yj];exact yw h
  have h2:(zI 64 4294967295).toNat=2^32-1:=by decide
  rw[h1,h2,Nat.and_two_pow_sub_one_eq_mod]
 show zc .u64 (((zI 64 (n:Int)&&&zI 64 4294967295).toNat:Nat):Int)=_;rw[e];exact VY _ (by omega)
namespace T152
theorem ok:Ac A4 152 N7:=by
 refine AJ (X:=Pn) rfl Hj (d:=9) (by kernel_rfl) (by kernel_rfl) (by kernel_rfl) (fun(i:Int×Int) hi=>?_) (Ad (by kernel_rfl));obtain⟨x,y⟩:=i;have hi:(zE x&&zE y)=true:=hi;rw[zg]at hi;have hx:=yK hi.1;have hy:=yK hi.2;obtain⟨x,rfl⟩:=zq hx.1;obtain⟨y,rfl⟩:=zq hy.1;have hx:x<18446744073709551616:=by omega
 have hy:y<18446744073709551616:=by omega
 obtain⟨m1,m2,m3,m4⟩:=Go.Lib.mul64_hi x y hx hy;have k1:=yk (a:=x/4294967296) (b:=y/4294967296) (by omega) (by omega);have k2:=yk (a:=x/4294967296) (b:=y % 4294967296) (by omega) (by omega);have k3:=yk (a:=x % 4294967296) (b:=y/4294967296) (by omega) (by omega);refine zQ (Ay (x:Int) (y:Int)) (ze rfl (ze rfl (ze rfl (ze rfl (ze rfl (zi (zC rfl rfl ?_)))))));refine Prod.ext ?_ ?_
 ·show zc zd (zc zd (zc zd (zo (x:Int) ((2:Int)^(32:Nat))*zo (y:Int) ((2:Int)^(32:Nat)))+zo (zc zd (zc zd (zo (x:Int) ((2:Int)^(32:Nat))*FV zd (y:Int) (4294967295:Int))+zo (zc zd (FV zd (x:Int) (4294967295:Int)*FV zd (y:Int) (4294967295:Int))) ((2:Int)^(32:Nat)))) ((2:Int)^(32:Nat)))+zo (zc zd (FV zd (zc zd (zc zd (zo (x:Int) ((2:Int)^(32:Nat))*FV zd (y:Int) (4294967295:Int))+zo (zc zd (FV zd (x:Int) (4294967295:Int)*FV zd (y:Int) (4294967295:Int))) ((2:Int)^(32:Nat)))) (4294967295:Int)+zc zd (FV zd (x:Int) (4294967295:Int)*zo (y:Int) ((2:Int)^(32:Nat))))) ((2:Int)^(32:Nat)))=NN x y;have em:NN x y=((x*y/18446744073709551616:Nat):Int):=by unfold NN;omega
  rw[em, ←m4];have hlt:x*y/18446744073709551616<18446744073709551616:=Nat.div_lt_of_lt_mul (Nat.mul_lt_mul'' hx hy);rw[←m4]at hlt;simp only[TU,LH x hx,LH y hy];simp only[←zY];generalize (x/4294967296)*(y/4294967296)=a at*;generalize (x/4294967296)*(y % 4294967296)=b at*;generalize (x % 4294967296)*(y/4294967296)=c at*;generalize (x % 4294967296)*(y % 4294967296)=d at*;rw[VY d (by omega),VY a (by omega),VY b (by omega),VY c (by omega),TU, ←zR,VY _ m2,TU,LH _ m2, ←zR, ←zR,VY _ m3,TU,VY (a+_) (by omega), ←zR,VY _ hlt]
 ·show zc .u64 ((x:Int)*y)=Gf x y;unfold Gf;exact Ic _
end T152
theorem VX{x y o c:Int}(hx:zE x=true)(hy:zE y=true)(ho:zE o=true)(hc:zE c=true):
  zE (Gf x y)=true∧zE (F6 (Gf x y) o 0)=true∧zE (F6 (F6 (Gf x y) o 0) c 0)=true∧
  zc .u64 (zc .u64 (NN x y+Mz (Gf x y) o 0)+Mz (F6 (Gf x y) o 0) c 0)=(x*y+o+c)/18446744073709551616∧
  zE ((x*y+o+c)/18446744073709551616)=true∧
  F6 (F6 (Gf x y) o 0) c 0+18446744073709551616*((x*y+o+c)/18446744073709551616)=x*y+o+c:=by
 have hx:=yK hx;have hy:=yK hy;have ho:=yK ho;have hc:=yK hc;have h0:0≤x*y:=zr hx.1 hy.1;have h1:x*y≤18446744073709551615*18446744073709551615:=by
  have a:=zp (show y≤18446744073709551615 by omega) hx.1;have b:=zh (show x≤18446744073709551615 by omega) (show(0:Int)≤18446744073709551615 by omega);omega
 unfold Gf NN F6 Mz;generalize x*y=P at*;refine⟨BV (by omega) (by omega),BV (by omega) (by omega),BV (by omega) (by omega),?_,BV (by omega) (by omega),by omega⟩;rw[Ic,Ic];omega
namespace T154
variable {Q:PV→Ob→Prop}
theorem Be(x y:List Int)(n i:Nat)(hi:i<x.length)(hn:n=x.length+y.length)(hx9:x.length≤9000)(hy9:y.length≤9000)(hx:As Aj x)(hy:As Aj y)(p:List Int)(hp:p.length=i+y.length)(hdp:As Aj p)
  (hq:∀q c,q.length=i+y.length→As Aj q→zE c=true→zD Aj q+(Aj:Int)^(i+y.length)*c=zD Aj p+(Aj:Int)^i*(x.getD i 0*zD Aj y)→Ends Je (L1 y n x x.length ((i+1:Nat):Int) ((q++[c])++zl (n-(i+y.length+1)) 0)) Q):∀(k j:Nat) (q:List Int) (c:Int),j+k=y.length→q.length=i+j→As Aj q→zE c=true→zD Aj q+(Aj:Int)^(i+j)*c=zD Aj (p.take (i+j))+(Aj:Int)^i*(x.getD i 0*zD Aj (y.take j))→
  Ends Je (L2 y n i (x.getD i 0) c x x.length i y y.length j (q++(p.drop (i+j)++zl (n-(i+y.length)) 0))) Q
 |0,j,q,c,hj,hl,hd,hc,he=>by
  have hj:j=y.length:=by omega
  subst hj;have e1:zc .i64 ((i:Int)+(y.length:Int))=((i+y.length:Nat):Int):=by rw[wr _ (by omega) (by omega)];omega
  have e2:zc .i64 ((i:Int)+1)=((i+1:Nat):Int):=by rw[wr _ (by omega) (by omega)];omega
  have ed:p.drop (i+y.length)=[]:=yz (by omega);refine z7 (AS ..) (zU (by simp) ?_);rw[e1,e2,zj,ed,List.nil_append,Hl q n _ c hl (by omega)];refine ze (by simp;omega) (ze (by simp;omega) (hq q c hl hd hc ?_));rw[he,zx (by omega),ya]
 |k+1,j,q,c,hj,hl,hd,hc,he=>by
  have gx:=AI hx i;have gy:=AI hy j;have gp:=AI hdp (i+j);have ep:p.drop (i+j)=p.getD (i+j) 0::p.drop (i+j+1):=by
   rw[zV,List.getElem?_eq_getElem (by omega)];exact yt (by omega)
  have e1:zc .i64 ((i:Int)+(j:Int))=((i+j:Nat):Int):=by rw[wr _ (by omega) (by omega)];omega
  have e2:zc .i64 ((j:Int)+1)=((j+1:Nat):Int):=by rw[wr _ (by omega) (by omega)];omega
  have lo:(q++(p.drop (i+j)++zl (n-(i+y.length)) (0:Int))).length=n:=by simp;omega
  have g1:(q++(p.drop (i+j)++zl (n-(i+y.length)) (0:Int))).getD (i+j) 0=p.getD (i+j) 0:=by
   rw[ep,yb];exact BZ _ _ _ _ hl
  have s1:∀z,(q++(p.drop (i+j)++zl (n-(i+y.length)) (0:Int))).set (i+j) z=(q++[z])++(p.drop (i+(j+1))++zl (n-(i+y.length)) 0):=by
   intro z;rw[ep,yb,BT _ _ _ _ hl,yv];rfl
  obtain⟨m1,m2,m3,m4,m5,m6⟩:=VX gx gy gp hc;refine z7 (AS ..) (ze (by simp;omega) ?_);rw[e1,e2,zj,zj,g1,s1,m4];have t1:(decide ((0:Int)≤((i+j:Nat):Int))&&decide (((i+j:Nat):Int)<(n:Int)))=true:=by simp;omega
  refine ze (by simp;omega) (ze (by rw[gx,gy];rfl) (ze t1 (ze (decide_eq_true (by rw[lo];omega)) (ze (by rw[m1,gp];rfl) (ze (by rw[m2,hc];rfl) (ze t1 (ze (decide_eq_true (by rw[lo];omega)) ?_)))))));refine Be x y n i hi hn hx9 hy9 hx hy p hp hdp hq k (j+1) _ _ (by omega) (by simp;omega) (CV hd m3) m5 ?_;have ea:i+(j+1)=(i+j)+1:=by omega
  have eb:(Aj:Int)^i*(x.getD i 0*((Aj:Int)^j*y.getD j 0))=(Aj:Int)^(i+j)*(x.getD i 0*y.getD j 0):=by
   rw[Int.pow_add,zw,Int.mul_left_comm (x.getD i 0)]
  rw[ea,DB,hl,IF,yJ, ←zA,m6,Av _ p (i+j),Av _ y j,zA,zA,zA (x.getD i 0),zA,eb];omega
theorem Aq(x y:List Int)(n:Nat)(hn:n=x.length+y.length)(hx9:x.length≤9000)(hy9:y.length≤9000)(hx:As Aj x)(hy:As Aj y)(hq:∀ob,Q (.dat Cp (Br (Ai x*Ai y))) ob):∀(k i:Nat) (p:List Int),i+k=x.length→p.length=i+y.length→As Aj p→zD Aj p=zD Aj (x.take i)*zD Aj y→
  Ends Je (L1 y n x x.length i (p++zl (n-(i+y.length)) 0)) Q
 |0,i,p,hi,hp,hd,he=>by
  have hi:i=x.length:=by omega
  subst hi;have ez:p++zl (n-(x.length+y.length)) (0:Int)=p:=by rw[hn,Nat.sub_self];simp
  have hv:Ai p=Ai x*Ai y:=by
   rw[ya]at he;exact he
  rw[ez];refine z7 (Ap ..) (zU (by simp) ?_);rw[zx (by omega)];refine ze ?_ (zi ?_)
  ·rw[Da (by omega) hd];simp;omega
  ·rw[ID hd,hv];exact hq _
 |k+1,i,p,hi,hp,hd,he=>by
  refine z7 (Ap ..) (ze (by simp;omega) ?_);rw[zj];refine ze (by simp;omega) ?_;have h0:zD Aj (p.take (i+y.length))=zD Aj p:=by rw[zx (by omega)]
  have:=Be (Q:=Q) x y n i (by omega) hn hx9 hy9 hx hy p hp hd (fun q c hl hdq hc hv=>by
   have:=Aq x y n hn hx9 hy9 hx hy hq k (i+1) (q++[c]) (by omega) (by simp;omega) (CV hdq hc) (by
    rw[DB,hl,hv,he,Av,zB,zw])
   rw[show i+1+y.length=i+y.length+1 by omega]at this;exact this) y.length 0 (p.take i) 0 (by omega) (by simp;omega) (AE hd i) rfl (by simp[zD])
  rw[Nat.add_zero, ←yv,z8]at this;exact this
theorem ok(hall:∀g sp,Je.sp g=some sp→Ac A4 g sp):Ac A4 154 VH:=by
 refine AJ (X:=Je) rfl hall (d:=9) (by kernel_rfl) (by kernel_rfl) (by kernel_rfl) (fun(i:List Int×List Int) hi=>?_) (Ad (by kernel_rfl));obtain⟨x,y⟩:=i;have hi:(yN x&&yN y)=true:=hi;rw[zg]at hi;obtain⟨x1,x2⟩:=Sm hi.1;obtain⟨y1,y2⟩:=Sm hi.2;have hq:∀ob,Af VH (x,y) (.dat Cp (Br (Ai x*Ai y))) ob:=fun ob=>zC rfl rfl rfl
 have e1:zc .i64 ((x.length:Int)+(y.length:Int))=((x.length+y.length:Nat):Int):=by rw[wr _ (by omega) (by omega)];omega
 refine zQ (Ay x y) ?_;conv=>zeta
 rw[e1,zj];refine ze (by simp;omega) ?_;have:=Aq x y (x.length+y.length) rfl x1 y1 x2 y2 hq x.length 0 (zl y.length 0) (by omega) (by simp) (fun d hd=>by
  obtain⟨_,rfl⟩:=List.mem_replicate.1 hd;exact⟨by decide,by decide⟩) (by rw[Jk];simp[zD])
 rw[Nat.zero_add,List.replicate_append_replicate,show y.length+(x.length+y.length-y.length)=x.length+y.length by omega]at this;exact this
end T154
theorem Ft:∀g sp,Je.sp g=some sp→Ac A4 g sp:=
 Ab T153.ok (Ab T206.ok (Ab T207.ok (Ab T197.ok (Ab T152.ok (fun g sp h=>by cases h)))))
theorem N1:∀g sp,aZ.sp g=some sp→Ac A4 g sp:=
 Ab (T146.ok Ft) (Ab (T148.ok Ft) (Ab (T155.ok Ft) (Ab (T157.ok Ft) (Ab T156.ok (Ab (T154.ok Ft) (Ab T152.ok (Ab T153.ok (fun g sp h=>by cases h))))))))
end Go.Pe
end
section
namespace Go.Sp
def BF(a:Ba):Bool:=EB a&&decide (a.2.length≤9000)
def V9(a b:Ba):Int:=BO (vI a) (vI b)
def Mn(a:Ba):Int:=W1 (vI a)
end Go.Sp
namespace Go.Pe
open Sp
open Go.Det
noncomputable section
noncomputable def VO:Az:=⟨[BJ],fun a=>EB a,[BJ],fun a=>(GM a,Gq a),false⟩
noncomputable def Y4:Az:=⟨[BJ],fun a=>EB a,[BJ],fun a=>(L0 a,Ll a),false⟩
noncomputable def Ov:Az:=⟨[BJ],fun a=>EB a,[i64],fun a=>Mn a,false⟩
noncomputable def Qk:Az:=⟨[BJ,BJ],fun i=>BF i.1&&BF i.2,[BJ],fun i=>(JS i.1 i.2,J4 i.1 i.2),false⟩
noncomputable def Wm:Az:=⟨[BJ,BJ],fun i=>BF i.1&&BF i.2,[BJ],fun i=>(VD i.1 i.2,Wn i.1 i.2),false⟩
noncomputable def Sq:Az:=⟨[BJ,BJ],fun i=>BF i.1&&BF i.2,[BJ],fun i=>(HE i.1 i.2,HJ i.1 i.2),false⟩
noncomputable def Zb:Az:=⟨[BJ,BJ],fun i=>BF i.1&&BF i.2,[i64],fun i=>V9 i.1 i.2,false⟩
noncomputable def dP:A2:=X7 [(97,VO),(96,Qk)]
noncomputable def eS:A2:=X7 [(98,Wm),(89,Ov)]
end
end Go.Pe
end
section
namespace Go.Pe
open Sp
open Go.Det
noncomputable section
open List Int Prod
namespace T97
def T(a:Int×List Int):Tr:=tree aZ false 9 97 (Ah ([ye i64 (zG (zn zd))]) a)
theorem Ay(a:Int×List Int):T a=let c':=zG (zn zd);let d':=Br (Ag (zf (fst a,snd a)));let e':=zc .i64 (0-fst a);let b':=ym (!decide (zf (fst a,snd a)<0)) (Ai d');let a':Tr:=.ite (EB (fst a,snd a)) (.ite (By d') (.leaf (yn [.dat i64 (BY b'),.dat c' (BR b')]) ([(zu 0 1,.box [.dat i64 (BY b'),.dat c' (BR b')]),(0,.box [.dat i64 (fst a),.dat c' (snd a)])])) .fail) .fail;.ite (!decide (0<length (snd a))) (.ite (fst a !=(-9223372036854775808)) (.leaf (yn [.dat i64 e',.nil]) ([(zu 0 1,.box [.dat i64 e',.nil]),(0,.box [.dat i64 (fst a),.dat c' (snd a)])])) a') a':=by kernel_rfl
end T97
namespace T96
def T(a b:Int×List Int):Tr:=tree aZ false 9 96 (Ah ([ye i64 (zG (zn zd)),ye i64 (zG (zn zd))]) (a,b))
theorem Ay(a b:Int×List Int):T a b=let b':=Br (Ag (zf (fst a,snd a)));let c':=Br (Ag (zf (fst b,snd b)));let d':=zG (zn zd);let h':=decide (zf (fst a,snd a)<0);let i':=zc .i64 (fst a+fst b);let m':=decide (zf (fst b,snd b)<0);let j':=Br (Ai b'+Ai c');let k':=Br (Ai b'-Ai c');let l':=Br (Ai c'-Ai b');let e':=ym (h') (Ai j');let f':=ym (h') (Ai k');let g':=ym (m') (Ai l');let a':Tr:=.ite (EB (fst a,snd a)) (.ite (EB (fst b,snd b)) (.ite (h'==m') (.ite (yN b'&&yN c') (.ite (By j') (.leaf (yn [.dat i64 (BY e'),.dat d' (BR e')]) ([(zu (zu 0 1) 1,.box [.dat i64 (BY e'),.dat d' (BR e')]),(zu 0 1,.box [.dat i64 (fst b),.dat d' (snd b)]),(0,.box [.dat i64 (fst a),.dat d' (snd a)])])) .fail) .fail) (.ite (By b'&&By c') (.ite (decide (BO (Ai b') (Ai c')≥0)) (.ite (B2 b'&&B2 c'&&decide (Ai c'≤Ai b')) (.ite (By k') (.leaf (yn [.dat i64 (BY f'),.dat d' (BR f')]) ([(zu (zu 0 1) 1,.box [.dat i64 (BY f'),.dat d' (BR f')]),(zu 0 1,.box [.dat i64 (fst b),.dat d' (snd b)]),(0,.box [.dat i64 (fst a),.dat d' (snd a)])])) .fail) .fail) (.ite (B2 c'&&B2 b'&&decide (Ai b'≤Ai c')) (.ite (By l') (.leaf (yn [.dat i64 (BY g'),.dat d' (BR g')]) ([(zu (zu 0 1) 1,.box [.dat i64 (BY g'),.dat d' (BR g')]),(zu 0 1,.box [.dat i64 (fst b),.dat d' (snd b)]),(0,.box [.dat i64 (fst a),.dat d' (snd a)])])) .fail) .fail)) .fail)) .fail) .fail;.ite (!decide (0<length (snd a))) (.ite (!decide (0<length (snd b))) (.ite (decide (zc .i64 (fst a+fst b)>fst a)==decide (fst b>0)) (.leaf (yn [.dat i64 i',.nil]) ([(zu (zu 0 1) 1,.box [.dat i64 i',.nil]),(zu 0 1,.box [.dat i64 (fst b),.dat d' (snd b)]),(0,.box [.dat i64 (fst a),.dat d' (snd a)])])) a') a') a':=by kernel_rfl
end T96
namespace T94
def T(a b:Int×List Int):Tr:=tree aZ false 9 94 (Ah ([ye i64 (zG (zn zd)),ye i64 (zG (zn zd))]) (a,b))
theorem Ay(a b:Int×List Int):T a b=let c':=zG (zn zd);let f':=Ag (fst a);let g':=Ag (fst b);let i':=Br (Ag (zf (fst a,snd a)));let j':=Br (Ag (zf (fst b,snd b)));let d':=Gf f' g';let e':=Br (Ai i'*Ai j');let b':=ym (!decide (zf (fst a,snd a)<0)==decide (zf (fst b,snd b)<0)) (Ai e');let h':=zc .i64 (0-zc .i64 d');let a':Tr:=.ite (EB (fst a,snd a)) (.ite (EB (fst b,snd b)) (.ite (yN i'&&yN j') (.ite (By e') (.leaf (yn [.dat i64 (BY b'),.dat c' (BR b')]) ([(zu (zu 0 1) 1,.box [.dat i64 (BY b'),.dat c' (BR b')]),(zu 0 1,.box [.dat i64 (fst b),.dat c' (snd b)]),(0,.box [.dat i64 (fst a),.dat c' (snd a)])])) .fail) .fail) .fail) .fail;.ite (!decide (0<length (snd a))) (.ite (!decide (0<length (snd b))) (.ite (Hz (fst a)) (.ite (Hz (fst b)) (.ite (zE f'&&zE g') (.ite (NN f' g'==0) (.ite (decide (Gf f' g'≤9223372036854775807)) (.ite (!decide (fst a<0)==decide (fst b<0)) (.leaf (yn [.dat i64 h',.nil]) ([(zu (zu 0 1) 1,.box [.dat i64 h',.nil]),(zu 0 1,.box [.dat i64 (fst b),.dat c' (snd b)]),(0,.box [.dat i64 (fst a),.dat c' (snd a)])])) (.leaf (yn [.dat i64 (zc .i64 d'),.nil]) ([(zu (zu 0 1) 1,.box [.dat i64 (zc .i64 d'),.nil]),(zu 0 1,.box [.dat i64 (fst b),.dat c' (snd b)]),(0,.box [.dat i64 (fst a),.dat c' (snd a)])]))) a') a') .fail) .fail) .fail) a') a':=by kernel_rfl
end T94
namespace T88
def T(a:Int×List Int):Tr:=tree dP false 9 88 (Ah ([ye i64 (zG (zn zd))]) a)
theorem Ay(a:Int×List Int):T a=let a':=zG (zn zd);let b':=GM (fst a,snd a);let c':=Gq (fst a,snd a);.ite (decide (fst a<0)) (.ite (EB (fst a,snd a)) (.leaf (yn [.dat i64 b',.dat a' c']) ([(zu 0 1,.box [.dat i64 b',.dat a' c']),(0,.box [.dat i64 (fst a),.dat a' (snd a)])])) .fail) (.leaf (yn [.dat i64 (fst a),.dat a' (snd a)]) ([(zu 0 1,.box [.dat i64 (fst a),.dat a' (snd a)]),(0,.box [.dat i64 (fst a),.dat a' (snd a)])])):=by kernel_rfl
end T88
namespace T89
def T(a:Int×List Int):Tr:=tree Pn false 9 89 (Ah ([ye i64 (zG (zn zd))]) a)
theorem Ay(a:Int×List Int):T a=.leaf (.dat i64 (imax (-1) (Dr 1 (fst a)))) ([(0,.box [.dat i64 (fst a),.dat (zG (zn zd)) (snd a)])]):=by kernel_rfl
end T89
namespace T98
def T(a b:Int×List Int):Tr:=tree dP false 9 98 (Ah ([ye i64 (zG (zn zd)),ye i64 (zG (zn zd))]) (a,b))
theorem Ay(a b:Int×List Int):T a b=let a':=(GM (fst b,snd b),Gq (fst b,snd b));let b':=zG (zn zd);let c':=JS (fst a,snd a) a';let d':=J4 (fst a,snd a) a';.ite (EB (fst b,snd b)) (.ite (BF (fst a,snd a)&&BF a') (.leaf (yn [.dat i64 c',.dat b' d']) ([(zu (zu 0 1) 1,.box [.dat i64 c',.dat b' d']),(zu 0 1,.box [.dat i64 (fst b),.dat b' (snd b)]),(0,.box [.dat i64 (fst a),.dat b' (snd a)])])) .fail) .fail:=by kernel_rfl
end T98
namespace T42
def T(a b:Int×List Int):Tr:=tree eS false 9 42 (Ah ([ye i64 (zG (zn zd)),ye i64 (zG (zn zd))]) (a,b))
theorem Ay(a b:Int×List Int):T a b=let c':=(VD (fst a,snd a) (fst b,snd b),Wn (fst a,snd a) (fst b,snd b));let d':=zG (zn zd);let a':=[(zu 0 1,.box [.dat i64 (fst b),.dat d' (snd b)]),(0,.box [.dat i64 (fst a),.dat d' (snd a)])];let b':Tr:=.ite (BF (fst a,snd a)&&BF (fst b,snd b)) (.ite (EB c') (.leaf (.dat i64 (Mn c')) a') .fail) .fail;.ite (!decide (0<length (snd a))) (.ite (!decide (0<length (snd b))) (.ite (decide (fst a<fst b)) (.leaf (.dat i64 (-1:Int)) a') (.ite (decide (fst a>fst b)) (.leaf (.dat i64 (1:Int)) a') (.leaf (.dat i64 (0:Int)) a'))) b') b':=by kernel_rfl
end T42
end
end Go.Pe
end
section
namespace Go.Pe
open Sp
open Go.Det
theorem Ys(k:Nat):((Aj^k:Nat):Int)=(Aj:Int)^k:=zS ..
theorem MH{n:Int}{k:Nat}(h0:0≤n)(h:n<(Aj:Int)^k):(Br n).length≤k:=by
 refine On Aj (by decide) k n.toNat n.toNat ?_;rw[←Ys]at h;generalize Aj^k=P at*;omega
theorem Cw{n:Int}{k:Nat}(h0:0≤n)(h:n<(Aj:Int)^k)(hk:k≤20000):By (Br n)=true∧B2 (Br n)=true∧Ai (Br n)=n:=by
 have h1:=MH h0 h;have h2:B2 (Br n)=true:=Da (by omega) (GY (by decide) n);have h3:ZM (Br n)=true:=by
  unfold ZM;exact decide_eq_true (SX (by decide) n)
 exact⟨by unfold By;rw[h2,h3];rfl,h2,CU (by decide) h0⟩
theorem Gd{a:Ba}(h:BF a=true):EB a=true∧a.2.length≤9000:=by
 unfold BF at h;rw[zg,decide_eq_true_eq]at h;exact h
theorem Vb{s:Int}{w:List Int}(hw:w≠[]):zf (s,w)=if s<0 then -Ai w else Ai w:=by unfold zf;exact if_neg hw
theorem QB{a:Ba}(h:EB a=true):(a.2=[]∧Ag (zf a)≤9223372036854775808)∨(Br (Ag (zf a))=a.2):=by
 obtain⟨hr,hw⟩:=DL h;obtain⟨s,w⟩:=a;have hr: -9223372036854775808≤s∧s<9223372036854775808:=hr;rcases hw with hw|⟨h1,h2,h3⟩
 ·have hw:w=[]:=hw;subst hw;refine .inl ⟨rfl,?_⟩;rw[DP];simp only[Ar];omega
 ·obtain⟨n1,n2,n3⟩:=DI (l:=w) h1;have h2:s=1∨s= -1:=h2;have h3:9223372036854775808≤Ai w:=h3;have hne:w≠[]:=by rintro rfl;exact absurd h3 (by decide)
  refine .inr ?_;have e1:Ag (zf (s,w))=Ai w:=by rw[Vb hne];simp only[Ar];split<;>omega
  rw[e1];exact(JZ (by decide) n2 n3).symm
theorem AG(n:Int):0≤Ag n:=by simp only[Ar];omega
theorem JV{a:Ba}(h:EB a=true){k:Nat}(hk:a.2.length≤k)(h1:1≤k):Ag (zf a)<(Aj:Int)^k:=by
 rcases QB h with⟨_,hb⟩|he
 ·have:=AN (b:=Aj) (by decide) h1;rw[Int.pow_one]at this;have h3:(9223372036854775808:Int)<(Aj:Int):=by decide
  exact zL hb (Int.lt_of_lt_of_le h3 this)
 ·have hv:=CU (b:=Aj) (by decide) (AG (zf a));have:=Bi (b:=Aj) (by decide) (GY (b:=Aj) (by decide) (Ag (zf a)));rw[hv,show Sp.dg Aj (Ag (zf a))=a.2 from he]at this;exact Int.lt_of_lt_of_le this (AN (by decide) hk)
theorem Ju{x y:Int}(hx:0≤x)(h1:x<(Aj:Int)^9000)(h2:y<(Aj:Int)^9000):x+y<(Aj:Int)^9001∧x*y<(Aj:Int)^18000:=by
 have e1:(Aj:Int)^9001=(Aj:Int)^9000*Aj:=yO ..;have e2:(Aj:Int)^18000=(Aj:Int)^9000*(Aj:Int)^9000:=Int.pow_add _ 9000 9000;rw[e1,e2];generalize (Aj:Int)^9000=P at*;refine⟨?_,?_⟩
 ·show x+y<P*18446744073709551616;omega
 ·have a:=zp (show y≤P-1 by omega) hx;have b:=zh (show x≤P-1 by omega) (show 0≤P-1 by omega);have c:(P-1)*(P-1)=P*P-P-P+1:=by
   rw[Int.sub_mul,yu];omega
  omega
theorem Cz(n:Bool)(v:Int):ym n v=if n=true then -v else v:=rfl
theorem B6(n:Int):zf (B7 n)=n:=by
 unfold B7;split
 ·exact DP
 ·have hv:=CU (b:=Aj) (by decide) (AG n);have hne:Br (Ag n)≠[]:=by
   intro h;rw[show Sp.dg Aj (Ag n)=[]from h]at hv;have:(0:Int)=Ag n:=hv;simp only[Ar]at this;omega
  rw[Vb hne,show Ai (Br (Ag n))=Ag n from hv];simp only[Ar];split<;>split<;>omega
theorem SG{a:Ba}{c:Bool}(h:(!decide (0<a.2.length))=c):(c=true→a.2=[])∧(c=false→a.2≠[]):=by
 subst h;rcases a with⟨s,w⟩
 cases w<;>simp
theorem Lc{a:Ba}(h:(!decide (0<a.2.length))=true):a.2=[]:=(SG h).1 rfl
theorem WS{a:Ba}(h:(!decide (0<a.2.length))=false):a.2≠[]:=(SG h).2 rfl
theorem Bq{a:Ba}(h:a.2=[]):zf a=a.1:=by unfold zf;exact if_pos h
theorem words{a:Ba}(h:BF a=true):EB a=true∧yN (Br (Ag (zf a)))=true∧By (Br (Ag (zf a)))=true∧B2 (Br (Ag (zf a)))=true∧Ai (Br (Ag (zf a)))=Ag (zf a)∧Ag (zf a)<(Aj:Int)^9000:=by
 obtain⟨h1,h2⟩:=Gd h;have hb:=JV h1 h2 (by omega);obtain⟨n,d,v⟩:=Cw (AG _) hb (by omega);have hl:=MH (AG _) hb;refine⟨h1,?_,n,d,v,hb⟩;unfold yN;rw[d,zJ];exact decide_eq_true hl
theorem Am{a b:Bool}(h1:a=true)(h2:b=true):(a&&b)=true:=by rw[h1,h2];rfl
theorem I1(n:Int):W1 n=if n<0 then -1 else if n>0 then 1 else 0:=rfl
theorem aD{a:Ba}(h:EB a=true):imax (-1) (Dr 1 a.1)=W1 (zf a):=by
 obtain⟨hr,hw⟩:=DL h;obtain⟨s,w⟩:=a;rcases hw with hw|⟨h1,h2,h3⟩
 ·have hw:w=[]:=hw;subst hw;rw[DP,I1,WN];show imax (-1) (if (1:Int)≤s then 1 else s)=_;unfold imax;split<;>split<;>split<;>(try split)<;>omega
 ·have h2:s=1∨s= -1:=h2;have h3:9223372036854775808≤Ai w:=h3;have hne:w≠[]:=by rintro rfl;exact absurd h3 (by decide)
  rw[Vb hne,I1];rcases h2 with rfl|rfl
  ·have e:(if (1:Int)<0 then -Ai w else Ai w)=Ai w:=if_neg (by decide);rw[e,if_neg (show ¬Ai w<0 by omega),if_pos (show Ai w>0 by omega)];show imax (-1) (Dr 1 1)=1;decide
  ·have e:(if (-1:Int)<0 then -Ai w else Ai w)= -Ai w:=if_pos (by decide);rw[e,if_pos (show -Ai w<0 by omega)];show imax (-1) (Dr 1 (-1))= -1;decide
namespace T97
theorem ok:Ac A4 97 VO:=by
 refine AJ (X:=aZ) rfl N1 (d:=9) (by kernel_rfl) (by kernel_rfl) (by kernel_rfl) (fun(a:Int×List Int) ha=>?_) (Ad (by kernel_rfl));have ha:EB a=true:=ha;have hn:By (Br (Ag (zf a)))=true∧Ai (Br (Ag (zf a)))=Ag (zf a):=by
  refine⟨?_,CU (by decide) (AG _)⟩;rcases QB ha with⟨_,hb⟩|he
  ·have:(9223372036854775808:Int)<(Aj:Int)^1:=by decide
   exact(Cw (AG _) (zL hb this) (by omega)).1
  ·obtain⟨_,hw⟩:=DL ha;rw[he];rcases hw with hw|⟨h1,_⟩
   ·rw[hw];decide+kernel
   ·exact h1
 have hv:ym (!decide (zf a<0)) (Ai (Br (Ag (zf a))))= -zf a:=by
  rw[hn.2,Cz,Ar];rcases zy (zf a) 0 with h|h
  ·rw[decide_eq_true h];simp;omega
  ·rw[decide_eq_false (by omega)];simp;omega
 have hr:=(DL ha).1;refine zQ (Ay a) (zk (fun c=>zk (fun d=>zi (zC rfl rfl ?_)) (fun d=>ze ha (ze hn.1 (zi (zC rfl rfl ?_))))) (fun c=>ze ha (ze hn.1 (zi (zC rfl rfl ?_)))))
 ·have c:=Lc c;have d:a.1≠ -9223372036854775808:=by simpa using d
  show(zc .i64 (0-a.1),[])=En a;unfold En;rw[if_pos ⟨c,d⟩,wr _ (by omega) (by omega),Int.zero_sub]
 ·have d:a.1= -9223372036854775808:=by simpa using d
  show B7 (ym (!decide (zf a<0)) (Ai (Br (Ag (zf a)))))=En a;unfold En;rw[if_neg (fun h=>h.2 d),hv]
 ·have c:=WS c;show B7 (ym (!decide (zf a<0)) (Ai (Br (Ag (zf a)))))=En a;unfold En;rw[if_neg (fun h=>c h.1),hv]
end T97
namespace T96
theorem ok:Ac A4 96 Qk:=by
 refine AJ (X:=aZ) rfl N1 (d:=9) (by kernel_rfl) (by kernel_rfl) (by kernel_rfl) (fun(i:(Int×List Int)×(Int×List Int)) hi=>?_) (Ad (by kernel_rfl));obtain⟨a,b⟩:=i;have hi:(BF a&&BF b)=true:=hi;rw[zg]at hi;obtain⟨a1,a2,a3,a4,a5,a6⟩:=words hi.1;obtain⟨b1,b2,b3,b4,b5,b6⟩:=words hi.2;have hra:=(DL a1).1;have hrb:=(DL b1).1;have na:=AG (zf a);have nb:=AG (zf b);obtain⟨t1,_⟩:=Ju na a6 b6;have hq:∀v ob,Fx a b=B7 v→Af Qk (a,b) (.agg [.dat i64 (BY v),.dat (.nlist (.int .u64)) (BR v)]) ob:=fun v ob h=>zC rfl rfl (by
  show B7 v=Fx a b;rw[h])
 have mono:(Aj:Int)^9000≤(Aj:Int)^9001:=AN (by decide) (by omega);have slow1:decide (zf a<0)=decide (zf b<0)→ym (decide (zf a<0)) (Ai (Br (Ai (Br (Ag (zf a)))+Ai (Br (Ag (zf b))))))=zf a+zf b:=by
  intro e;rw[a5,b5,show Ai (Br (Ag (zf a)+Ag (zf b)))=_ from CU (by decide) (by omega),Cz,Ar,Ar];rcases zy (zf a) 0 with h|h
  ·rw[decide_eq_true h]at e ⊢;have:=of_decide_eq_true e.symm;simp only[if_true];omega
  ·rw[decide_eq_false (by omega)]at e ⊢;have:=of_decide_eq_false e.symm;simp only[yo,if_false];omega
 have slow2:decide (zf a<0)≠decide (zf b<0)→Ag (zf b)≤Ag (zf a)→ym (decide (zf a<0)) (Ai (Br (Ai (Br (Ag (zf a)))-Ai (Br (Ag (zf b))))))=zf a+zf b:=by
  intro e hle;rw[a5,b5,show Ai (Br (Ag (zf a)-Ag (zf b)))=_ from CU (by decide) (by omega),Cz,Ar,Ar];rcases zy (zf a) 0 with h|h
  ·rw[decide_eq_true h]at e ⊢;have:¬zf b<0:=fun h=>e (decide_eq_true h).symm
   simp only[if_true];omega
  ·rw[decide_eq_false (by omega)]at e ⊢;have:zf b<0:=by
    rcases zy (zf b) 0 with h|h
    ·exact h
    ·exact absurd (decide_eq_false (by omega)).symm e
   simp only[yo,if_false];omega
 have slow3:decide (zf a<0)≠decide (zf b<0)→Ag (zf a)≤Ag (zf b)→ym (decide (zf b<0)) (Ai (Br (Ai (Br (Ag (zf b)))-Ai (Br (Ag (zf a))))))=zf a+zf b:=by
  intro e hle;rw[a5,b5,show Ai (Br (Ag (zf b)-Ag (zf a)))=_ from CU (by decide) (by omega),Cz,Ar,Ar];rcases zy (zf b) 0 with h|h
  ·rw[decide_eq_true h]at e ⊢;have:¬zf a<0:=fun h=>e (decide_eq_true h)
   simp only[if_true];omega
  ·rw[decide_eq_false (show ¬zf b<0 by omega)]at e ⊢;have:zf a<0:=by
    rcases zy (zf a) 0 with h|h
    ·exact h
    ·exact absurd (decide_eq_false (by omega)) e
   simp only[yo,if_false];omega
 have n1:By (Br (Ai (Br (Ag (zf a)))+Ai (Br (Ag (zf b)))))=true:=by
  rw[a5,b5];exact(Cw (by omega) t1 (by omega)).1
 have n2:Ag (zf b)≤Ag (zf a)→By (Br (Ai (Br (Ag (zf a)))-Ai (Br (Ag (zf b)))))=true:=by
  intro h;rw[a5,b5];exact(Cw (by omega) (zL (by omega) a6) (by omega)).1
 have n3:Ag (zf a)≤Ag (zf b)→By (Br (Ai (Br (Ag (zf b)))-Ai (Br (Ag (zf a)))))=true:=by
  intro h;rw[a5,b5];exact(Cw (by omega) (zL (by omega) b6) (by omega)).1
 have cge:∀ {c:Bool},decide (BO (Ai (Br (Ag (zf a)))) (Ai (Br (Ag (zf b))))≥0)=c→(c=true→Ag (zf b)≤Ag (zf a))∧(c=false→Ag (zf a)≤Ag (zf b)):=by
  intro c h;subst h;rw[a5,b5,decide_eq_true_eq,decide_eq_false_iff_not];unfold BO;constructor
  ·intro h;split at h<;>omega
  ·intro h;split at h
   ·omega
   ·split at h<;>omega
 refine zQ (Ay a b) (zk (fun c1=>zk (fun c2=>zk (fun c3=>zi (zC rfl rfl ?_)) (fun c3=>?_)) (fun c2=>?_)) (fun c1=>?_))
 ·have c1:=Lc c1;have c2:=Lc c2;have hs:zc .i64 (a.1+b.1)=a.1+b.1:=by
   rw[beq_iff_eq]at c3;rcases zy (a.1+b.1) (-9223372036854775808)with h|h
   ·exfalso;have e:zc .i64 (a.1+b.1)=a.1+b.1+18446744073709551616:=by rw[yy];omega
    rw[e,decide_eq_true (by omega),decide_eq_false (by omega)]at c3;cases c3
   ·rcases zy (a.1+b.1) 9223372036854775808 with h2|h2
    ·exact wr _ (by omega) (by omega)
    ·exfalso;have e:zc .i64 (a.1+b.1)=a.1+b.1-18446744073709551616:=by rw[yy];omega
     rw[e,decide_eq_false (by omega),decide_eq_true (by omega)]at c3;cases c3
  have hr:Hz (a.1+b.1)=true:=by
   have: -9223372036854775808≤zc .i64 (a.1+b.1)∧zc .i64 (a.1+b.1)<9223372036854775808:=by rw[yy];omega
   rw[hs]at this;unfold Hz;rw[zg,decide_eq_true_eq,decide_eq_true_eq];exact this
  show(zc .i64 (a.1+b.1),[])=Fx a b;unfold Fx;rw[if_pos ⟨c1,c2,hr⟩,hs]
 all_goals
  have hm:Fx a b=B7 (zf a+zf b):=by
   unfold Fx;refine if_neg (fun h=>?_);obtain⟨h1,h2,h3⟩:=h;first
    |exact WS c1 h1
    |exact WS c2 h2
    |(have h3:=Ep h3
      have hs:zc .i64 (a.1+b.1)=a.1+b.1:=wr _ (by omega) (by omega);rw[hs,beq_eq_false_iff_ne]at c3;refine c3 ?_;rcases zy 0 b.1 with h|h
      ·rw[decide_eq_true (show a.1+b.1>a.1 by omega),decide_eq_true h]
      ·rw[decide_eq_false (show ¬a.1+b.1>a.1 by omega),decide_eq_false (show ¬b.1>0 by omega)])
  refine ze a1 (ze b1 (zk (fun e=>ze (Am a2 b2) (ze n1 (zi (hq _ _ ?_)))) (fun e=>ze (Am a3 b3) (zk (fun d=>ze ?_ (ze (n2 ((cge d).1 rfl)) (zi (hq _ _ ?_)))) (fun d=>ze ?_ (ze (n3 ((cge d).2 rfl)) (zi (hq _ _ ?_))))))))
  ·rw[hm];exact congrArg _ (slow1 (by simpa using e)).symm
  ·refine Am (Am a4 b4) (decide_eq_true ?_);rw[a5,b5];exact(cge d).1 rfl
  ·rw[hm];exact congrArg _ (slow2 (by simpa using e) ((cge d).1 rfl)).symm
  ·refine Am (Am b4 a4) (decide_eq_true ?_);rw[a5,b5];exact(cge d).2 rfl
  ·rw[hm];exact congrArg _ (slow3 (by simpa using e) ((cge d).2 rfl)).symm
end T96
end Go.Pe
end
section
namespace Go.Pe
open Sp
open Go.Det
theorem FL{n:Int}(h1: -9223372036854775808≤n)(h2:n<9223372036854775808):Hz n=true:=by
 unfold Hz;rw[zg,decide_eq_true_eq,decide_eq_true_eq];exact⟨h1,h2⟩
theorem Kx{n:Int}(h:Hz n=true):EB (n,[])=true:=by
 unfold EB;rw[h];rfl
theorem O1{n:Int}{k:Nat}(h:Ag n<(Aj:Int)^k)(hk:k≤20000):EB (B7 n)=true∧(B7 n).2.length≤k:=by
 unfold B7;split
 ·next c=>exact⟨Kx (FL (by omega) (by omega)),Nat.zero_le _⟩
 ·next c=>
  obtain⟨n1,n2,n3⟩:=Cw (AG n) h hk;refine⟨?_,MH (AG n) h⟩;have hb:9223372036854775808≤Ag n:=by rw[Ar];omega
  unfold EB;refine Am (FL ?_ ?_) ?_
  ·show -9223372036854775808≤(if n<0 then -1 else 1);split<;>decide
  ·show(if n<0 then -1 else 1)<9223372036854775808;split<;>decide
  ·rw[yD];refine .inr (Am (Am n1 ?_) (decide_eq_true (by show _≤Ai (Br (Ag n));rw[n3];exact hb)));show(decide ((if n<0 then(-1:Int)else 1)=1)||decide ((if n<0 then(-1:Int)else 1)= -1))=true;split<;>rfl
theorem bC(a:Ba):zf (En a)= -zf a:=by
 unfold En;split
 ·next h=>rw[DP,Bq h.1]
 ·exact B6 _
theorem VE(n:Int):Ag (-n)=Ag n:=by rw[Ar,Ar];omega
theorem aS{a:Ba}(h:EB a=true){k:Nat}(h1:1≤k)(hk:k≤20000)(hl:a.2.length≤k):EB (En a)=true∧(En a).2.length≤k:=by
 have hr:=(DL h).1;unfold En;split
 ·next c=>exact⟨Kx (FL (by omega) (by omega)),Nat.zero_le _⟩
 ·exact O1 (by rw[VE];exact JV h hl h1) hk
theorem cC{a:Ba}(h:BF a=true):BF (En a)=true:=by
 obtain⟨h1,h2⟩:=Gd h;obtain⟨h3,h4⟩:=aS h1 (k:=9000) (by omega) (by omega) h2;unfold BF;exact Am h3 (decide_eq_true h4)
theorem Ye{a:Ba}(h:EB a=true):a.1<0↔zf a<0:=by
 obtain⟨_,hw⟩:=DL h;obtain⟨s,w⟩:=a;rcases hw with hw|⟨_,h2,h3⟩
 ·have hw:w=[]:=hw;subst hw;rw[DP]
 ·have h2:s=1∨s= -1:=h2;have h3:9223372036854775808≤Ai w:=h3;have hne:w≠[]:=by rintro rfl;exact absurd h3 (by decide)
  rw[Vb hne];show s<0↔_;split<;>omega
theorem aU(a b:Ba):zf (Fx a b)=zf a+zf b:=by
 unfold Fx;split
 ·next h=>rw[DP,Bq h.1,Bq h.2.1]
 ·exact B6 _
theorem W5(x y:Int):Ag (x+y)≤Ag x+Ag y:=by
 rw[Ar,Ar,Ar];omega
theorem Kk(x y:Int):Ag (x*y)=Ag x*Ag y:=by
 rw[Ar,Ar,Ar,Int.natAbs_mul,zY]
theorem bounds{a:Ba}(h:BF a=true):Ag (zf a)<(Aj:Int)^9000:=(words h).2.2.2.2.2
theorem aI{a b:Ba}(ha:BF a=true)(hb:BF b=true):EB (Fx a b)=true:=by
 unfold Fx;split
 ·next h=>exact Kx h.2.2
 ·exact(O1 (zL (W5 _ _) (Ju (AG _) (bounds ha) (bounds hb)).1) (by omega)).1
theorem Zx(a b:Ba):zf (Ke a b)=zf a-zf b:=by
 unfold Ke;rw[aU,bC];omega
theorem aE(a b:Ba):zf (UJ a b)=zf a*zf b:=B6 _
theorem S8:∀g sp,dP.sp g=some sp→Ac A4 g sp:=
 Ab T97.ok (Ab T96.ok (fun g sp h=>by cases h))
namespace T89
theorem ok:Ac A4 89 Ov:=by
 refine AJ (X:=Pn) rfl Hj (d:=9) (by kernel_rfl) (by kernel_rfl) (by kernel_rfl) (fun(a:Int×List Int) ha=>?_) (Ad (by kernel_rfl));have ha:EB a=true:=ha;exact zQ (Ay a) (zi (zC rfl rfl (aD ha)))
end T89
namespace T88
theorem ok:Ac A4 88 Y4:=by
 refine AJ (X:=dP) rfl S8 (d:=9) (by kernel_rfl) (by kernel_rfl) (by kernel_rfl) (fun(a:Int×List Int) ha=>?_) (Ad (by kernel_rfl));have ha:EB a=true:=ha;refine zQ (Ay a) (zk (fun c=>ze ha (zi (zC rfl rfl ?_))) (fun c=>zi (zC rfl rfl ?_)))
 ·show En a=QF a;unfold QF;rw[if_pos (of_decide_eq_true c)]
 ·show a=QF a;unfold QF;rw[if_neg (of_decide_eq_false c)]
end T88
namespace T98
theorem ok:Ac A4 98 Wm:=by
 refine AJ (X:=dP) rfl S8 (d:=9) (by kernel_rfl) (by kernel_rfl) (by kernel_rfl) (fun(i:(Int×List Int)×(Int×List Int)) hi=>?_) (Ad (by kernel_rfl));obtain⟨a,b⟩:=i;have hi:(BF a&&BF b)=true:=hi;rw[zg]at hi;exact zQ (Ay a b) (ze (Gd hi.2).1 (ze (Am hi.1 (cC hi.2)) (zi (zC rfl rfl rfl))))
end T98
theorem YM:∀g sp,eS.sp g=some sp→Ac A4 g sp:=
 Ab T98.ok (Ab T89.ok (fun g sp h=>by cases h))
theorem Yu(x y:Int):W1 (x-y)=BO x y:=by
 unfold W1 BO;split
 ·rw[if_pos (by omega)]
 ·split
  ·rw[if_neg (by omega),if_pos (by omega)]
  ·rw[if_neg (by omega),if_neg (by omega)]
namespace T42
theorem ok:Ac A4 42 Zb:=by
 refine AJ (X:=eS) rfl YM (d:=9) (by kernel_rfl) (by kernel_rfl) (by kernel_rfl) (fun(i:(Int×List Int)×(Int×List Int)) hi=>?_) (Ad (by kernel_rfl));obtain⟨a,b⟩:=i;have hi:(BF a&&BF b)=true:=hi;have hi2:=hi;rw[zg]at hi2;have hs:EB (Ke a b)=true:=by
  unfold Ke;exact aI hi2.1 (cC hi2.2)
 have hv:Mn (Ke a b)=V9 a b:=by
  show W1 (zf (Ke a b))=BO (zf a) (zf b);rw[Zx,Yu]
 refine zQ (Ay a b) (zk (fun c1=>zk (fun c2=>zk (fun d=>zi (zC rfl rfl ?_)) (fun d=>zk (fun e=>zi (zC rfl rfl ?_)) (fun e=>zi (zC rfl rfl ?_)))) (fun c2=>ze hi (ze hs (zi (zC rfl rfl hv))))) (fun c1=>ze hi (ze hs (zi (zC rfl rfl hv)))));all_goals
  have e1:=Bq (Lc c1);have e2:=Bq (Lc c2);show _=BO (zf a) (zf b);rw[e1,e2];unfold BO
 ·rw[if_pos (of_decide_eq_true d)]
 ·rw[if_neg (of_decide_eq_false d),if_pos (of_decide_eq_true e)]
 ·rw[if_neg (of_decide_eq_false d),if_neg (of_decide_eq_false e)]
end T42
theorem NV(x y:Int):x*y=ym (!(decide (x<0)==decide (y<0))) (Ag x*Ag y):=by
 unfold Ag;rw[Cz];by_cases h1:x<0<;>by_cases h2:y<0<;>simp[h1,h2,Int.neg_mul,Int.mul_neg]
namespace T94
theorem ok:Ac A4 94 Sq:=by
 refine AJ (X:=aZ) rfl N1 (d:=9) (by kernel_rfl) (by kernel_rfl) (by kernel_rfl) (fun(i:(Int×List Int)×(Int×List Int)) hi=>?_) (Ad (by kernel_rfl));obtain⟨a,b⟩:=i;have hi:(BF a&&BF b)=true:=hi;rw[zg]at hi;obtain⟨a1,a2,a3,a4,a5,a6⟩:=words hi.1;obtain⟨b1,b2,b3,b4,b5,b6⟩:=words hi.2;have hra:=(DL a1).1;have hrb:=(DL b1).1;have na:=AG (zf a);have nb:=AG (zf b);obtain⟨_,t2⟩:=Ju na a6 b6;have np:0≤Ag (zf a)*Ag (zf b):=zr na nb;have n1:By (Br (Ai (Br (Ag (zf a)))*Ai (Br (Ag (zf b)))))=true:=by
  rw[a5,b5];exact(Cw np t2 (by omega)).1
 have hv:ym (!(decide (zf a<0)==decide (zf b<0))) (Ai (Br (Ai (Br (Ag (zf a)))*Ai (Br (Ag (zf b))))))=zf a*zf b:=by
  rw[a5,b5,show Ai (Br (Ag (zf a)*Ag (zf b)))=_ from CU (by decide) np, ←NV]
 have hq:∀ob,Af Sq (a,b) (.agg [.dat i64 (BY (ym (!(decide (zf a<0)==decide (zf b<0))) (Ai (Br (Ai (Br (Ag (zf a)))*Ai (Br (Ag (zf b)))))))),.dat (.nlist (.int .u64)) (BR (ym (!(decide (zf a<0)==decide (zf b<0))) (Ai (Br (Ai (Br (Ag (zf a)))*Ai (Br (Ag (zf b))))))))]) ob:=fun ob=>zC rfl rfl (by
  show B7 _=B7 (zf a*zf b);rw[hv])
 have ua:zE (Ag a.1)=true:=BV (AG _) (by rw[Ar];omega);have ub:zE (Ag b.1)=true:=BV (AG _) (by rw[Ar];omega);refine zQ (Ay a b) (zk (fun c1=>zk (fun c2=>ze (FL hra.1 hra.2) (ze (FL hrb.1 hrb.2) (ze (Am ua ub) (zk (fun c3=>zk (fun c4=>zk (fun c5=>zi (zC rfl rfl ?_)) (fun c5=>zi (zC rfl rfl ?_))) (fun c4=>?_)) (fun c3=>?_))))) (fun c2=>?_)) (fun c1=>?_))
 ·have e1:=Bq (Lc c1);have e2:=Bq (Lc c2);have c3:(Ag a.1*Ag b.1)/18446744073709551616=0:=by simpa [NN]using c3
  have c4:(Ag a.1*Ag b.1) % 18446744073709551616≤9223372036854775807:=of_decide_eq_true c4;have p0:0≤Ag a.1*Ag b.1:=zr (AG _) (AG _);have hm:=NV a.1 b.1;have c5:(!(decide (a.1<0)==decide (b.1<0)))=true:=c5;rw[c5,Cz,if_pos rfl]at hm;show(zc .i64 (0-zc .i64 ((Ag a.1*Ag b.1) % 18446744073709551616)),[])=B7 (zf a*zf b);rw[e1,e2,hm,Bt (by omega),wr ((Ag a.1*Ag b.1) % 18446744073709551616) (by omega) (by omega),wr _ (by omega) (by omega)];congr 1;omega
 ·have e1:=Bq (Lc c1);have e2:=Bq (Lc c2);have c3:(Ag a.1*Ag b.1)/18446744073709551616=0:=by simpa [NN]using c3
  have c4:(Ag a.1*Ag b.1) % 18446744073709551616≤9223372036854775807:=of_decide_eq_true c4;have p0:0≤Ag a.1*Ag b.1:=zr (AG _) (AG _);have hm:=NV a.1 b.1;have c5:(!(decide (a.1<0)==decide (b.1<0)))=false:=c5;rw[c5,Cz,if_neg (by decide)]at hm;show(zc .i64 ((Ag a.1*Ag b.1) % 18446744073709551616),[])=B7 (zf a*zf b);rw[e1,e2,hm,Bt (by omega),wr ((Ag a.1*Ag b.1) % 18446744073709551616) (by omega) (by omega)];congr 1;omega
 all_goals exact ze a1 (ze b1 (ze (Am a2 b2) (ze n1 (zi (hq _)))))
end T94
end Go.Pe
end
section
namespace Go.Sp
def ER(n:Int):Int:=if n≤0 then 0 else(n.toNat.log2:Int)+1
def lz(n:Int):Int:=64-ER n
def dq(h l y:Int):Int:=(h*18446744073709551616+l)/y
def dr(h l y:Int):Int:=(h*18446744073709551616+l) % y
end Go.Sp
namespace Go.Pe
open Go.Det
noncomputable section
noncomputable def UY:Az:=⟨[u64],fun n=>zE n,[i64],fun n=>Sp.ER n,false⟩
noncomputable def bZ:Az:=⟨[u64],fun n=>zE n,[i64],fun n=>Sp.lz n,false⟩
noncomputable def OY:Az:=⟨[u64,u64,u64],fun i=>zE i.1&&zE i.2.1&&zE i.2.2&&decide ((i.1:Int)<i.2.2),[u64,u64],fun i=>(Sp.dq i.1 i.2.1 i.2.2,Sp.dr i.1 i.2.1 i.2.2),false⟩
noncomputable def eN:A2:=X7 [(178,UY)]
noncomputable def Wv:A2:=X7 [(198,bZ)]
end
noncomputable section
open List Int Prod
namespace T178
def T(x:Int):Tr:=tree Pn false 9 178 (Ah ([zn zd]) x)
theorem Ay(x:Int):T x=let a':=([0,1,2,2,3,3,3,3,4,4,4,4,4,4,4,4,5,5,5,5,5,5,5,5,5,5,5,5,5,5,5,5,6,6,6,6,6,6,6,6,6,6,6,6,6,6,6,6,6,6,6,6,6,6,6,6,6,6,6,6,6,6,6,6,7,7,7,7,7,7,7,7,7,7,7,7,7,7,7,7,7,7,7,7,7,7,7,7,7,7,7,7,7,7,7,7,7,7,7,7,7,7,7,7,7,7,7,7,7,7,7,7,7,7,7,7,7,7,7,7,7,7,7,7,7,7,7,7,8,8,8,8,8,8,8,8,8,8,8,8,8,8,8,8,8,8,8,8,8,8,8,8,8,8,8,8,8,8,8,8,8,8,8,8,8,8,8,8,8,8,8,8,8,8,8,8,8,8,8,8,8,8,8,8,8,8,8,8,8,8,8,8,8,8,8,8,8,8,8,8,8,8,8,8,8,8,8,8,8,8,8,8,8,8,8,8,8,8,8,8,8,8,8,8,8,8,8,8,8,8,8,8,8,8,8,8,8,8,8,8,8,8,8,8,8,8,8,8,8,8,8,8,8,8,8,8]:List UInt8);let b':=zo x (2^32);let c':=(0:Sh.T (zn yL));let e':=zo x (2^16);let i':=zo x (2^8);let d':=zo b' (2^16);let g':=zo b' (2^8);let h':=zo e' (2^8);let f':=zo d' (2^8);.ite (decide (x≥4294967296)) (.ite true (.ite (decide (zo x (2^32)≥65536)) (.ite true (.ite (decide (zo b' (2^16)≥256)) (.ite true (.ite (decide (c'≤zc .u8 f')&&decide (zc .u8 f'<(↑256:Int))) (.leaf (.dat i64 (zc .i64 (zc .i64 (zc .i64 (32+16)+8)+zc .i64 (↑(zK (getD a' (toNat (zc .u8 f')) (0:UInt8))):Int)))) []) .fail) .fail) (.ite (decide (c'≤zc .u8 d')&&decide (zc .u8 d'<(↑256:Int))) (.leaf (.dat i64 (zc .i64 (zc .i64 (32+16)+zc .i64 (↑(zK (getD a' (toNat (zc .u8 d')) (0:UInt8))):Int)))) []) .fail)) .fail) (.ite (decide (zo x (2^32)≥256)) (.ite true (.ite (decide (c'≤zc .u8 g')&&decide (zc .u8 g'<(↑256:Int))) (.leaf (.dat i64 (zc .i64 (zc .i64 (32+8)+zc .i64 (↑(zK (getD a' (toNat (zc .u8 g')) (0:UInt8))):Int)))) []) .fail) .fail) (.ite (decide (c'≤zc .u8 b')&&decide (zc .u8 b'<(↑256:Int))) (.leaf (.dat i64 (zc .i64 (32+zc .i64 (↑(zK (getD a' (toNat (zc .u8 b')) (0:UInt8))):Int)))) []) .fail))) .fail) (.ite (decide (x≥65536)) (.ite true (.ite (decide (zo x (2^16)≥256)) (.ite true (.ite (decide (c'≤zc .u8 h')&&decide (zc .u8 h'<(↑256:Int))) (.leaf (.dat i64 (zc .i64 (zc .i64 (zc .i64 (0+16)+8)+zc .i64 (↑(zK (getD a' (toNat (zc .u8 h')) (0:UInt8))):Int)))) []) .fail) .fail) (.ite (decide (c'≤zc .u8 e')&&decide (zc .u8 e'<(↑256:Int))) (.leaf (.dat i64 (zc .i64 (zc .i64 (0+16)+zc .i64 (↑(zK (getD a' (toNat (zc .u8 e')) (0:UInt8))):Int)))) []) .fail)) .fail) (.ite (decide (x≥256)) (.ite true (.ite (decide (c'≤zc .u8 i')&&decide (zc .u8 i'<(↑256:Int))) (.leaf (.dat i64 (zc .i64 (zc .i64 (0+8)+zc .i64 (↑(zK (getD a' (toNat (zc .u8 i')) (0:UInt8))):Int)))) []) .fail) .fail) (.ite (decide (c'≤zc .u8 x)&&decide (zc .u8 x<(↑256:Int))) (.leaf (.dat i64 (zc .i64 (0+zc .i64 (↑(zK (getD a' (toNat (zc .u8 x)) (0:UInt8))):Int)))) []) .fail))):=by kernel_rfl
end T178
namespace T198
def T(x:Int):Tr:=tree eN false 9 198 (Ah ([zn zd]) x)
theorem Ay(x:Int):T x=.ite (zE x) (.leaf (.dat i64 (zc .i64 (64-Sp.ER x))) []) .fail:=by kernel_rfl
end T198
namespace T196
def T(hi lo y:Int):Tr:=tree Wv false 9 196 (Ah ([zn zd,zn zd,zn zd]) (hi,lo,y))
def L1(v2 v8 v9 v10 v11 v13 v14 v15 v16:Int):Tr:=re ((T 0 0 0).R.R.R.L.L.L.L.L.L.L.L) (AB 135 [(2,.dat (zn zd) v2),(8,.dat (zn zd) v8),(9,.dat (zn zd) v9),(10,.dat (zn zd) v10),(11,.dat (zn zd) v11),(13,.dat (zn zd) v13),(14,.dat (zn zd) v14),(15,.dat (zn zd) v15),(16,.dat (zn zd) v16)] [] 0)
theorem Ay(hi lo y:Int):T hi lo y=let e':=decide (0≤zc .u64 (Sp.lz y));let i':=64-zc .u64 (Sp.lz y);let j':=zc .u64 (Sp.lz y);let c':=toNat j';let d':=zo lo (2^yA (toNat (zc .u64 i')) 64);let a':=zc .u64 (y*2^yA c' 64);let f':=zc .u64 (lo*2^yA c' 64);let g':=zc .u64 (hi*2^yA c' 64);let b':=TV zd g' d';let h':=zo a' (2^32);.ite (y==0) .fail (.ite (decide (y≤hi)) .fail (.ite (hi==0) (.ite (decide (y≠0)) (.ite (decide (y≠0)) (.leaf (.tup [.dat (zn zd) (zc .u64 (zH lo y)),.dat (zn zd) (yP lo y)]) []) .fail) .fail) (.ite (zE y) (.ite e' (.ite true (.ite e' (.ite (decide (0≤zc .u64 i')) (.ite e' (.ite true (.ite (decide (zo a' (2^32)≠0)) (L1 a' j' h' (FV zd a' 4294967295) b' (zo f' (2^32)) (FV zd f' 4294967295) (zc .u64 (zH b' h')) (zc .u64 (TV zd g' d'-zc .u64 (zc .u64 (zH b' h')*zo a' (2^32))))) .fail) .fail) .fail) .fail) .fail) .fail) .fail) .fail))):=by kernel_rfl
def L2(v2 v8 v9 v10 v14 v15 v16 v17 v18:Int):Tr:=re ((stepT Wv (L1 0 0 0 0 0 0 0 0 0)).L.L.L) (AB 135 [(2,.dat (zn zd) v2),(8,.dat (zn zd) v8),(9,.dat (zn zd) v9),(10,.dat (zn zd) v10),(14,.dat (zn zd) v14),(15,.dat (zn zd) v15),(16,.dat (zn zd) v16),(17,.dat (zn zd) v17),(18,.dat (zn zd) v18)] [] 0)
theorem Ap(v2 v8 v9 v10 v11 v13 v14 v15 v16:Int):stepT Wv (L1 v2 v8 v9 v10 v11 v13 v14 v15 v16)=let f':=zc .u64 (v11*4294967296)+v13;let g':=zc .u64 (v15-1);let b':=zc .u64 f'-zc .u64 (zc .u64 (v15-1)*v2);let c':=zc .u64 f'-zc .u64 (v15*v2);let d':=zc .u64 c';let e':=zc .u64 b';let a':Tr:=.ite (decide (zc .u64 (v16+v9)≥4294967296)) (.ite (decide (v9≠0)) (L2 v2 v8 v9 v10 v14 g' (zc .u64 (zc .u64 b'-zc .u64 (zc .u64 (zH e' v9)*v9))) e' (zc .u64 (zH e' v9))) .fail) (L1 v2 v8 v9 v10 v11 v13 v14 g' (zc .u64 (v16+v9)));.ite (decide (v15≥4294967296)) a' (.ite (decide (zc .u64 (v15*v10)>zc .u64 (zc .u64 (4294967296*v16)+v13))) a' (.ite (decide (v9≠0)) (L2 v2 v8 v9 v10 v14 v15 (zc .u64 (zc .u64 c'-zc .u64 (zc .u64 (zH d' v9)*v9))) d' (zc .u64 (zH d' v9))) .fail)):=by kernel_rfl
theorem AS(v2 v8 v9 v10 v14 v15 v16 v17 v18:Int):stepT Wv (L2 v2 v8 v9 v10 v14 v15 v16 v17 v18)=let b':=zn zd;let c':=zc .u64 (v17*4294967296)+v14;let d':=2^yA (toNat v8) 64;let a':Tr:=.ite (decide (zc .u64 (v16+v9)≥4294967296)) (.ite (decide (0≤v8)) (.leaf (.tup [.dat b' (zc .u64 (zc .u64 (v15*4294967296)+zc .u64 (v18-1))),.dat b' (zo (zc .u64 (zc .u64 c'-zc .u64 (zc .u64 (v18-1)*v2))) d')]) []) .fail) (L2 v2 v8 v9 v10 v14 v15 (zc .u64 (v16+v9)) v17 (zc .u64 (v18-1)));.ite (decide (v18≥4294967296)) a' (.ite (decide (zc .u64 (v18*v10)>zc .u64 (zc .u64 (4294967296*v16)+v14))) a' (.ite (decide (0≤v8)) (.leaf (.tup [.dat b' (zc .u64 (zc .u64 (v15*4294967296)+v18)),.dat b' (zo (zc .u64 (zc .u64 c'-zc .u64 (v18*v2))) d')]) []) .fail)):=by kernel_rfl
end T196
end
namespace T196
variable {Q:PV→Ob→Prop}
def Exact(Y u w q:Int):Prop:=q*Y≤u*4294967296+w∧u*4294967296+w<(q+1)*Y
theorem R3{Y y1 y0 u w q r:Int}(hY:Y=y1*4294967296+y0)(he:q*y1+r=u)(h:q*y0>4294967296*r+w):u*4294967296+w<q*Y:=by
 subst hY;rw[zA, ←zw];generalize q*y1=A at*;generalize q*y0=C at*;omega
theorem Ie{Y y1 y0 u w q r:Int}(hY:Y=y1*4294967296+y0)(he:q*y1+r=u)(h:q*y0≤4294967296*r+w):q*Y≤u*4294967296+w:=by
 subst hY;rw[zA, ←zw];generalize q*y1=A at*;generalize q*y0=C at*;omega
theorem Qo{Y u w q:Int}(hu:u<Y)(hY:0≤Y)(hw:w<4294967296)(hq:4294967296≤q):u*4294967296+w<q*Y:=by
 have:=zh hq hY;omega
theorem PY{y1 y0 u w r:Int}{n:Nat}{Y:Int}(hY:Y=y1*4294967296+y0)(h1:0≤y1)(h0:0≤y0∧y0<4294967296)(hu:u<Y)(hw:0≤w)(he:(n:Int)*y1+r=u)(hr:4294967296≤r):(n:Int)*Y≤u*4294967296+w:=by
 have hn:(n:Int)<4294967296:=by
  rcases zy (n:Int) 4294967296 with h|h
  ·exact h
  ·have:=zh h h1;omega
 refine Ie hY he ?_;have a:=zh (show(n:Int)≤4294967295 by omega) h0.1;omega
theorem Aq(Y s y1 y0 u w z:Int)(hY:Y=y1*4294967296+y0)(h1:0<y1∧y1<4294967296)(h0:0≤y0∧y0<4294967296)(hu:u<Y)(hw:0≤w∧w<4294967296)
  (hx:∀q:Int,0≤q→Exact Y u w q→Ends Wv (L2 Y s y1 y0 z q (zc zd (zc zd (zc zd (zc zd (u*(4294967296:Int))+w)-zc zd (q*Y))-zc zd (zc zd (zH (zc zd (zc zd (zc zd (u*(4294967296:Int))+w)-zc zd (q*Y))) y1)*y1))) (zc zd (zc zd (zc zd (u*(4294967296:Int))+w)-zc zd (q*Y))) (zc zd (zH (zc zd (zc zd (zc zd (u*(4294967296:Int))+w)-zc zd (q*Y))) y1))) Q):
  ∀(n:Nat) (r:Int),(n:Int)<18446744073709551616→(n:Int)*y1+r=u→0≤r→r<4294967296→u*4294967296+w<((n:Int)+1)*Y→Ends Wv (L1 Y s y1 y0 u w z n r) Q:=by
 intro n;induction n with
 |zero=>
  intro r hn he r0 r1 hup;have hz:decide (y1≠0)=true:=decide_eq_true (by omega);refine z7 (Ap ..) (zU (by simp) (zU (decide_eq_false ?_) (ze hz (hx _ (by omega) ⟨?_,hup⟩))))
  ·rw[show((0:Nat):Int)*y0=0 by simp,wu 0 (by omega) (by omega),wu (4294967296*r) (by omega) (by omega),wu _ (by omega) (by omega)];omega
  ·exact Ie hY he (by rw[show((0:Nat):Int)*y0=0 by simp];omega)
 |succ n ih=>
  intro r hn he r0 r1 hup;have hz:decide (y1≠0)=true:=decide_eq_true (by omega);have e1:zc .u64 (((n+1:Nat):Int)-1)=(n:Int):=by rw[wu _ (by omega) (by omega)];omega
  have e2:zc .u64 (r+y1)=r+y1:=wu _ (by omega) (by omega);have hY0:0≤Y:=by omega
  have he':(n:Int)*y1+(r+y1)=u:=by
   rw[show((n+1:Nat):Int)=(n:Int)+1 by omega,zB,zP]at he;omega
  have ec:((n+1:Nat):Int)=(n:Int)+1:=by omega
  have dec:u*4294967296+w<((n:Int)+1)*Y→r+y1<4294967296→Ends Wv (L1 Y s y1 y0 u w z n (r+y1)) Q:=fun h1' h2'=>
   ih (r+y1) (by omega) he' (by omega) h2' h1'
  have cut:u*4294967296+w<((n:Int)+1)*Y→4294967296≤r+y1→Exact Y u w n:=fun h1' h2'=>
   ⟨PY hY (by omega) h0 hu hw.1 he' h2',h1'⟩
  refine z7 (Ap ..) ?_;conv=>zeta
  rw[e1,e2];refine zk (fun c=>?_) (fun c=>zk (fun d=>?_) (fun d=>?_))
  ·have c:=of_decide_eq_true c;have hb:u*4294967296+w<((n:Int)+1)*Y:=by rw[←ec];exact Qo hu hY0 hw.2 c
   exact zk (fun e=>ze hz (hx _ (by omega) (cut hb (of_decide_eq_true e)))) (fun e=>dec hb (by have:=of_decide_eq_false e;omega))
  ·have c:=of_decide_eq_false c;have d:=of_decide_eq_true d;have a:=zh (show((n+1:Nat):Int)≤4294967295 by omega) h0.1;have b:=zr (show 0≤((n+1:Nat):Int)by omega) h0.1;rw[wu (((n+1:Nat):Int)*y0) (by omega) (by omega),wu (4294967296*r) (by omega) (by omega),wu _ (by omega) (by omega)]at d;have hb:u*4294967296+w<((n:Int)+1)*Y:=by rw[←ec];exact R3 hY he d
   exact zk (fun e=>ze hz (hx _ (by omega) (cut hb (of_decide_eq_true e)))) (fun e=>dec hb (by have:=of_decide_eq_false e;omega))
  ·have c:=of_decide_eq_false c;have d:=of_decide_eq_false d;have a:=zh (show((n+1:Nat):Int)≤4294967295 by omega) h0.1;have b:=zr (show 0≤((n+1:Nat):Int)by omega) h0.1;rw[wu (((n+1:Nat):Int)*y0) (by omega) (by omega),wu (4294967296*r) (by omega) (by omega),wu _ (by omega) (by omega)]at d;exact ze hz (hx _ (by omega) ⟨Ie hY he (by omega),hup⟩)
theorem Be(Y s y1 y0 u w p:Int)(hY:Y=y1*4294967296+y0)(h1:0<y1∧y1<4294967296)(h0:0≤y0∧y0<4294967296)(hu:u<Y)(hw:0≤w∧w<4294967296)(hs:0≤s)
  (hx:∀q:Int,0≤q→Exact Y u w q→∀ob,Q (PV.tup [PV.dat (zn zd) (zc zd (zc zd (p*(4294967296:Int))+q)),PV.dat (zn zd) (zo (zc zd (zc zd (zc zd (u*(4294967296:Int))+w)-zc zd (q*Y))) ((2:Int)^yA (yI s) (64:Nat)))]) ob):
  ∀(n:Nat) (r:Int),(n:Int)<18446744073709551616→(n:Int)*y1+r=u→0≤r→r<4294967296→u*4294967296+w<((n:Int)+1)*Y→Ends Wv (L2 Y s y1 y0 w p r u n) Q:=by
 intro n;induction n with
 |zero=>
  intro r hn he r0 r1 hup;have hz:decide (0≤s)=true:=decide_eq_true hs;refine z7 (AS ..) (zU (by simp) (zU (decide_eq_false ?_) (ze hz (zi (hx _ (by omega) ⟨?_,hup⟩ _)))))
  ·rw[show((0:Nat):Int)*y0=0 by simp,wu 0 (by omega) (by omega),wu (4294967296*r) (by omega) (by omega),wu _ (by omega) (by omega)];omega
  ·exact Ie hY he (by rw[show((0:Nat):Int)*y0=0 by simp];omega)
 |succ n ih=>
  intro r hn he r0 r1 hup;have hz:decide (0≤s)=true:=decide_eq_true hs;have e1:zc .u64 (((n+1:Nat):Int)-1)=(n:Int):=by rw[wu _ (by omega) (by omega)];omega
  have e2:zc .u64 (r+y1)=r+y1:=wu _ (by omega) (by omega);have hY0:0≤Y:=by omega
  have he':(n:Int)*y1+(r+y1)=u:=by
   rw[show((n+1:Nat):Int)=(n:Int)+1 by omega,zB,zP]at he;omega
  have ec:((n+1:Nat):Int)=(n:Int)+1:=by omega
  have dec:u*4294967296+w<((n:Int)+1)*Y→r+y1<4294967296→Ends Wv (L2 Y s y1 y0 w p (r+y1) u n) Q:=fun h1' h2'=>
   ih (r+y1) (by omega) he' (by omega) h2' h1'
  have cut:u*4294967296+w<((n:Int)+1)*Y→4294967296≤r+y1→Exact Y u w n:=fun h1' h2'=>
   ⟨PY hY (by omega) h0 hu hw.1 he' h2',h1'⟩
  refine z7 (AS ..) ?_;conv=>zeta
  rw[e1,e2];refine zk (fun c=>?_) (fun c=>zk (fun d=>?_) (fun d=>?_))
  ·have c:=of_decide_eq_true c;have hb:u*4294967296+w<((n:Int)+1)*Y:=by rw[←ec];exact Qo hu hY0 hw.2 c
   exact zk (fun e=>ze hz (zi (hx _ (by omega) (cut hb (of_decide_eq_true e)) _))) (fun e=>dec hb (by have:=of_decide_eq_false e;omega))
  ·have c:=of_decide_eq_false c;have d:=of_decide_eq_true d;have a:=zh (show((n+1:Nat):Int)≤4294967295 by omega) h0.1;have b:=zr (show 0≤((n+1:Nat):Int)by omega) h0.1;rw[wu (((n+1:Nat):Int)*y0) (by omega) (by omega),wu (4294967296*r) (by omega) (by omega),wu _ (by omega) (by omega)]at d;have hb:u*4294967296+w<((n:Int)+1)*Y:=by rw[←ec];exact R3 hY he d
   exact zk (fun e=>ze hz (zi (hx _ (by omega) (cut hb (of_decide_eq_true e)) _))) (fun e=>dec hb (by have:=of_decide_eq_false e;omega))
  ·have c:=of_decide_eq_false c;have d:=of_decide_eq_false d;have a:=zh (show((n+1:Nat):Int)≤4294967295 by omega) h0.1;have b:=zr (show 0≤((n+1:Nat):Int)by omega) h0.1;rw[wu (((n+1:Nat):Int)*y0) (by omega) (by omega),wu (4294967296*r) (by omega) (by omega),wu _ (by omega) (by omega)]at d;exact ze hz (zi (hx _ (by omega) ⟨Ie hY he (by omega),hup⟩ _))
end T196
theorem P0{y:Int}(h1:0<y)(h2:y<18446744073709551616):∃s:Nat,Sp.lz y=(s:Int)∧s≤63∧y*2^s<18446744073709551616∧9223372036854775808≤y*2^s:=by
 obtain⟨n,rfl⟩:=zq (zz h1);have hn:n≠0:=by omega
 have hk:n.log2<64:=(Nat.log2_lt hn).2 (by omega);have a:=Nat.log2_self_le hn;have b:=Nat.lt_log2_self (n:=n);have e1:2^n.log2*2^(63-n.log2)=2^63:=by rw[←yG];congr 1;omega
 have e2:2^(n.log2+1)*2^(63-n.log2)=2^64:=by rw[←yG];congr 1;omega
 have c1:2^63≤n*2^(63-n.log2):=by rw[←e1];exact Nat.mul_le_mul_right _ a
 have c2:n*2^(63-n.log2)<2^64:=by rw[←e2];exact Nat.mul_lt_mul_of_pos_right b (yE _)
 refine⟨63-n.log2,?_,by omega,?_,?_⟩
 ·unfold Sp.lz Sp.ER;rw[if_neg (by omega),zj];omega
 ·have:((n*2^(63-n.log2):Nat):Int)<18446744073709551616:=by omega
  rw[zY,zS]at this;exact this
 ·have:(9223372036854775808:Int)≤((n*2^(63-n.log2):Nat):Int):=by omega
  rw[zY,zS]at this;exact this
theorem SN{a b:Int}{s:Nat}(ha:0≤a)(hb:0≤b)(h:b<2^s)(hm:a*2^s+b<18446744073709551616):TV .u64 (a*2^s) b=a*2^s+b:=by
 obtain⟨m,rfl⟩:=zq ha;obtain⟨k,rfl⟩:=zq hb;have ep:((m:Int)*2^s)=((m*2^s:Nat):Int):=by rw[zY,zS];rfl
 have hk:k<2^s:=by
  have e:((2:Int)^s)=((2^s:Nat):Int):=by rw[zS];rfl
  rw[e]at h;omega
 rw[ep]at hm ⊢;have e:(zI 64 ((m*2^s:Nat):Int)|||zI 64 (k:Int)).toNat=m*2^s+k:=by
  rw[BitVec.toNat_or,yf,yf,yj,yj,yw (by omega),yw (by omega),Nat.mul_comm m,Nat.two_pow_add_eq_or_of_lt hk]
 show zc .u64 (((zI 64 ((m*2^s:Nat):Int)|||zI 64 (k:Int)).toNat:Nat):Int)=_;rw[e,VY _ (by omega)];omega
namespace T196
theorem start{u y1 y0 Y w:Int}(hY:Y=y1*4294967296+y0)(h1:0<y1∧y1<4294967296)(h0:0≤y0)(hu:0≤u∧u<18446744073709551616)(hw:w<4294967296):
  ∃(n:Nat) (r:Int),zc .u64 (zH u y1)=(n:Int)∧zc .u64 (u-zc .u64 ((n:Int)*y1))=r∧(n:Int)<18446744073709551616∧(n:Int)*y1+r=u∧0≤r∧r<4294967296∧u*4294967296+w<((n:Int)+1)*Y:=by
 have q0:0≤u/y1:=yF hu.1 (by omega);have q1:u/y1≤u:=Int.ediv_le_self _ hu.1;have ed:=Int.mul_ediv_add_emod u y1;have r0:=Int.emod_nonneg u (show y1≠0 by omega);have r1:=Int.emod_lt_of_pos u h1.1;rw[zF]at ed;obtain⟨n,hn⟩:=zq q0;have hp:0≤(n:Int)*y1:=zr (by omega) (by omega);rw[hn]at ed;refine⟨n,u % y1,?_,?_,by omega,ed,r0,by omega,?_⟩
 ·rw[zN hu.1,hn,wu _ (by omega) (by omega)]
 ·rw[wu ((n:Int)*y1) (by omega) (by omega),wu _ (by omega) (by omega)];omega
 ·subst hY;have a:((n:Int)+1)*(y1*4294967296+y0)=((n:Int)*y1+y1)*4294967296+((n:Int)+1)*y0:=by
   rw[zA, ←zw,zB,zP]
  have b:0≤((n:Int)+1)*y0:=zr (by omega) h0;rw[a];omega
theorem Ni{u w q Y:Int}(hE:Exact Y u w q)(hY:Y<18446744073709551616):zc .u64 (zc .u64 (zc .u64 (u*(4294967296:Int))+w)-zc .u64 (q*Y))=u*4294967296+w-q*Y:=by
 obtain⟨a,b⟩:=hE;rw[zB,zP]at b;rw[Ic,Ic,Ic,Ic];generalize q*Y=A at*;omega
theorem Xo(h:Ac A4 198 bZ):∀g sp,Wv.sp g=some sp→Ac A4 g sp:=Ab h (fun g sp h=>by cases h)
set_option maxHeartbeats 1000000 in
theorem ok(hlz:Ac A4 198 bZ):Ac A4 196 OY:=by
 refine AJ (X:=Wv) rfl (Xo hlz) (d:=9) (by kernel_rfl) (by kernel_rfl) (by kernel_rfl) (fun(i:Int×Int×Int) hi=>?_) (Ad (by kernel_rfl));obtain⟨hi',lo,y⟩:=i;have hi:(zE hi'&&zE lo&&zE y&&decide (hi'<y))=true:=hi;rw[zg,zg,zg,decide_eq_true_eq]at hi;obtain⟨⟨⟨h1,h2⟩,h3⟩,h4⟩:=hi;have uy:=h3;have h1:=yK h1;have h2:=yK h2;have h3:=yK h3;have hg:∀q r ob,q=Sp.dq hi' lo y→r=Sp.dr hi' lo y→Af OY (hi',lo,y) (PV.tup [PV.dat (zn zd) q,PV.dat (zn zd) r]) ob:=fun q r ob e1 e2=>zC rfl rfl (Prod.ext e1 e2)
 refine zQ (Ay hi' lo y) (zU (by simp;omega) (zU (decide_eq_false (by omega)) (zk (fun c=>?_) (fun c=>?_))))
 ·have c:hi'=0:=by simpa using c
  subst c;have q0:0≤lo/y:=yF h2.1 (by omega);have q1:lo/y≤lo:=Int.ediv_le_self _ h2.1;refine ze (decide_eq_true (by omega)) (ze (decide_eq_true (by omega)) (zi (hg _ _ _ ?_ ?_)))
  ·unfold Sp.dq;rw[zN h2.1,wu _ (by omega) (by omega),yQ,yB]
  ·unfold Sp.dr;rw[Int.tmod_eq_emod_of_nonneg h2.1,yQ,yB]
 ·have c:hi'≠0:=by simpa using c
  obtain⟨s,hs,hs63,hlt,hge⟩:=P0 (y:=y) (by omega) h3.2;have es:zc .u64 (s:Int)=(s:Int):=VY s (by omega);have em:yA s 64=s:=by omega
  have es2:zc .u64 ((64:Int)-(s:Int))=((64-s:Nat):Int):=by rw[wu _ (by omega) (by omega)];omega
  have em2:yA (64-s) 64=64-s:=by omega
  have hPR:(2:Int)^s*2^(64-s)=18446744073709551616:=by rw[←Int.pow_add,show s+(64-s)=64 by omega];rfl
  have hP:(0:Int)<2^s:=Int.pow_pos (by decide);have hR:(0:Int)<2^(64-s):=Int.pow_pos (by decide);have a0:0≤lo/2^(64-s):=yF h2.1 (by omega);have led:=Int.mul_ediv_add_emod lo (2^(64-s));have c0:=Int.emod_nonneg lo (show(2:Int)^(64-s)≠0 by omega);have c1:=Int.emod_lt_of_pos lo hR;have aP:lo/2^(64-s)<2^s:=Int.ediv_lt_of_lt_mul hR (by rw[hPR];exact h2.2);have hiP:hi'*2^s+2^s≤y*2^s:=by
   have:=zh (show hi'+1≤y by omega) (zz hP);rw[zB,zP]at this;exact this
  have hi0:0≤hi'*2^s:=zr h1.1 (zz hP);have efd:zo lo ((2:Int)^(64-s))=lo/2^(64-s):=zM _ (by omega);have eio:TV .u64 (hi'*2^s) (lo/2^(64-s))=hi'*2^s+lo/2^(64-s):=SN h1.1 a0 aP (by omega);have cP0:0≤(lo % 2^(64-s))*2^s:=zr c0 (zz hP);have cP1:(lo % 2^(64-s))*2^s<18446744073709551616:=by
   have:=Int.mul_lt_mul_of_pos_right c1 hP;rw[zF (2^(64-s)),hPR]at this;exact this
  have loP:lo*2^s=(lo/2^(64-s))*18446744073709551616+(lo % 2^(64-s))*2^s:=by
   conv=>lhs;rw[←led]
   rw[zB, ←hPR,zF (2^(64-s)) (lo/2^(64-s)),zw,zF (2^(64-s)) (2^s)]
  have elo:zc .u64 (lo*2^s)=(lo % 2^(64-s))*2^s:=by rw[loP,Ic];omega
  have hN:(hi'*2^s+lo/2^(64-s))*18446744073709551616+(lo % 2^(64-s))*2^s=(hi'*18446744073709551616+lo)*2^s:=by
   rw[zB (hi'*18446744073709551616) lo (2^s),loP,zw hi' 18446744073709551616 (2^s),zF 18446744073709551616 ((2:Int)^s), ←zw];omega
  have ewy:zc .u64 (y*2^s)=y*2^s:=wu _ (by omega) (by omega);have ewh:zc .u64 (hi'*2^s)=hi'*2^s:=wu _ hi0 (by omega);have z0:decide ((0:Int)≤(s:Int))=true:=decide_eq_true (by omega);have fin:∀q:Int,q*(y*2^s)≤(hi'*18446744073709551616+lo)*2^s→(hi'*18446744073709551616+lo)*2^s<(q+1)*(y*2^s)→q=Sp.dq hi' lo y∧zo ((hi'*18446744073709551616+lo)*2^s-q*(y*2^s)) (2^s)=Sp.dr hi' lo y:=by
   intro q f1 f2;unfold Sp.dq Sp.dr;generalize hi'*18446744073709551616+lo=M at*;rw[←zw]at f1 f2;have g1:q*y≤M:=Int.le_of_mul_le_mul_right f1 hP;have g2:M<(q+1)*y:=Int.lt_of_mul_lt_mul_right f2 (zz hP);rw[zB,zP]at g2;obtain⟨u1,u2⟩:=(Int.ediv_emod_unique (a:=M) (b:=y) (r:=M-q*y) (q:=q) (by omega)).2 ⟨by rw[zF y q];omega,by omega,by omega⟩;refine⟨u1.symm,?_⟩;rw[u2, ←zw, ←Int.sub_mul,zM _ (zz hP)];exact Int.mul_ediv_cancel _ (by omega)
  obtain⟨Y,eY⟩:=zq (show 0≤y*2^s by omega);obtain⟨C,eC⟩:=zq cP0;have hU0:0≤hi'*2^s+lo/2^(64-s):=by omega
  have hUY:hi'*2^s+lo/2^(64-s)<y*2^s:=by omega
  rw[hs,es,es2,zj,zj,em,em2,ewy,ewh,efd,eio,elo];rw[eC]at hN cP1 ⊢;rw[eY]at hlt hge hUY fin ⊢;generalize hU:hi'*2^s+lo/2^(64-s)=U at*;generalize hM:(hi'*18446744073709551616+lo)*2^s=M at*;rw[TU,TU,LH Y (by omega),LH C (by omega)];have hY:(Y:Int)=((Y/4294967296:Nat):Int)*4294967296+((Y % 4294967296:Nat):Int):=by omega
  have b1:0<((Y/4294967296:Nat):Int)∧((Y/4294967296:Nat):Int)<4294967296:=by omega
  have b0:0≤((Y % 4294967296:Nat):Int)∧((Y % 4294967296:Nat):Int)<4294967296:=by omega
  have w1:0≤((C/4294967296:Nat):Int)∧((C/4294967296:Nat):Int)<4294967296:=by omega
  have w0:0≤((C % 4294967296:Nat):Int)∧((C % 4294967296:Nat):Int)<4294967296:=by omega
  have hC:(C:Int)=((C/4294967296:Nat):Int)*4294967296+((C % 4294967296:Nat):Int):=by omega
  generalize ((Y/4294967296:Nat):Int)=y1 at*;generalize ((Y % 4294967296:Nat):Int)=y0 at*;generalize ((C/4294967296:Nat):Int)=w at*;generalize ((C % 4294967296:Nat):Int)=z at*;refine ze uy (ze z0 (ze rfl (ze z0 (ze (decide_eq_true (by omega)) (ze z0 (ze rfl (ze (decide_eq_true (by omega)) ?_)))))));obtain⟨n,r,e1,e2,n1,n2,n3,n4,n5⟩:=start (u:=U) (w:=w) hY b1 b0.1 (by omega) w1.2;rw[e1,e2];refine Aq (Y:Int) s y1 y0 U w z hY b1 b0 hUY w1 (fun p p0 hp=>?_) n r n1 n2 n3 n4 n5;have er:=Ni hp (by omega);rw[er];have hp1:=hp.1;have hp2:=hp.2;rw[zB,zP]at hp2;obtain⟨m,t,k1,k2,m1,m2,m3,m4,m5⟩:=start (u:=U*4294967296+w-p*Y) (w:=z) hY b1 b0.1 (by omega) w0.2;rw[k1,k2];refine Be (Y:Int) s y1 y0 _ z p hY b1 b0 (by omega) w0 (by omega) (fun q q0 hq ob=>?_) m t m1 m2 m3 m4 m5;rw[Ni hq (by omega),zj,em];obtain⟨hq1,hq2⟩:=hq;have ez:(p*4294967296+q)*(Y:Int)=p*Y*4294967296+q*Y:=by
   rw[zB,zw,zF 4294967296 (Y:Int), ←zw]
  have ez1:(p*4294967296+q+1)*(Y:Int)=p*Y*4294967296+q*Y+Y:=by
   rw[zB,ez,zP]
  rw[zB,zP]at hq2;obtain⟨f1,f2⟩:=fin (p*4294967296+q) (by rw[ez];omega) (by rw[ez1];omega);refine hg _ _ _ ?_ ?_
  ·have hb:Sp.dq hi' lo y<18446744073709551616:=by
    unfold Sp.dq;refine Int.ediv_lt_of_lt_mul (by omega) ?_;have:=zp (show hi'+1≤y by omega) (show(0:Int)≤18446744073709551616 by decide);omega
   rw[←f1]at hb ⊢;rw[Ic,Ic];omega
  ·rw[←f2,ez];congr 1;omega
end T196
end Go.Pe
end
section
namespace Go.Pe
open Sp
open Go.Det
theorem U8(x k:Nat)(h:2^k≤x):x.log2=k+(x/2^k).log2:=by
 have hk:=yE k;have hz:x/2^k≠0:=by
  have:=Nat.div_pos h hk;omega
 have hx:x≠0:=by omega
 refine(Nat.log2_eq_iff hx).2 ⟨?_,?_⟩
 ·rw[yG];exact Nat.le_trans (Nat.mul_le_mul_left _ (Nat.log2_self_le hz)) (Nat.mul_div_le x (2^k))
 ·rw[Nat.add_assoc,yG];have a:x/2^k+1≤2^((x/2^k).log2+1):=Nat.lt_log2_self;have b:=Nat.mul_le_mul_left (2^k) a;have c:=Nat.lt_mul_div_succ x hk;exact Nat.lt_of_lt_of_le c b
theorem Lh(x k:Nat)(h:2^k≤x):ER (x:Int)=(k:Int)+ER ((x/2^k:Nat):Int):=by
 have hk:=yE k;have hz:=Nat.div_pos h hk;have e:=U8 x k h;unfold ER;rw[if_neg (by omega),if_neg (by omega),zj,zj,e];omega
theorem ZX(n k:Nat):zo (n:Int) ((2:Int)^k)=((n/2^k:Nat):Int):=by
 have:(0:Int)<2^k:=Int.pow_pos (by decide);rw[zM _ (by omega),Int.natCast_ediv,zS];rfl
def aA:List UInt8:=[(0:UInt8),(1:UInt8),(2:UInt8),(2:UInt8),(3:UInt8),(3:UInt8),(3:UInt8),(3:UInt8),(4:UInt8),(4:UInt8),(4:UInt8),(4:UInt8),(4:UInt8),(4:UInt8),(4:UInt8),(4:UInt8),(5:UInt8),(5:UInt8),(5:UInt8),(5:UInt8),(5:UInt8),(5:UInt8),(5:UInt8),(5:UInt8),(5:UInt8),(5:UInt8),(5:UInt8),(5:UInt8),(5:UInt8),(5:UInt8),(5:UInt8),(5:UInt8),(6:UInt8),(6:UInt8),(6:UInt8),(6:UInt8),(6:UInt8),(6:UInt8),(6:UInt8),(6:UInt8),(6:UInt8),(6:UInt8),(6:UInt8),(6:UInt8),(6:UInt8),(6:UInt8),(6:UInt8),(6:UInt8),(6:UInt8),(6:UInt8),(6:UInt8),(6:UInt8),(6:UInt8),(6:UInt8),(6:UInt8),(6:UInt8),(6:UInt8),(6:UInt8),(6:UInt8),(6:UInt8),(6:UInt8),(6:UInt8),(6:UInt8),(6:UInt8),(7:UInt8),(7:UInt8),(7:UInt8),(7:UInt8),(7:UInt8),(7:UInt8),(7:UInt8),(7:UInt8),(7:UInt8),(7:UInt8),(7:UInt8),(7:UInt8),(7:UInt8),(7:UInt8),(7:UInt8),(7:UInt8),(7:UInt8),(7:UInt8),(7:UInt8),(7:UInt8),(7:UInt8),(7:UInt8),(7:UInt8),(7:UInt8),(7:UInt8),(7:UInt8),(7:UInt8),(7:UInt8),(7:UInt8),(7:UInt8),(7:UInt8),(7:UInt8),(7:UInt8),(7:UInt8),(7:UInt8),(7:UInt8),(7:UInt8),(7:UInt8),(7:UInt8),(7:UInt8),(7:UInt8),(7:UInt8),(7:UInt8),(7:UInt8),(7:UInt8),(7:UInt8),(7:UInt8),(7:UInt8),(7:UInt8),(7:UInt8),(7:UInt8),(7:UInt8),(7:UInt8),(7:UInt8),(7:UInt8),(7:UInt8),(7:UInt8),(7:UInt8),(7:UInt8),(7:UInt8),(7:UInt8),(7:UInt8),(7:UInt8),(7:UInt8),(8:UInt8),(8:UInt8),(8:UInt8),(8:UInt8),(8:UInt8),(8:UInt8),(8:UInt8),(8:UInt8),(8:UInt8),(8:UInt8),(8:UInt8),(8:UInt8),(8:UInt8),(8:UInt8),(8:UInt8),(8:UInt8),(8:UInt8),(8:UInt8),(8:UInt8),(8:UInt8),(8:UInt8),(8:UInt8),(8:UInt8),(8:UInt8),(8:UInt8),(8:UInt8),(8:UInt8),(8:UInt8),(8:UInt8),(8:UInt8),(8:UInt8),(8:UInt8),(8:UInt8),(8:UInt8),(8:UInt8),(8:UInt8),(8:UInt8),(8:UInt8),(8:UInt8),(8:UInt8),(8:UInt8),(8:UInt8),(8:UInt8),(8:UInt8),(8:UInt8),(8:UInt8),(8:UInt8),(8:UInt8),(8:UInt8),(8:UInt8),(8:UInt8),(8:UInt8),(8:UInt8),(8:UInt8),(8:UInt8),(8:UInt8),(8:UInt8),(8:UInt8),(8:UInt8),(8:UInt8),(8:UInt8),(8:UInt8),(8:UInt8),(8:UInt8),(8:UInt8),(8:UInt8),(8:UInt8),(8:UInt8),(8:UInt8),(8:UInt8),(8:UInt8),(8:UInt8),(8:UInt8),(8:UInt8),(8:UInt8),(8:UInt8),(8:UInt8),(8:UInt8),(8:UInt8),(8:UInt8),(8:UInt8),(8:UInt8),(8:UInt8),(8:UInt8),(8:UInt8),(8:UInt8),(8:UInt8),(8:UInt8),(8:UInt8),(8:UInt8),(8:UInt8),(8:UInt8),(8:UInt8),(8:UInt8),(8:UInt8),(8:UInt8),(8:UInt8),(8:UInt8),(8:UInt8),(8:UInt8),(8:UInt8),(8:UInt8),(8:UInt8),(8:UInt8),(8:UInt8),(8:UInt8),(8:UInt8),(8:UInt8),(8:UInt8),(8:UInt8),(8:UInt8),(8:UInt8),(8:UInt8),(8:UInt8),(8:UInt8),(8:UInt8),(8:UInt8),(8:UInt8),(8:UInt8),(8:UInt8),(8:UInt8),(8:UInt8),(8:UInt8),(8:UInt8),(8:UInt8),(8:UInt8),(8:UInt8),(8:UInt8)]
theorem RV:∀m:Fin 256,((zK (aA.getD m.val 0):Nat):Int)=ER (m.val:Int)∧zc .u8 (m.val:Int)=(m.val:Int)∧ER (m.val:Int)≤8∧0≤ER (m.val:Int):=by decide+kernel
theorem JW{ACC:Int}(a z x:Nat)(hA:ACC=a)(ha:a≤64)(hz:z<256)(hx:ER (x:Int)=(a:Int)+ER (z:Int)):zc .i64 (ACC+zc .i64 ((zK (aA.getD (yI (zc .u8 (z:Int))) 0):Nat):Int))=ER x:=by
 obtain⟨e1,e2,e3,e4⟩:=RV ⟨z,hz⟩;have e1:((zK (aA.getD z 0):Nat):Int)=ER (z:Int):=e1;have e2:zc .u8 (z:Int)=(z:Int):=e2;have e3:ER (z:Int)≤8:=e3;have e4:0≤ER (z:Int):=e4;rw[e2,zj,e1,hA,hx,wr (ER (z:Int)) (by omega) (by omega),wr _ (by omega) (by omega)]
theorem Y5(z:Nat)(hz:z<256):(decide ((0:Sh.T (zn yL))≤zc yL (z:Int))&&decide (zc yL (z:Int)<(↑(256:Nat):Int)))=true:=by
 obtain⟨_,e2,_,_⟩:=RV ⟨z,hz⟩;have e2:zc .u8 (z:Int)=(z:Int):=e2;rw[e2];exact Am (decide_eq_true (show(0:Int)≤(z:Int)by omega)) (decide_eq_true (by omega))
namespace T178
set_option maxHeartbeats 1000000 in
set_option maxRecDepth 100000 in
theorem ok:Ac A4 178 UY:=by
 refine AJ (X:=Pn) rfl Hj (d:=9) (by kernel_rfl) (by kernel_rfl) (by kernel_rfl) (fun(x:Int) hx=>?_) (Ad (by kernel_rfl));have hx:=yK (n:=x) hx;obtain⟨x,rfl⟩:=zq hx.1;refine zQ (Ay (x:Int)) ?_;conv=>zeta
 conv=>zeta
 rw[ZX x 32,ZX x 16,ZX x 8,ZX (x/2^32) 16,ZX (x/2^32) 8,ZX (x/2^32/2^16) 8,ZX (x/2^16) 8];have l32:=Lh x 32;have l16:=Lh x 16;have l8:=Lh x 8;have l3216:=Lh (x/2^32) 16;have l328:=Lh (x/2^32) 8;have l32168:=Lh (x/2^32/2^16) 8;have l168:=Lh (x/2^16) 8;refine zk (fun c1=>ze rfl (zk (fun c2=>ze rfl (zk (fun c3=>ze rfl (ze (Y5 _ ?_) (zi (zC rfl rfl (JW 56 _ x (by decide+kernel) (by decide) ?_ ?_))))) (fun c3=>ze (Y5 _ ?_) (zi (zC rfl rfl (JW 48 _ x (by decide+kernel) (by decide) ?_ ?_)))))) (fun c2=>zk (fun c3=>ze rfl (ze (Y5 _ ?_) (zi (zC rfl rfl (JW 40 _ x (by decide+kernel) (by decide) ?_ ?_))))) (fun c3=>ze (Y5 _ ?_) (zi (zC rfl rfl (JW 32 _ x rfl (by decide) ?_ ?_))))))) (fun c1=>zk (fun c2=>ze rfl (zk (fun c3=>ze rfl (ze (Y5 _ ?_) (zi (zC rfl rfl (JW 24 _ x (by decide+kernel) (by decide) ?_ ?_))))) (fun c3=>ze (Y5 _ ?_) (zi (zC rfl rfl (JW 16 _ x (by decide+kernel) (by decide) ?_ ?_)))))) (fun c2=>zk (fun c3=>ze rfl (ze (Y5 _ ?_) (zi (zC rfl rfl (JW 8 _ x (by decide+kernel) (by decide) ?_ ?_))))) (fun c3=>ze (Y5 _ ?_) (zi (zC rfl rfl (JW 0 _ x rfl (by decide) ?_ ?_))))));all_goals
  first
   |replace c1:=of_decide_eq_true c1
   |replace c1:=of_decide_eq_false c1
  first
   |replace c2:=of_decide_eq_true c2
   |replace c2:=of_decide_eq_false c2
  first
   |replace c3:=of_decide_eq_true c3
   |replace c3:=of_decide_eq_false c3
  omega
end T178
theorem Xg:∀g sp,eN.sp g=some sp→Ac A4 g sp:=Ab T178.ok (fun g sp h=>by cases h)
theorem X9{n:Int}(h1:0≤n)(h2:n<18446744073709551616):0≤Sp.ER n∧Sp.ER n≤64:=by
 unfold Sp.ER;split
 ·omega
 ·have:n.toNat.log2<64:=(Nat.log2_lt (by omega)).2 (by omega);omega
namespace T198
theorem ok:Ac A4 198 bZ:=by
 refine AJ (X:=eN) rfl Xg (d:=9) (by kernel_rfl) (by kernel_rfl) (by kernel_rfl) (fun(x:Int) hx=>?_) (Ad (by kernel_rfl));have h:=yK (n:=x) hx;have hl:=X9 h.1 h.2;refine zQ (Ay x) (ze hx (zi (zC rfl rfl ?_)));show zc .i64 (64-Sp.ER x)=Sp.lz x;unfold Sp.lz;exact wr _ (by omega) (by omega)
end T198
theorem WE:Ac A4 196 OY:=T196.ok T198.ok
end Go.Pe
end
section
namespace Go.Sp
def W3(a b:List Int):Bool:=By a&&By b&&decide (a.length≤9000)&&decide (b.length≤9000)&&decide (0<Ai b)
end Go.Sp
namespace Go.Pe
open Sp
open Go.Det
noncomputable section
noncomputable def Fq:Az:=⟨[Cp,Cp],fun i=>W3 i.1 i.2,[Cp,Cp],fun i=>(Br (Ai i.1/Ai i.2),Br (Ai i.1 % Ai i.2)),false⟩
noncomputable def Hd:A2:=X7 [(156,SL),(197,RT),(152,N7),(206,Rm),(207,Rf),(196,OY),(198,bZ)]
end
end Go.Pe
end
section
namespace Go.Sp
def MO(c:UInt8):Int:=(c.toNat:Int)-48
def Bs(c:UInt8):Bool:=decide (48≤c.toNat)&&decide (c.toNat≤57)
def AA(n:Int):List UInt8→Int
 |[]=>n
 |c::r=>AA (10*n+MO c) r
def Ao(s:List UInt8):Bool:=s.all Bs
theorem CW:∀(n:Int) (a b:List UInt8),AA n (a++b)=AA (AA n a) b
 |_,[],_=>rfl
 |n,c::a,b=>by rw[yb,AA,AA,CW]
theorem Ed:∀(s:List UInt8) (n:Int),AA n s=n*10^s.length+AA 0 s
 |[],n=>by simp[AA]
 |c::s,n=>by
  rw[AA,AA,Ed s (10*n+MO c),Ed s (10*0+MO c),yc,yO,zB,yi,yB,zF 10 n,zw,zF 10 (10^s.length),yJ]
theorem Dg{c:UInt8}(h:Bs c=true):0≤MO c∧MO c≤9:=by
 unfold Bs at h;rw[zg,decide_eq_true_eq,decide_eq_true_eq]at h;unfold MO;omega
theorem Bj:∀ {s:List UInt8},Ao s=true→0≤AA 0 s∧AA 0 s<10^s.length
 |[],_=>by simp[AA]
 |c::s,h=>by
  unfold Ao at h;rw[List.all_cons,zg]at h;have a:=Dg h.1;have b:=Bj (s:=s) h.2;have hp:=AK (show(0:Int)<10 by decide) s.length;have c1:=zr a.1 (zz hp);have c2:=zh a.2 (zz hp);rw[AA,Ed,yc,yO,yi,yB,zF (10^s.length) 10];omega
theorem AV{s:List UInt8}(h:Ao s=true)(i:Nat):Ao (s.take i)=true:=by
 unfold Ao at h ⊢;rw[List.all_eq_true]at h ⊢;exact fun x hx=>h x (List.mem_of_mem_take hx)
theorem Bp{s:List UInt8}(h:Ao s=true)(i:Nat):Ao (s.drop i)=true:=by
 unfold Ao at h ⊢;rw[List.all_eq_true]at h ⊢;exact fun x hx=>h x (List.mem_of_mem_drop hx)
def AT(s:List UInt8):Bool:=decide (s≠[])&&Ao s&&(decide (s.getD 0 0≠48)||decide (s=[48]))
end Go.Sp
end
section
namespace Go.Sp
def MC(a b:Ba):Ba:=if vI a<0∧Ag (vI a) % vI b≠0 then Ke (B7 (-(Ag (vI a)/vI b))) (1,[])else B7 (sg (decide (vI a<0)) (Ag (vI a)/vI b))
def cT(a b:Ba):Int:=(MC a b).1
def cU(a b:Ba):List Int:=(MC a b).2
def Vo(a b:Ba):Int:=BY (vI a % vI b)
def Vx(a b:Ba):List Int:=BR (vI a % vI b)
def gI(a b:Int):Int:=if a<0 then -(-(Int.gcd a b:Int))else(Int.gcd a b:Int)
theorem Rx(a b:Int):gI a b=(Int.gcd a b:Int):=by unfold gI;split<;>omega
def QA(a b:Ba):Int:=BY (gI (vI a) (vI b))
def Px(a b:Ba):List Int:=BR (gI (vI a) (vI b))
def pI(a k:Int):Int:=if k<0 then -(-(a^k.toNat))else a^k.toNat
theorem Of(a k:Int):pI a k=a^k.toNat:=by unfold pI;split<;>omega
def WL(a k:Int):Bool:=decide (0≤k)&&decide (k≤100000)&&decide (Ag (pI a k)<(18446744073709551616:Int)^(4000:Nat))
def Qb(a:Ba)(k:Int):Int:=BY (pI (vI a) k)
def Qc(a:Ba)(k:Int):List Int:=BR (pI (vI a) k)
def EG(n:Int):List Int:=if n<0 then[]else[]
theorem C9(n:Int):EG n=[]:=by unfold EG;split<;>rfl
def Cr(s:List UInt8):Int:=if s.getD 0 0=45 then -AA 0 (s.drop 1)else AA 0 s
def Fg(s:List UInt8):Bool:=decide (s.length≤1499)&&(if s.getD 0 0=45 then Ao (s.drop 1)else Ao s)
def Eh(s:List UInt8):Int:=BY (Cr s)
def D7(s:List UInt8):List Int:=BR (Cr s)
end Go.Sp
namespace Go.Pe
open Sp
open Go.Det
noncomputable section
noncomputable def Ge:Az:=⟨[BJ,BJ],fun i=>BF i.1&&BF i.2&&decide (0<zf i.2),[BJ,BJ],fun i=>((cT i.1 i.2,cU i.1 i.2),(Vo i.1 i.2,Vx i.1 i.2)),false⟩
noncomputable def Zi:Az:=⟨[BJ,BJ],fun i=>BF i.1&&BF i.2,[BJ],fun i=>(QA i.1 i.2,Px i.1 i.2),false⟩
noncomputable def VP:Az:=⟨[BJ,i64],fun i=>BF i.1&&WL (zf i.1) i.2,[BJ],fun i=>(Qb i.1 i.2,Qc i.1 i.2),false⟩
noncomputable def Pa:Az:=⟨[.str],fun s=>Fg s,[BJ],fun s=>(Eh s,D7 s),false⟩
noncomputable def U0:Az:=⟨[i64],fun _=>true,[BJ],fun n=>(n,EG n),false⟩
noncomputable def bL:A2:=cA [(90,[9,10])] [] [(90,[(9,[3,4,5,8,12,13]),(10,[3,4,5,14,15])])] [(43,U0),(147,Fq),(146,QV),(148,Vq),(98,Wm),(96,Qk),(89,Ov)]
noncomputable def fD:A2:=X7 []
noncomputable def bT:A2:=X7 [(90,Ge),(88,Y4),(89,Ov)]
noncomputable def ZR:A2:=X7 [(43,U0),(94,Sq)]
end
end Go.Pe
end
section
namespace Go.Sp
abbrev B9:Nat:=1000000000
def HD(l:List Int):Bool:=decide (l.length≤20000)&&l.all fun d=>decide (0≤d)&&decide (d<1000000000)
def hR(l:List Int):Bool:=HD l&&decide (l.length≤9000)
def B3(l:List Int):Bool:=HD l&&ZM l
def AQ(l:List Int):Int:=val B9 l
def Cj(n:Int):List Int:=dg B9 n
def rN(n:Int):Bool:=decide (n<0)
def rW(n:Int):List Int:=Cj (Ag n)
def DY(neg:Bool)(w:List Int):Bool:=neg&&decide (Ax w≠[])
def Ee(s:List UInt8):Bool:=decide (s.length≤18)&&Ao s
def Bf(s:List UInt8):Int:=AA 0 s
def DK(s:List UInt8):Bool:=rN (Cr s)
def DM(s:List UInt8):List Int:=rW (Cr s)
def KR(a b:List Int):List Int:=Cj (gI (AQ a) (AQ b))
end Go.Sp
namespace Go.Pe
open Sp
open Go.Det
noncomputable section
abbrev li:Sh:=.list i64
abbrev U2:Sh:=.pair .bool li
noncomputable def Rq:Az:=⟨[li],fun l=>decide (yg (α:=Int) l≤20000),[li],fun l=>Ax l,false⟩
noncomputable def Md:Az:=⟨[.bool,li],fun i=>decide (yg (α:=Int) i.2≤20000),[U2],fun i=>(DY i.1 i.2,Ax i.2),false⟩
noncomputable def VW:Az:=⟨[li,li],fun i=>B3 i.1&&B3 i.2,[i64],fun i=>BO (AQ i.1) (AQ i.2),false⟩
noncomputable def U4:Az:=⟨[li,li],fun i=>Sp.hR i.1&&Sp.hR i.2,[li],fun i=>Cj (AQ i.1*AQ i.2),false⟩
noncomputable def RA:Az:=⟨[li,i64],fun i=>HD i.1&&decide (0<(i.2:Int))&&decide ((i.2:Int)<1000000000),[li,i64],fun i=>(Cj (AQ i.1/i.2),AQ i.1 % i.2),false⟩
noncomputable def SH:Az:=⟨[li,li],fun i=>B3 i.1&&B3 i.2&&decide (yg (α:=Int) i.1≤9000)&&decide (yg (α:=Int) i.2≤9000)&&decide (0<AQ i.2),[li,li],fun i=>(Cj (AQ i.1/AQ i.2),Cj (AQ i.1 % AQ i.2)),false⟩
noncomputable def LQ:Az:=⟨[li,li],fun i=>B3 i.1&&B3 i.2&&decide (yg (α:=Int) i.1≤9000)&&decide (yg (α:=Int) i.2≤9000),[li],fun i=>KR i.1 i.2,false⟩
noncomputable def S9:Az:=⟨[.str],fun s=>Ee s,[i64],fun s=>Bf s,false⟩
noncomputable def NS:Az:=⟨[.str],fun s=>Fg s,[U2],fun s=>(DK s,DM s),false⟩
noncomputable def Ur:A2:=X7 []
noncomputable def RR:A2:=X7 [(162,Rq)]
noncomputable def Jf:A2:=X7 [(160,VW),(162,Rq),(161,RA),(163,U4)]
noncomputable def bS:A2:=X7 [(102,SH)]
noncomputable def Ts:A2:=X7 [(158,S9),(159,Md)]
end
end Go.Pe
end
section
namespace Go.Sp
def Cv:List UInt8:=[48,49,50,51,52,53,54,55,56,57]
def SJ(o:List Bool):List Bool:=(List.range 256).map fun j=>o.getD j false
def Zk:List Bool:=zl 256 false
def KW(s:List UInt8):List UInt8:=((s.reverse.dropWhile Bs).reverse).dropWhile Bs
def Lm(s:List UInt8)(c:Int):Int:=match s.findIdx? (fun x=>x==c.toNat.toUInt8)with
 |some i=>(i:Int)
 |none=> -1
def AU(s:List UInt8):List UInt8:=match s.findIdx? (fun x=>x==47)with
 |some i=>s.take i
 |none=>s
def A8(s:List UInt8):List UInt8:=match s.findIdx? (fun x=>x==47)with
 |some i=>s.drop (i+1)
 |none=>[]
def Cb(s:List UInt8):Bool:=s.any (fun x=>x==47)
def B8(s:List UInt8):List UInt8:=if s.getD 0 0=45 then s.drop 1 else s
def preB(s:List UInt8):Bool:=decide (s.getD 0 0=45)
def Y8(s t:List UInt8):Bool:=decide (t=Cv)&&decide (s.length≤1000000)
def cR(s t:List UInt8):Bool:=decide (t=[47])&&decide (s.length≤1000000)
def Wb(s t:List UInt8):Bool:=decide (t=[45])&&decide (s.length≤1000000)
end Go.Sp
namespace Go.Pe
open Sp
open Go.Det
noncomputable section
noncomputable def QR:Az:=⟨[.str,.str],fun i=>Y8 i.1 i.2,[.str],fun i=>KW i.1,false⟩
noncomputable def Zl:Az:=⟨[.str,.int .u8],fun i=>decide (0≤(i.2:Int))&&decide ((i.2:Int)<256),[i64],fun i=>Lm i.1 i.2,false⟩
noncomputable def Y7:Az:=⟨[.str,.str],fun i=>cR i.1 i.2,[.str,.str,.bool],fun i=>(AU i.1,Sp.A8 i.1,Cb i.1),false⟩
noncomputable def Y9:Az:=⟨[.str,.str],fun i=>Wb i.1 i.2,[.str,.bool],fun i=>(B8 i.1,Sp.preB i.1),false⟩
noncomputable def JM:Az:=⟨[.str],fun s=>decide (s.length≤1000000),[.bool],fun s=>AT s,false⟩
noncomputable def Nx:A2:=X7 []
noncomputable def R5:A2:=X7 [(144,⟨[.str,.str],fun _=>false,[.str],fun i=>i.1,false⟩),(145,⟨[.str,.str],fun _=>false,[.str],fun i=>i.1,false⟩),(139,⟨[.str,.int .u8],fun _=>false,[.str],fun i=>i.1,false⟩),(140,⟨[.str,.int .u8],fun _=>false,[.str],fun i=>i.1,false⟩)]
noncomputable def eT:A2:=X7 [(87,QR)]
noncomputable def fC:A2:=X7 [(227,Zl)]
noncomputable def ML:A2:=X7 [(43,U0),(95,VP),(94,Sq),(96,Qk),(97,VO),(201,⟨[.str,i64,i64],fun _=>false,[i64],fun _=>(0:Int),false⟩),(151,⟨[.str],fun _=>false,[i64],fun _=>(0:Int),false⟩)]
end
end Go.Pe
end
section
namespace Go.Sp
def Iu(a:List UInt8):Bool:=AT (AU (B8 a))&&(!preB a||decide (AU (B8 a)≠[48]))&&(!Cb (B8 a)||(AT (A8 (B8 a))&&decide (A8 (B8 a)≠[48])&&decide (A8 (B8 a)≠[49])))
def fE(a:List UInt8):Int:=AA 0 (AU (B8 a))
def eV(a:List UInt8):Int:=AA 0 (A8 (B8 a))
def JK(a:List UInt8):Int:=if Iu a=false then 1 else if 600<(AU (B8 a)).length∨600<(A8 (B8 a)).length then 4 else if Cb (B8 a)=true∧gI (fE a) (eV a)≠1 then 1 else 0
def B5(s:List UInt8):Int:=((AU s).length:Int)
def Xs(a:List UInt8):Bool:=Fg (AU a)&&Fg (A8 a)&&decide (a.length≤1499)
def Pz(a:List UInt8):Int:=Cr (AU a)
def PG(a:List UInt8):Int:=if Cb a=true then Cr (A8 a)else 1
def JA(a:List UInt8):Bool:=rN (Pz a)
def Gv(a:List UInt8):List Int:=rW (Pz a)
def Jy(a:List UInt8):Bool:=rN (PG a)
def Gx(a:List UInt8):List Int:=rW (PG a)
end Go.Sp
namespace Go.Pe
open Sp
open Go.Det
noncomputable section
noncomputable def Hf:Az:=⟨[.str],fun s=>decide (s.length≤1000000),[i64],fun s=>JK s,false⟩
noncomputable def Ri:Az:=⟨[.str],fun s=>decide (s.length≤1000000),[i64],fun s=>B5 s,false⟩
noncomputable def Kw:Az:=⟨[i64],fun n=>Hz n,[U2],fun n=>(Sp.rN n,Sp.rW n),false⟩
noncomputable def R6:Az:=⟨[.str],fun s=>Xs s,[U2,U2],fun s=>((JA s,Gv s),(Jy s,Gx s)),false⟩
noncomputable def Jg:A2:=cA [(10,[4,6,7,9,10])] [] [(10,[(4,[5,6,7,8]),(6,[5,6,7,8]),(7,[5,6,7,9]),(9,[5,6,7]),(10,[10])])] [(38,DN),(39,Ih),(35,Y9),(36,Y7),(37,JM),(40,Zi),(41,Pa),(42,Zb),(43,U0)]
noncomputable def XC:A2:=X7 [(159,Md)]
noncomputable def eP:A2:=X7 [(44,Ri),(100,NS),(101,Kw)]
noncomputable def Pc:A2:=cA [(11,[4,7,9,11,13,14])] [] [(11,[(4,[0,3]),(7,[3,4]),(9,[3,4]),(11,[3,4]),(13,[5,6]),(14,[7])])] [(44,Ri),(45,JM),(46,R6),(47,LQ)]
end
end Go.Pe
end
section
namespace Go.Sp
abbrev tk(R:List Int)(x:Int):Int:=R.getD x.toNat 0
def O7(R:List Int)(x y:Int):Prop:=tk R y<tk R x∨(tk R y=tk R x∧x<y)
def Oz(R:List Int)(x:Int):List Int→List Int→List Int
 |o,[]=>x::o
 |o,y::r=>if tk R y<tk R x then Oz R x (y::o) r else r.reverse++y::x::o
def OA(R:List Int)(o:List Int)(x:Int):List Int:=Oz R x [] o.reverse
def upto(n:Nat):List Int:=(List.range n).map Int.ofNat
def GC(R:List Int)(l:List Int):List Int:=l.foldl (OA R) []
def bump(o l:List Int):List Int:=l.foldl (fun o i=>o.set i.toNat (tk o i+1)) o
theorem M7(R:List Int)(x:Int):∀o r:List Int,(Oz R x o r).Perm (x::(r++o))
 |o,[]=>List.Perm.refl _
 |o,y::r=>by
  unfold Oz;split
  ·exact(M7 R x (y::o) r).trans (yH _ yd)
  ·have h1:(r.reverse++y::x::o).Perm (r++y::x::o):=(List.reverse_perm r).append_right _;have h2:(r++y::x::o).Perm (y::(r++x::o)):=yd;have h3:(y::(r++x::o)).Perm (y::x::(r++o)):=yH _ yd;exact h1.trans (h2.trans (h3.trans (List.Perm.swap _ _ _)))
theorem G7(R:List Int)(o:List Int)(x:Int):(OA R o x).Perm (x::o):=by
 refine(M7 R x [] o.reverse).trans (yH _ ?_);rw[List.append_nil];exact List.reverse_perm o
theorem WA(R:List Int)(o:List Int)(x:Int):(OA R o x).length=o.length+1:=(G7 R o x).length_eq
theorem Nc(R:List Int):∀a o:List Int,(a.foldl (OA R) o).Perm (a++o)
 |[],o=>List.Perm.refl _
 |x::a,o=>by
  show(a.foldl (OA R) (OA R o x)).Perm (x::(a++o));exact(Nc R a _).trans ((List.Perm.append_left a (G7 R o x)).trans yd)
theorem Ha(R:List Int)(a:List Int):(GC R a).Perm a:=by
 have:=Nc R a [];rw[List.append_nil]at this;exact this
theorem VK(R:List Int)(a:List Int):(GC R a).length=a.length:=(Ha R a).length_eq
theorem Uc{R:List Int}{x y z:Int}(h:O7 R x y)(k:O7 R y z):O7 R x z:=by
 unfold O7 at*;omega
theorem Sl(R:List Int)(x:Int):∀o r:List Int,(r.reverse++o).Pairwise (O7 R)→(∀y∈o,O7 R x y)→(∀y∈r,y<x)→(Oz R x o r).Pairwise (O7 R)
 |o,[],h,ho,hr=>yp ho (by simpa using h)
 |o,y::r,h,ho,hr=>by
  have h:(r.reverse++y::o).Pairwise (O7 R):=by simpa using h
  unfold Oz;split
  ·rename_i c;exact Sl R x (y::o) r h (fun z hz=>by
    rcases zT.1 hz with rfl|hz
    ·exact .inl c
    ·exact ho z hz) (fun z hz=>hr z (zm _ hz))
  ·rename_i c;have hy:=hr y zt;have yx:O7 R y x:=by unfold O7;omega
   rw[zW]at h ⊢;obtain⟨h1,h2,h3⟩:=h;obtain⟨h4,h5⟩:=zZ.1 h2;refine⟨h1,yp (fun z hz=>?_) (yp ho h5),fun a ha b hb=>?_⟩
   ·rcases zT.1 hz with rfl|hz
    ·exact yx
    ·exact h4 z hz
   ·rcases zT.1 hb with rfl|hb
    ·exact h3 a ha _ zt
    ·rcases zT.1 hb with rfl|hb
     ·exact Uc (h3 a ha y zt) yx
     ·exact h3 a ha b (zm _ hb)
theorem R2(R:List Int):∀a o:List Int,o.Pairwise (O7 R)→a.Pairwise (· < ·)→(∀x∈a,∀y∈o,y<x)→(a.foldl (OA R) o).Pairwise (O7 R)
 |[],o,h,_,_=>h
 |x::a,o,h,ha,hx=>by
  obtain⟨a1,a2⟩:=zZ.1 ha;refine R2 R a _ (Sl R x [] o.reverse (by simpa using h) (fun y hy=>by cases hy) (fun y hy=>hx x zt y (by simpa using hy))) a2 (fun z hz y hy=>?_);rcases zT.1 ((G7 R o x).mem_iff.1 hy)with rfl|hy
  ·exact a1 z hz
  ·exact hx z (zm _ hz) y hy
theorem S0(R:List Int)(a:List Int)(ha:a.Pairwise (· < ·)):(GC R a).Pairwise (O7 R):=R2 R a [] List.Pairwise.nil ha (fun _ _ y hy=>by cases hy)
theorem KL(n:Nat):(upto n).Pairwise (· < ·):=by
 unfold upto;exact List.pairwise_map.2 (List.pairwise_lt_range.imp (fun h=>by exact Int.ofNat_lt.2 h))
theorem E9(n:Nat):(upto n).length=n:=by simp[upto]
theorem Gk{n:Nat}{x:Int}:x∈upto n↔0≤x∧x<(n:Int):=by
 unfold upto;rw[yC];constructor
 ·rintro⟨k,hk,rfl⟩;have:=List.mem_range.1 hk;exact⟨yq k,by show(k:Int)<n;omega⟩
 ·rintro⟨h1,h2⟩;exact⟨x.toNat,List.mem_range.2 (by omega),by show((x.toNat:Nat):Int)=x;omega⟩
theorem Uj(n:Nat):upto (n+1)=upto n++[(n:Int)]:=by
 unfold upto;rw[List.range_succ,List.map_append];rfl
def Rb(R:List Int):List Int→Int→Int→Int
 |[],_,b=>b
 |x::r,i,b=>if x>tk R b then Rb R r (i+1) i else Rb R r (i+1) b
def NH(R:List Int):Int:=Rb R (R.drop 1) 1 0
def Pp:Nat→List Int→List Int→List Int
 |0,o,_=>o
 |f+1,o,R=>Pp f (o.set (NH R).toNat (tk o (NH R)+1)) (R.set (NH R).toNat (-1))
def Js(R:List Int)(i b:Int):Prop:=0≤b∧b<i∧∀j:Int,0≤j→j<i→tk R j≤tk R b∧(j<b→tk R j<tk R b)
theorem O0(R:List Int):∀(r:List Int) (i:Nat) (b:Int),R.drop i=r→i≤R.length→Js R i b→Js R R.length (Rb R r i b)
 |[],i,b,h,hi,hb=>by
  have:R.length≤i:=List.drop_eq_nil_iff.1 h;have e:i=R.length:=by omega
  subst e;exact hb
 |x::r,i,b,h,hi,hb=>by
  have hlt:i<R.length:=by
   rcases Nat.lt_or_ge i R.length with h1|h1
   ·exact h1
   ·rw[yz h1]at h;cases h
  have hd:=yt hlt;rw[h]at hd;have hx:tk R (i:Int)=x:=by
   have:x=R[i]:=(List.cons.inj hd).1;rw[this];simp[tk,hlt]
  have hr:R.drop (i+1)=r:=(List.cons.inj hd).2.symm;obtain⟨b1,b2,b3⟩:=hb;unfold Rb;split
  ·rename_i c;refine O0 R r (i+1) (i:Int) hr hlt ⟨by omega,by omega,fun j h0 h1=>?_⟩;rcases zy j i with h2|h2
   ·have:=(b3 j h0 h2).1;rw[hx];omega
   ·have:j=i:=by omega
    subst this;exact⟨Int.le_refl _,fun h=>absurd h (by omega)⟩
  ·rename_i c;refine O0 R r (i+1) b hr hlt ⟨by omega,by omega,fun j h0 h1=>?_⟩;rcases zy j i with h2|h2
   ·exact b3 j h0 h2
   ·have:j=i:=by omega
    subst this;rw[hx];exact⟨by omega,fun h=>absurd h (by omega)⟩
theorem Wh{R:List Int}(h:0<R.length):Js R R.length (NH R):=
 O0 R _ 1 0 rfl h ⟨by omega,by omega,fun j h0 h1=>by
  have:j=0:=by omega
  subst this;exact⟨Int.le_refl _,fun h=>absurd h (by omega)⟩⟩
theorem TR{R:List Int}{n a b:Int}(h:Js R n a)(k:Js R n b):a=b:=by
 obtain⟨a1,a2,a3⟩:=h;obtain⟨b1,b2,b3⟩:=k;rcases Int.lt_trichotomy a b with h|h|h
 ·have:=(b3 a a1 a2).2 h;have:=(a3 b b1 b2).1;omega
 ·exact h
 ·have:=(a3 b b1 b2).2 h;have:=(b3 a a1 a2).1;omega
theorem Rg{R:List Int}{i j v:Int}(hi:0≤i)(hj:0≤j)(hl:i<R.length):tk (R.set i.toNat v) j=if j=i then v else tk R j:=by
 unfold tk;by_cases h:j=i
 ·subst h;rw[if_pos rfl];have:j.toNat<R.length:=by omega
  simp[List.getD,this]
 ·rw[if_neg h];have:i.toNat≠j.toNat:=by omega
  simp[List.getD,this]
theorem SU(R0 ord:List Int)(hp:ord.Perm (upto R0.length))(hw:ord.Pairwise (O7 R0))(h0:∀j:Int,0≤j→j<R0.length→0≤tk R0 j):
  ∀(f:Nat) (rest pre:List Int) (o R:List Int),ord=pre++rest→f≤rest.length→R.length=R0.length→(∀j∈pre,tk R j= -1)→(∀j∈rest,tk R j=tk R0 j)→Pp f o R=bump o (rest.take f)
 |0,rest,pre,o,R,_,_,_,_,_=>by simp[Pp,bump]
 |f+1,[],pre,o,R,_,hf,_,_,_=>by simp at hf
 |f+1,x::rest,pre,o,R,he,hf,hl,h1,h2=>by
  have mem:∀j,j∈ord↔0≤j∧j<(R0.length:Int):=fun j=>by rw[hp.mem_iff];exact Gk
  have hx:x∈ord:=by rw[he];simp
  obtain⟨x0,xl⟩:=(mem x).1 hx;have hpw:=hw;rw[he,zW]at hpw;obtain⟨_,p2,_⟩:=hpw;obtain⟨p4,_⟩:=zZ.1 p2;have hn:ord.Nodup:=by
   rw[hp.nodup_iff];exact(KL _).imp (fun h e=>by omega)
  rw[he]at hn;have hb:Js R R.length x:=⟨x0,by omega,fun j j0 jl=>by
   have hj:j∈ord:=(mem j).2 ⟨j0,by omega⟩;have hxv:tk R x=tk R0 x:=h2 x zt;have:=h0 x x0 xl;rw[he]at hj;rcases yh.1 hj with hj|hj
   ·rw[h1 j hj];omega
   ·rcases zT.1 hj with rfl|hj
    ·omega
    ·rw[h2 j (zm _ hj)];have:=p4 j hj;unfold O7 at this;omega⟩
  have e:NH R=x:=TR (Wh (by omega)) hb;unfold Pp;rw[e];have nd:=List.nodup_append.1 hn;have nx:=(List.nodup_cons.1 nd.2.1).1;have:=SU R0 ord hp hw h0 f rest (pre++[x]) (o.set x.toNat (tk o x+1)) (R.set x.toNat (-1)) (by rw[he];simp) (by simpa using hf) (by simp[hl]) (fun j hj=>?_) (fun j hj=>?_)
  ·rw[this];rfl
  ·have hj0:0≤j:=by
    refine((mem j).1 ?_).1;rw[he];rcases yh.1 hj with h|h
    ·simp[h]
    ·simp at h;simp[h]
   rw[Rg x0 hj0 (by omega)];split
   ·rfl
   ·rename_i c;rcases yh.1 hj with h|h
    ·exact h1 j h
    ·simp at h;exact absurd h c
  ·have hj0:0≤j:=((mem j).1 (by rw[he];simp[hj])).1;rw[Rg x0 hj0 (by omega),if_neg (fun e:j=x=>nx (e▸hj))];exact h2 j (zm _ hj)
end Go.Sp
end
section
namespace Go.Sp
def Ak:List Int→Int
 |[]=>0
 |x::l=>x+Ak l
theorem Fh:∀a b:List Int,Ak (a++b)=Ak a+Ak b
 |[],b=>by simp[Ak]
 |x::a,b=>by simp[Ak,Fh a b];omega
theorem UB{a b:List Int}(h:a.Perm b):Ak a=Ak b:=by
 induction h with
 |nil=>rfl
 |cons x _ ih=>simp[Ak,ih]
 |swap x y l=>simp[Ak];omega
 |trans _ _ h1 h2=>rw[h1,h2]
theorem Ex:∀ {l:List Int},(∀x∈l,0≤x)→0≤Ak l
 |[],_=>Int.le_refl _
 |x::l,h=>by
  have:=h x zt;have:=Ex (l:=l) fun y hy=>h y (zm _ hy)
  simp only[Ak];omega
theorem FJ{s:Int}:∀ {l:List Int},(∀x∈l,x≤s)→Ak l≤s*l.length
 |[],_=>by simp[Ak]
 |x::l,h=>by
  have:=h x zt;have:=FJ (l:=l) fun y hy=>h y (zm _ hy)
  simp only[Ak,yc,zR,zA];omega
theorem I7:∀ {l:List Int},(∀x∈l,0≤x)→∀x∈l,x≤Ak l
 |[],_,x,hx=>by cases hx
 |y::l,h,x,hx=>by
  have hy:=h y zt;have hl:=Ex (l:=l) fun y hy=>h y (zm _ hy)
  simp only[Ak];rcases zT.1 hx with rfl|hx
  ·omega
  ·have:=I7 (l:=l) (fun y hy=>h y (zm _ hy)) x hx;omega
def ES(t s:Int)(ws:List Int):List Int:=ws.map fun w=>zH (t*w) s
def F4(t s:Int)(ws:List Int):List Int:=ws.map fun w=>yP (t*w) s
def UC(t:Int)(ws:List Int):Int:=t-Ak (ES t (Ak ws) ws)
def BC(t:Int)(ws:List Int):List Int:=bump (ES t (Ak ws) ws) ((GC (F4 t (Ak ws) ws) (upto ws.length)).take (UC t ws).toNat)
def H6(t:Int)(ws:List Int):List Int:=Pp (UC t ws).toNat (ES t (Ak ws) ws) (F4 t (Ak ws) ws)
def okW(t:Int)(ws:List Int):Prop:=0≤t∧t≤999999999∧(∀w∈ws,0≤w∧w≤999999999)∧0<Ak ws
theorem part(t s:Int):∀ws:List Int,t*Ak ws=s*Ak (ES t s ws)+Ak (F4 t s ws)
 |[]=>by simp[Ak,ES,F4]
 |w::ws=>by
  have:=part t s ws;have e:=zO (t*w) s;simp only[ES,F4,List.map_cons,Ak,zA]at this ⊢;rw[zF s (zH (t*w) s)];omega
theorem Jl{t s:Int}{ws:List Int}(ht:0≤t)(hs:0<s)(hw:∀w∈ws,0≤w):∀x∈F4 t s ws,0≤x∧x<s:=by
 intro x hx;obtain⟨w,h1,rfl⟩:=yC.1 hx;have h0:0≤t*w:=zr ht (hw w h1);exact⟨Int.tmod_nonneg _ h0,Int.tmod_lt_of_pos _ hs⟩
theorem WQ(t:Int)(ws:List Int):Ak ws*UC t ws=Ak (F4 t (Ak ws) ws):=by
 have:=part t (Ak ws) ws;unfold UC;rw[yu];rw[zF t]at this;omega
theorem He{t:Int}{ws:List Int}(h:okW t ws):0≤UC t ws∧UC t ws≤ws.length:=by
 obtain⟨h1,h2,h3,h4⟩:=h;have e:=WQ t ws;have r:=Jl h1 h4 (fun w hw=>(h3 w hw).1);have n0:=Ex fun x hx=>(r x hx).1
 have n1:=FJ (s:=Ak ws) fun x hx=>zz (r x hx).2
 have l:(F4 t (Ak ws) ws).length=ws.length:=by simp[F4]
 rw[l]at n1;generalize Ak ws=s at*;constructor
 ·refine Int.not_lt.1 fun c=>?_
  have:=zX c h4;rw[yi]at this;omega
 ·refine Int.not_lt.1 fun c=>?_
  have:=zX c h4;omega
theorem Zz{t s:Int}{ws:List Int}{j:Int}(h:j<ws.length)(h0:0≤j):tk (F4 t s ws) j=yP (t*tk ws j) s:=by
 have:j.toNat<ws.length:=by omega
 simp[tk,F4,this]
theorem ZD{t s:Int}{ws:List Int}{j:Int}(h:j<ws.length)(h0:0≤j):tk (ES t s ws) j=zH (t*tk ws j) s:=by
 have:j.toNat<ws.length:=by omega
 simp[tk,ES,this]
theorem Ia{ws:List Int}{j:Int}(h:j<ws.length)(h0:0≤j):tk ws j∈ws:=by
 have:j.toNat<ws.length:=by omega
 simp[tk,this]
theorem GZ(t s:Int)(ws:List Int):(F4 t s ws).length=ws.length:=by simp[F4]
theorem Ho(t s:Int)(ws:List Int):(ES t s ws).length=ws.length:=by simp[ES]
theorem TT{t:Int}{ws:List Int}(h:okW t ws):H6 t ws=BC t ws:=by
 have hl:=He h;obtain⟨h1,h2,h3,h4⟩:=h;have r:=Jl h1 h4 (fun w hw=>(h3 w hw).1);have hlen:=GZ t (Ak ws) ws;unfold H6 BC;have hp:=Ha (F4 t (Ak ws) ws) (upto ws.length);refine SU (F4 t (Ak ws) ws) _ (by rw[hlen];exact hp) (S0 _ _ (KL _)) (fun j j0 jl=>(r _ (Ia jl j0)).1) _ (GC (F4 t (Ak ws) ws) (upto ws.length)) [] _ _ rfl ?_ rfl (fun j hj=>by cases hj) (fun j hj=>rfl);rw[hp.length_eq,E9];omega
theorem I6:∀l o:List Int,(bump o l).length=o.length
 |[],o=>rfl
 |x::l,o=>by
  show(bump (o.set x.toNat (tk o x+1)) l).length=o.length;rw[I6 l];simp
theorem RX:∀(l o:List Int),(∀j∈l,0≤j∧j<o.length)→l.Nodup→∀j:Int,0≤j→tk (bump o l) j=tk o j+if j∈l then 1 else 0
 |[],o,_,_,j,_=>by simp[bump]
 |x::l,o,h,hn,j,hj=>by
  obtain⟨n1,n2⟩:=List.nodup_cons.1 hn;obtain⟨x0,xl⟩:=h x zt;show tk (bump (o.set x.toNat (tk o x+1)) l) j=_;rw[RX l _ (fun y hy=>by rw[List.length_set];exact h y (zm _ hy)) n2 j hj,Rg x0 hj xl];by_cases c:j=x
  ·subst c;rw[if_pos rfl,if_neg n1,if_pos zt];omega
  ·rw[if_neg c];by_cases d:j∈l
   ·rw[if_pos d,if_pos (zm _ d)]
   ·rw[if_neg d,if_neg (by simp[c,d])]
theorem PJ:∀(o:List Int) (i:Nat) (v:Int),i<o.length→Ak (o.set i v)=Ak o-o.getD i 0+v
 |[],i,v,h=>by simp at h
 |x::o,0,v,h=>by simp[Ak];omega
 |x::o,i+1,v,h=>by
  have:=PJ o i v (by simpa using h);simp only[List.set_cons_succ,Ak,this,List.getD_cons_succ];omega
theorem NG:∀(l o:List Int),(∀j∈l,0≤j∧j<o.length)→Ak (bump o l)=Ak o+l.length
 |[],o,_=>by simp[bump]
 |x::l,o,h=>by
  obtain⟨x0,xl⟩:=h x zt;show Ak (bump (o.set x.toNat (tk o x+1)) l)=_;rw[NG l _ (fun y hy=>by rw[List.length_set];exact h y (zm _ hy)),PJ _ _ _ (by omega)];simp only[yc,zR,tk];omega
theorem Zv:∀(R:List Int),Ak ((upto R.length).map (tk R))=Ak R:=by
 intro R;congr 1;unfold upto;rw[List.map_map];refine List.ext_getElem (by simp) (fun i h1 h2=>?_);simp[tk,h2]
theorem OV{a b s:Int}(hs:0<s)(ha:0≤a)(h:a≤b):zH a s≤zH b s:=by
 rw[zN ha,zN (yM ha h)];exact Int.ediv_le_ediv hs h
theorem fair{t:Int}{ws:List Int}(h:okW t ws):(BC t ws).length=ws.length∧Ak (BC t ws)=t∧
  (∀i:Int,0≤i→i<ws.length→0≤tk (BC t ws) i∧tk (BC t ws) i≤999999999∧(tk (BC t ws) i=zH (t*tk ws i) (Ak ws)∨(tk (BC t ws) i=zH (t*tk ws i) (Ak ws)+1∧yP (t*tk ws i) (Ak ws)≠0)))∧
  (∀i k:Int,0≤k→k<i→i<ws.length→(tk ws i≤tk ws k→tk (BC t ws) i≤tk (BC t ws) k)∧(tk ws k<tk ws i→tk (BC t ws) k≤tk (BC t ws) i)):=by
 have hl:=He h;have he:=WQ t ws;obtain⟨h1,h2,h3,h4⟩:=h;have r:=Jl h1 h4 (fun w hw=>(h3 w hw).1);have hlen:=GZ t (Ak ws) ws;have hp:=Ha (F4 t (Ak ws) ws) (upto ws.length);have hw:=S0 (F4 t (Ak ws) ws) (upto ws.length) (KL _);have hL:BC t ws=bump (ES t (Ak ws) ws) ((GC (F4 t (Ak ws) ws) (upto ws.length)).take (UC t ws).toNat):=rfl;have hs0:t-Ak (ES t (Ak ws) ws)=UC t ws:=rfl;have hst:=Zv (F4 t (Ak ws) ws);rw[hlen]at hst;generalize hR:F4 t (Ak ws) ws=R at*;generalize ho:GC R (upto ws.length)=ord at*;generalize hm:(UC t ws)=m at*;generalize hO:ES t (Ak ws) ws=O at*;generalize hs:Ak ws=s at*;have hOl:O.length=ws.length:=by rw[←hO];exact Ho ..
 have hR':∀j:Int,0≤j→j<ws.length→tk R j=yP (t*tk ws j) s:=fun j j0 jl=>by rw[←hR];exact Zz jl j0
 have hO':∀j:Int,0≤j→j<ws.length→tk O j=zH (t*tk ws j) s:=fun j j0 jl=>by rw[←hO];exact ZD jl j0
 have mem:∀j,j∈ord↔0≤j∧j<(ws.length:Int):=fun j=>by rw[hp.mem_iff];exact Gk
 have hn:ord.Nodup:=by
  rw[hp.nodup_iff];exact(KL _).imp (fun h e=>by omega)
 have hol:ord.length=ws.length:=by rw[hp.length_eq,E9]
 have hT:∀j∈ord.take m.toNat,0≤j∧j<O.length:=fun j hj=>by rw[hOl];exact(mem j).1 (List.mem_of_mem_take hj)
 have hTn:(ord.take m.toNat).Nodup:=hn.sublist (List.take_sublist _ _);have hb:∀j:Int,0≤j→tk (BC t ws) j=tk O j+if j∈ord.take m.toNat then 1 else 0:=fun j hj=>by rw[hL];exact RX _ _ hT hTn j hj
 have hlL:(BC t ws).length=ws.length:=by rw[hL,I6,hOl]
 have hsum:Ak (BC t ws)=t:=by
  rw[hL,NG _ _ hT,List.length_take,hol];have:min m.toNat ws.length=m.toNat:=by omega
  rw[this];omega
 have ahead:∀i k:Int,0≤k→k<ws.length→i∈ord.take m.toNat→O7 R k i→k∈ord.take m.toNat:=by
  intro i k k0 kl hi hbk;have hk:k∈ord:=(mem k).2 ⟨k0,kl⟩;rw[←z8 m.toNat ord]at hk hw;rcases yh.1 hk with hk|hk
  ·exact hk
  ·have:=(zW.1 hw).2.2 i hi k hk;unfold O7 at this hbk;omega
 have pos:∀i∈ord.take m.toNat,tk R i≠0:=by
  intro i hi h0;obtain⟨A,B,hAB⟩:=List.append_of_mem hi;have hAl:(A.length:Int)+1≤m:=by
   have:(ord.take m.toNat).length=A.length+(B.length+1):=by rw[hAB];simp
   rw[List.length_take]at this;omega
  have hsplit:ord=A++i::(B++ord.drop m.toNat):=by
   have:=(z8 m.toNat ord).symm;rw[hAB,yv,yb]at this;exact this
  have hw2:=hw;rw[hsplit]at hw2;have hafter:=(zZ.1 (zW.1 hw2).2.1).1;have hS:Ak (ord.map (tk R))=Ak R:=by
   rw[←hst];exact UB (hp.map _)
  have memR:∀j∈ord,0≤tk R j∧tk R j<s:=fun j hj=>by
   obtain⟨j0,jl⟩:=(mem j).1 hj;exact r _ (Ia (by rw[hlen];exact jl) j0)
  have z1:Ak (A.map (tk R))≤(s-1)*A.length:=by
   have:=FJ (s:=s-1) (l:=A.map (tk R)) (fun x hx=>by
    obtain⟨j,hj,rfl⟩:=yC.1 hx;have:=memR j (by rw[hsplit];simp[hj]);omega)
   simpa using this
  have z2:Ak ((B++ord.drop m.toNat).map (tk R))≤0*((B++ord.drop m.toNat).map (tk R)).length:=FJ (fun x hx=>by
   obtain⟨j,hj,rfl⟩:=yC.1 hx;have:=hafter j hj;unfold O7 at this;omega)
  rw[hsplit,List.map_append,List.map_cons,Fh]at hS;simp only[Ak,h0,yQ]at hS z2;have z3:(s-1)*(A.length:Int)≤s*A.length:=zh (by omega) (yq _);have z4:s*((A.length:Int)+1)≤s*m:=zp hAl (zz h4);rw[zA,Int.mul_one]at z4;omega
 have nn:∀i:Int,0≤i→i<ws.length→0≤t*tk ws i∧0≤tk O i:=fun i i0 il=>by
  have h0:0≤t*tk ws i:=zr h1 (h3 _ (Ia il i0)).1;refine⟨h0,?_⟩;rw[hO' i i0 il];exact Int.tdiv_nonneg h0 (zz h4)
 have pn:∀i:Int,0≤i→i<ws.length→0≤tk (BC t ws) i:=fun i i0 il=>by
  rw[hb i i0];have:=(nn i i0 il).2;split<;>omega
 refine⟨hlL,hsum,fun i i0 il=>⟨pn i i0 il,?_,?_⟩,fun i k k0 ki il=>⟨fun hw'=>?_,fun hw'=>?_⟩⟩
 ·have all:∀x∈BC t ws,0≤x:=fun x hx=>by
   obtain⟨j,hj,rfl⟩:=List.getElem_of_mem hx;have:=pn (j:Int) (yq _) (by omega);simpa [tk,hj]using this
  have:=I7 all _ (Ia (ws:=BC t ws) (by omega) i0);omega
 ·rw[hb i i0,hO' i i0 il];split
  ·rename_i c;exact .inr ⟨rfl,by rw[←hR' i i0 il];exact pos i c⟩
  ·exact .inl (Int.add_zero _)
 ·have kl:k<ws.length:=by omega
  have i0:0≤i:=by omega
  have hm1:t*tk ws i≤t*tk ws k:=zp hw' h1;have hq:tk O i≤tk O k:=by rw[hO' i i0 il,hO' k k0 kl];exact OV h4 (nn i i0 il).1 hm1
  rw[hb i i0,hb k k0];by_cases ci:i∈ord.take m.toNat
  ·by_cases ck:k∈ord.take m.toNat
   ·rw[if_pos ci,if_pos ck];omega
   ·rw[if_pos ci,if_neg ck];rcases yr hq with c|c
    ·omega
    ·exfalso;refine ck (ahead i k k0 kl ci ?_);have e1:=zO (t*tk ws i) s;have e2:=zO (t*tk ws k) s;rw[←hR' i i0 il, ←hO' i i0 il]at e1;rw[←hR' k k0 kl, ←hO' k k0 kl, ←c]at e2;unfold O7;omega
  ·rw[if_neg ci];split<;>omega
 ·have kl:k<ws.length:=by omega
  have i0:0≤i:=by omega
  have hm1:t*tk ws k≤t*tk ws i:=zp (zz hw') h1;have hq:tk O k≤tk O i:=by rw[hO' i i0 il,hO' k k0 kl];exact OV h4 (nn k k0 kl).1 hm1
  rw[hb i i0,hb k k0];by_cases ck:k∈ord.take m.toNat
  ·by_cases ci:i∈ord.take m.toNat
   ·rw[if_pos ci,if_pos ck];omega
   ·rw[if_neg ci,if_pos ck];rcases yr hq with c|c
    ·omega
    ·exfalso;have e1:=zO (t*tk ws i) s;have e2:=zO (t*tk ws k) s;rw[←hR' i i0 il, ←hO' i i0 il]at e1;rw[←hR' k k0 kl, ←hO' k k0 kl,c]at e2;have hle:¬tk R k<tk R i:=fun c2=>ci (ahead k i i0 il ck (.inl c2))
     have e3:t*tk ws k=t*tk ws i:=by omega
     have ht:t=0:=by
      rcases yr h1 with c3|c3
      ·have:=zX hw' c3;omega
      ·exact c3.symm
     have:=pos k ck;rw[hR' k k0 kl,ht]at this;simp at this
  ·rw[if_neg ck];split<;>omega
end Go.Sp
end
section
namespace Go.Pe
open Go.Det
noncomputable def Jo:Az:=⟨[],fun _=>true,[.bool],fun _=>true,false⟩
theorem IG:Ac A4 7 Jo:=by
 refine .eW ⟨by kernel_rfl,Ad (by kernel_rfl),fun F h args i hfz hlt hgh hargs _=>?_⟩;have ha:args=[]:=by
  have:=hargs (fun _=>none) 0;simpa [Ah,Jo]using this
 subst ha;refine⟨[(.bool true,h)],1,fun m hm=>?_,fun _=>⟨_,rfl⟩,fun x hx=>?_⟩
 ·obtain⟨m',rfl⟩:∃m',m=m'+1:=⟨m-1,by omega⟩;have hq:A4.spec 7=some fun args h=>bif Xl h EM then(match Gy A7 7 args with|some v=>some (v,h)|none=>none)else none:=rfl
  rw[AY];simp only[hq,Zt hgh,cond_true];rfl
 ·cases List.mem_singleton.1 hx;exact⟨Nat.le_refl _,fun _ _=>rfl,hlt,F,fun _ _ h=>h,fun _ _ h=>.inl h,hfz,fun ρ N=>CN _⟩
end Go.Pe
end
section
namespace Go.Sp
def Jp(n:Int)(seen:List Int):List (Int×Int)→Int
 |[]=>0
 |x::r=>if x.1<3∨6<x.1∨x.2<1∨n<x.2 then 3 else if x.2∈seen then 9 else Jp n (seen++[x.2]) r
def De(l:List (Int×Int)):Int:=if l.length=0 then 12 else if 36<l.length then 5 else Jp (l.length:Int) [] l
def HP(x:Int×List UInt8):Int:=if x.2=[]∨x.2=[99]then(if x.1<1∨99<x.1 then 3 else 0)else if x.2=[120]∨x.2=[45]then(if x.1=0 then 0 else 3)else 13
def HO:List (Int×List UInt8)→Int
 |[]=>0
 |x::r=>if HP x=0 then HO r else HP x
def Pq(h:List (Int×Int))(p:List UInt8)(l:List (Int×List UInt8)):Int:=first [De h,BS (!isName p) 8,BS (decide (l.length≠h.length)) 2,HO l]
def EJ(n:Int):Bool:=decide (n<0)||decide (999999999<n)
def AO(w:List Int):Int:=if w.length=0 then 12 else if 256<w.length then 5 else if w.any EJ=true then 3 else if w.any (fun n=>decide (n≠0))=true then 0 else 6
def A5(t:Int)(w:List Int):Int:=first [BS (EJ t) 3,AO w]
def Ct(t:Int)(w:List Int):List Int:=if A5 t w=0 then BC t w else[]
def EC(w:List Int):Bool:=decide (w.length≤20)||(decide (256<w.length)&&decide (w.length≤1000000))
def cO(t:Int)(w:List Int):Bool:=decide (w.length≤20)&&decide (A5 t w=0)
end Go.Sp
namespace Go.Pe
open Sp
open Go.Det
noncomputable section
abbrev Rh:Sh:=.pair i64 i64
abbrev IW:Sh:=.pair i64 .str
noncomputable def GA:Az:=⟨[.list Rh],fun l=>decide (l.length≤1000000),[i64],fun l=>De l,false⟩
noncomputable def JG:Az:=⟨[IW],fun _=>true,[i64],fun x=>HP x,false⟩
noncomputable def IV:Az:=⟨[.list IW],fun l=>decide (l.length≤1000000),[i64],fun l=>HO l,false⟩
noncomputable def Na:Az:=⟨[.list Rh,.pair .str (.list IW)],fun i=>decide (i.1.length≤45)&&decide (i.2.1.length≤100)&&decide (i.2.2.length≤45),[i64],fun i=>Pq i.1 i.2.1 i.2.2,false⟩
noncomputable def DF:Az:=⟨[MP],fun l=>decide (l.length≤1000000),[i64],fun l=>AO l,false⟩
noncomputable def FA:Az:=⟨[i64,MP],fun i=>EC i.2,[MP,i64],fun i=>(Ct i.1 i.2,A5 i.1 i.2),false⟩
noncomputable def MF:Az:=⟨[i64,MP],fun i=>cO i.1 i.2,[MP],fun i=>H6 i.1 i.2,false⟩
noncomputable def Wz:Az:=⟨[MP,MP],fun i=>decide (i.1.length≤1000000),[.bool],fun i=>i.1==i.2,false⟩
noncomputable def D0:A2:=X7 []
noncomputable def aH:A2:=X7 [(38,DN),(39,Ih)]
noncomputable def Yl:A2:=X7 [(38,DN),(39,Ih),(107,JG),(108,JG)]
noncomputable def cG:A2:=X7 [(38,DN),(39,Ih),(8,C6),(9,C6),(17,GA),(18,GA),(51,IV),(52,IV)]
noncomputable def ZA:Az:=⟨[],fun _=>false,[],fun _=>(),false⟩
noncomputable def dW:A2:=cA [(107,[1])] [(107,[(1,[(1,IW)])])] [(107,[(1,[1])])] [(38,DN),(39,Ih)]
noncomputable def SO:A2:=cA [(48,[2,3])] [] [(48,[(2,[0,3]),(3,[0,3,4])])] [(38,DN),(39,Ih)]
noncomputable def SB:A2:=X7 [(7,Jo),(12,FA),(14,DF)]
noncomputable def G8:Az:=⟨[i64,MP],fun _=>true,[.bool],fun _=>true,false⟩
noncomputable def EF:A2:=X7 [(38,DN),(39,Ih),(48,DF),(167,ZA)]
noncomputable def eK:A2:=X7 [(7,Jo),(8,C6),(9,C6),(10,Hf),(11,Hf)]
noncomputable def fL:A2:=X7 [(7,Jo),(17,GA),(18,GA),(19,Na),(20,Na)]
noncomputable def cN:A2:=X7 [(7,Jo),(13,DN),(12,FA),(14,DF),(15,Wz),(16,MF)]
noncomputable def Mk:Az:=⟨[.str],fun _=>true,[.bool],fun _=>true,false⟩
noncomputable def DG:Az:=⟨[i64,MP],fun _=>true,[.bool],fun _=>true,false⟩
noncomputable def H3:Az:=⟨[.list Rh,.pair .str (.list IW)],fun _=>true,[.bool],fun _=>true,false⟩
end
end Go.Pe
end
