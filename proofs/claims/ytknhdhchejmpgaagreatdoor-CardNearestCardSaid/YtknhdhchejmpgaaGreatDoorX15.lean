import Derived.Test.YtknhdhchejmpgaaGreatDoorX14
import Derived.Test.YtknhdhchejmpgaaGreatDoorX13
import Derived.Test.YtknhdhchejmpgaaGreatDoorX12
import Derived.Test.YtknhdhchejmpgaaGreatDoorX03
import Derived.ChangeSame
import Derived.Below
import Derived.Test.YtknhdhchejmpgaaGreatDoorX09
import Derived.ChangeShapes
import Derived.OpenShut
/- A part of a proof (no law is stated here). Made by program out of texts by AI agents. -/
open Go.Pe.Ends renaming tt → zc, leaf → ze, ite → zh, ff → zk, At → zm, eq → zp
open Bool renaming and_eq_true → zg, true_and → yk
open Go.IntKind renaming wrap → zj
open Rat renaming divInt → zl, ne_of_gt → ye, div_mul_cancel → yy, not_lt → qh, num_intCast → qk, den_intCast → ql, add_mul → qo
open Int renaming toNat_natCast → zn, eq_ofNat_of_zero_le → zQ, mul_le_mul_of_nonneg_left → zS, tmod_eq_emod_of_nonneg → zW, tdiv_eq_ediv_of_nonneg → zX, lt_of_lt_of_le → z7, le_of_lt → yb, mul_nonneg → yc, gcd → yj, one_mul → yo, natAbs_of_nonneg → yq, natCast_pow → yt, mul_ne_zero → yu, natCast_nonneg → yw, natAbs_mul → yx, mul_ediv_cancel_left → yz, tdiv_eq_ediv_of_dvd → y9, mul_zero → qd, add_zero → qe, lt_or_le → qf, sign_eq_one_of_pos → qg, natCast_mul → qj, mul_add → qm, toNat → qq, add_assoc → qt, tdiv → qz, zero_sub → q9, gcd_comm → jc
open Go.Lib renaming decDigits → zo, itoa → qn
open List renaming length_append → zq, length_cons → zr, take_of_length_le → zu, getElem?_eq_none → zz, length_drop → zL, getElem?_eq_getElem → zM, length_eq_zero_iff → zN, drop_eq_nil_of_le → zO, getD_eq_getElem?_getD → zP, length_singleton → zU, mem_flatMap → zZ, map_cons → z6, mem_append_right → yh, all_eq_true → yi, mem_append_left → yp, length_pos_iff → yv, getElem?_take_of_lt → y7, take → y8, map_take → qu, map_drop → qv, range → qw, drop → jg
open Array renaming getElem?_eq_some_iff → zt, getElem?_eq_none → zT
open Go.DataW renaming trod → zw, TrodAll → ym, Trod → qx
open Go.Pe.Af renaming of → zx
open Nat renaming le_refl → zy, eq_of_beq_eq_true → zK, lt_of_le_of_lt → z8, beq → yg, sub → qy
open Option renaming bind_some → zR, bind_eq_some_iff → qc
open Go.Sp renaming AL → zV, rW → zY, rN → ya, B9 → yr, vR → je
open Go.Value renaming okWide → yf
open UInt8 renaming ofNat → yn, toNat_inj → qi
open Go.World renaming cell? → qp
open Go.Addr renaming add → jf
section
namespace Go.Pe
open Sp
open Go.Det
namespace T108
variable {Q:PV→Ob→Prop}
theorem Aj(g:Nat)(hq:∀ob,Q (.dat i64 (g:Int)) ob):∀(f x y:Nat),y<f→Nat.gcd x y=g→Ends IT (L1 (x:Int) (y:Int)) Q
 |0,x,y,h,_=>by omega
 |f+1,x,y,hy,hg=>by
  refine zm (As ..) ?_;conv=>zeta
  by_cases h0:y=0
  ·subst h0;rw[Nat.gcd_zero_right]at hg;subst hg;exact zk rfl (ze (hq _))
  ·have e:Int.tmod (x:Int) (y:Int)=((x % y:Nat):Int):=by rw[zW (yw x)];rfl
   rw[e];have hlt:x % y<y:=Nat.mod_lt _ (by omega);exact zc (by simp;omega) (zc (by simp;omega) (Aj g hq f y (x % y) (by omega) (by rw[Nat.gcd_comm, ←Nat.gcd_rec,Nat.gcd_comm];exact hg)))
theorem ok:Ae AT 108 oE:=by
 refine Av (X:=IT) rfl EP (d:=9) (by kernel_rfl) (by kernel_rfl) (by kernel_rfl) (fun(i:Int×Int) hi=>?_) (Ad (by kernel_rfl));obtain⟨a,b⟩:=i;have hi:(decide (0≤a)&&decide (a<9223372036854775808)&&decide (0≤b)&&decide (b<9223372036854775808))=true:=hi;rw[zg,zg,zg,decide_eq_true_eq,decide_eq_true_eq,decide_eq_true_eq,decide_eq_true_eq]at hi;obtain⟨⟨⟨a0,_⟩,b0⟩,_⟩:=hi;obtain⟨x,rfl⟩:=zQ a0;obtain⟨y,rfl⟩:=zQ b0;refine zp (Am x y) (Aj (Nat.gcd x y) (fun ob=>zx rfl rfl ?_) (y+1) x y (Nat.lt_succ_self _) rfl);show((Nat.gcd x y:Nat):Int)=Sp.gI (x:Int) (y:Int);rw[E3];rfl
end T108
namespace T41
theorem ok:Ae AT 41 Nl:=by
 refine Av (X:=IT) rfl EP (d:=9) (by kernel_rfl) (by kernel_rfl) (by kernel_rfl) (fun(s:List UInt8) hl=>?_) (Ad (by kernel_rfl));have hq:∀v ob,v=Fp s→Af Nl s (.dat i64 v) ob:=fun v ob hb=>zx rfl rfl hb
 refine zp (Am s) (zh (fun c=>ze (hq _ _ ?_)) (fun c=>?_))
 ·have c:s=[48]:=by simpa using c
  unfold Fp;rw[if_pos c]
 ·have c:¬s=[48]:=by simpa using c
  cases s with
  |nil=>exact zk rfl (ze (hq _ _ rfl))
  |cons x r=>
   have g0:(x::r).getD 0 0=x:=rfl;rw[g0];refine zc (by simp) (zc (by simp) (zh (fun d=>ze (hq _ _ ?_)) (fun d=>ze (hq _ _ ?_))))
   ·have hx:x=45:=by
     have:(x.toNat:Int)=45:=by simpa using d
     exact qi.1 (by show _=45;omega)
    unfold Fp;rw[if_neg c,g0,if_pos hx]
   ·have hx:x≠45:=by rintro rfl;exact absurd d (by decide)
    unfold Fp;rw[if_neg c,g0,if_neg hx]
end T41
theorem kS:∀g sp,xZ.sp g=some sp→Ae AT g sp:=Aa T41.ok (fun g sp h=>by cases h)
theorem T99.ok:Ae AT 99 cK:=by
 refine Av (X:=xZ) rfl kS (d:=9) (by kernel_rfl) (by kernel_rfl) (by kernel_rfl) (fun(s:List UInt8) hl=>?_) (Ad (by kernel_rfl));have hl:s.length≤1000000:=of_decide_eq_true hl;have hq:∀v ob,v=Kb s→Af cK s (.dat .str v) ob:=fun v ob hb=>zx rfl rfl hb
 refine zp (T99.Am s) (zc (decide_eq_true hl) ?_);unfold Kb at hq;unfold Fp;by_cases c:s=[48]
 ·rw[if_pos c];rw[if_pos c]at hq;exact zk rfl (zc (decide_eq_true hl) (zc rfl (ze (hq _ _ rfl))))
 ·rw[if_neg c];rw[if_neg c]at hq;by_cases d:s.getD 0 0=45
  ·rw[if_pos d];rw[if_pos d]at hq;have hn:s≠[]:=by rintro rfl;exact absurd d (by decide)
   have hp:1≤s.length:=yv.2 hn;refine zc rfl (zc (by simp;omega) (ze (hq _ _ ?_)));exact zu (by rw[zL];exact zy _)
  ·rw[if_neg d];rw[if_neg d]at hq;exact zk rfl (zc (decide_eq_true hl) (zk rfl (zc (by simp;omega) (ze (hq _ _ rfl)))))
namespace T109
theorem XW:∀k:Fin 10,y8 (qy (k.1+1) k.1) (jg k.1 [(48:UInt8),49,50,51,52,53,54,55,56,57])=[yn (48+k.1)]:=by decide
theorem Aj{Q:PV→Ob→Prop}(l:Nat)(hl:l≤20):∀(f n:Nat) (acc:List UInt8),n<9223372036854775808→n<10^f→l≤acc.length+f→acc.length+f≤64→(∀ob,Q (.dat .str (GH (f+1) n l acc)) ob)→Ends IT (L1 (n:Int) (l:Int) acc) Q:=by
 intro f;induction f with
 |zero=>
  intro n acc hn hf hle h64 hq;have h0:n=0:=by rw[Nat.pow_zero]at hf;omega
  subst h0;unfold GH at hq;rw[if_pos ⟨rfl,by omega⟩]at hq;exact zm (As ..) (zk rfl (zk (by simp;omega) (ze (hq _))))
 |succ f ih=>
  intro n acc hn hf hle h64 hq;have e1:Int.tmod (n:Int) 10=((n % 10:Nat):Int):=by rw[zW (yw n)];rfl
  have e2:zj .i64 (((n % 10:Nat):Int)+1)=((n % 10+1:Nat):Int):=by rw[wr _ (by omega) (by omega)];omega
  have e3:zj .i64 (qz (n:Int) 10)=((n/10:Nat):Int):=by rw[zX (yw n),wr _ (by omega) (by omega)];rfl
  have hd:=XW ⟨n % 10,Nat.mod_lt _ (by decide)⟩;have hd:y8 (qy (n % 10+1) (n % 10)) (jg (n % 10) [(48:UInt8),49,50,51,52,53,54,55,56,57])=[yn (48+n % 10)]:=hd;have hm:n % 10<10:=Nat.mod_lt _ (by decide);rw[Nat.pow_succ]at hf;refine zm (As ..) ?_;conv=>zeta
  rw[e1,e2,e3,zn,zn,hd];by_cases hz:n=0∧l≤acc.length
  ·obtain⟨z1,z2⟩:=hz;subst z1;unfold GH at hq;rw[if_pos ⟨rfl,z2⟩]at hq;exact zk rfl (zk (by simp;omega) (ze (hq _)))
  ·have hq2:∀ob,Q (.dat .str (GH (f+1) (n/10) l (yn (48+n % 10)::acc))) ob:=by
    intro ob;have:=hq ob;unfold GH at this;rw[if_neg hz]at this;exact this
   have go:Ends IT (L1 ((n/10:Nat):Int) (l:Int) ([yn (48+n % 10)]++acc)) Q:=ih (n/10) (yn (48+n % 10)::acc) (by omega) (by omega) (by rw[zr];omega) (by rw[zr];omega) hq2;refine zh (fun _=>?_) (fun c=>zc ?_ ?_)
   ·exact zc rfl (zc rfl (zc (by simp;omega) (zc (by simp;omega) (zc rfl go))))
   ·have c:=of_decide_eq_false c;exact decide_eq_true (by omega)
   ·exact zc rfl (zc rfl (zc (by simp;omega) (zc (by simp;omega) (zc rfl go))))
theorem ok:Ae AT 109 Oc:=by
 refine Av (X:=IT) rfl EP (d:=9) (by kernel_rfl) (by kernel_rfl) (by kernel_rfl) (fun(i:Int×Int) hi=>?_) (Ad (by kernel_rfl));obtain⟨a,b⟩:=i;have hi:(decide (0≤a)&&decide (a<9223372036854775808)&&decide (0≤b)&&decide (b≤20))=true:=hi;rw[zg,zg,zg,decide_eq_true_eq,decide_eq_true_eq,decide_eq_true_eq,decide_eq_true_eq]at hi;obtain⟨⟨⟨a0,a1⟩,b0⟩,b1⟩:=hi;obtain⟨x,rfl⟩:=zQ a0;obtain⟨y,rfl⟩:=zQ b0;refine zp (Am x y) (Aj y (by omega) 63 x [] (by omega) (by omega) (by show y≤0+63;omega) (by decide) (fun ob=>zx rfl rfl ?_));show GH 64 x y []=GH 64 (x:Int).toNat (y:Int).toNat [];rw[zn,zn]
end T109
theorem lH:∀g sp,Ms.sp g=some sp→Ae AT g sp:=Aa T165.ok (Aa T89.ok (fun g sp h=>by cases h))
namespace T95
variable {Q:PV→Ob→Prop}
theorem Cd(neg:Bool)(n d:Int)(h0:0≤n)(h1:n<1000000000)(hq:∀ob,Q (.tup [.dat i64 (if neg=true then -n else n),.dat i64 d,.bl true]) ob):Ends Ms (L7 neg n d) Q:=by
 refine zm (FT ..) ?_;conv=>zeta
 cases neg with
 |true=>
  refine zc rfl (ze ?_);rw[wr _ (by omega) (by omega),q9];exact hq _
 |false=>exact zk rfl (ze (hq _))
theorem Co(s:List UInt8)(neg:Bool)(n:Int)(h0:0≤n)(h1:n<1000000000)(hl:s.length≤20)(lb:(zV s).length≤9)(db:Al (zV s)=true)(hq:∀ob,Q (.tup [.dat i64 (if neg=true then -n else n),.dat i64 (if Bk s=true then Az 0 (zV s)else 1),.bl true]) ob):Ends Ms (L5 s neg (AV s) n 1) Q:=by
 obtain⟨c1,c2,c3⟩:=BC s;refine zm (Gr ..) ?_;conv=>zeta
 have es:AV s=((Ax s).length:Int):=rfl;have hle:=(T77.CP s).1;cases hc:Bk s with
 |true=>
  rw[hc]at hq;obtain⟨k1,k2⟩:=c2 hc;have e3:zj .i64 (AV s+1)=(((Ax s).length+1:Nat):Int):=by rw[es,wr _ (by omega) (by omega)];omega
  have hl2:(zV s).length=s.length-((Ax s).length+1):=by rw[k2,zL]
  have et:(zV s).take (qy s.length ((Ax s).length+1))=zV s:=zu (by show _≤s.length-_;omega);rw[e3,zn, ←k2,et];exact zc (by simp[es];omega) (zc (by simp;omega) (zc (T163.BS db (by omega)) (Cd neg n _ h0 h1 hq)))
 |false=>
  obtain⟨k1,k2⟩:=c3 hc;rw[hc]at hq;exact zk (by simp[es,k1]) (Cd neg n 1 h0 h1 hq)
theorem CQ(s:List UInt8)(neg:Bool)(hl:s.length≤20)(la:(Ax s).length≤9)(lb:(zV s).length≤9)(da:Al (Ax s)=true)(db:Al (zV s)=true)(hq:∀n ob,n=Az 0 (Ax s)→Q (.tup [.dat i64 (if neg=true then -n else n),.dat i64 (if Bk s=true then Az 0 (zV s)else 1),.bl true]) ob):Ends Ms (L3 s neg ) Q:=by
 obtain⟨c1,c2,c3⟩:=BC s;have es:AV s=((Ax s).length:Int):=rfl;have hle:=(T77.CP s).1;have hlen:s.length-(Ax s).length≤10:=by
  cases hc:Bk s with
  |true=>
   obtain⟨k1,k2⟩:=c2 hc;have:(zV s).length=s.length-((Ax s).length+1):=by rw[k2,zL]
   omega
  |false=>rw[(c3 hc).1];omega
 have et:y8 (qq (AV s)) s=Ax s:=by rw[es,zn];exact c1.symm
 obtain⟨v0,v1⟩:=T163.Ck da la;refine zm (C9 ..) ?_;conv=>zeta
 rw[et];refine zc (by simp;omega) (zk (by simp[es];omega) (zk ?_ (zc (by simp[es];omega) (zc (T163.BS da (by omega)) ?_))))
 ·rw[es,wr _ (by omega) (by omega)];exact decide_eq_false (by omega)
 ·exact Co s neg (Az 0 (Ax s)) v0 v1 hl lb db (fun ob=>hq _ ob rfl)
theorem EN(n d:Int)(hq:∀ob,Q (.tup [.dat i64 n,.dat i64 d,.bl true]) ob):Ends Ms (L8 n d) Q:=by
 refine zm (I5 ..) ?_;conv=>zeta
 exact ze (hq _)
theorem Em(s:List UInt8)(n:Int)(hl:s.length≤20)(lb:(zV s).length≤9)(db:Al (zV s)=true)(hq:∀ob,Q (.tup [.dat i64 n,.dat i64 (if Bk s=true then Az 0 (zV s)else 1),.bl true]) ob):Ends Ms (L6 s (AV s) n 1) Q:=by
 obtain⟨c1,c2,c3⟩:=BC s;refine zm (Hg ..) ?_;conv=>zeta
 have es:AV s=((Ax s).length:Int):=rfl;have hle:=(T77.CP s).1;cases hc:Bk s with
 |true=>
  rw[hc]at hq;obtain⟨k1,k2⟩:=c2 hc;have e3:zj .i64 (AV s+1)=(((Ax s).length+1:Nat):Int):=by rw[es,wr _ (by omega) (by omega)];omega
  have hl2:(zV s).length=s.length-((Ax s).length+1):=by rw[k2,zL]
  have et:(zV s).take (qy s.length ((Ax s).length+1))=zV s:=zu (by show _≤s.length-_;omega);rw[e3,zn, ←k2,et];exact zc (by simp[es];omega) (zc (by simp;omega) (zc (T163.BS db (by omega)) (EN n _ hq)))
 |false=>
  obtain⟨k1,k2⟩:=c3 hc;rw[hc]at hq;exact zk (by simp[es,k1]) (EN n 1 hq)
theorem BP(s:List UInt8)(hl:s.length≤20)(la:(Ax s).length≤9)(lb:(zV s).length≤9)(da:Al (Ax s)=true)(db:Al (zV s)=true)(hq:∀n ob,n=Az 0 (Ax s)→Q (.tup [.dat i64 n,.dat i64 (if Bk s=true then Az 0 (zV s)else 1),.bl true]) ob):Ends Ms (L4 s ) Q:=by
 obtain⟨c1,c2,c3⟩:=BC s;have es:AV s=((Ax s).length:Int):=rfl;have hle:=(T77.CP s).1;have hlen:s.length-(Ax s).length≤10:=by
  cases hc:Bk s with
  |true=>
   obtain⟨k1,k2⟩:=c2 hc;have:(zV s).length=s.length-((Ax s).length+1):=by rw[k2,zL]
   omega
  |false=>rw[(c3 hc).1];omega
 have et:y8 (qq (AV s)) s=Ax s:=by rw[es,zn];exact c1.symm
 obtain⟨v0,v1⟩:=T163.Ck da la;refine zm (Dp ..) ?_;conv=>zeta
 rw[et];refine zc (by simp;omega) (zk (by simp[es];omega) (zk ?_ (zc (by simp[es];omega) (zc (T163.BS da (by omega)) ?_))))
 ·rw[es,wr _ (by omega) (by omega)];exact decide_eq_false (by omega)
 ·exact Em s (Az 0 (Ax s)) hl lb db (fun ob=>hq _ ob rfl)
end T95
end Go.Pe
end
section
namespace Go.Sp
theorem Gx(a:List Int)(i:Nat):val B9 (a.drop i)=a.getD i 0+1000000000*val B9 (a.drop (i+1)):=by
 by_cases h:i<a.length
 ·rw[B5 h];rfl
 ·rw[zO (by omega),zO (by omega),show a.getD i 0=0 by rw[zP,zz (by omega)];rfl];rfl
structure Fe(a b:List Int)(i:Nat)(o:List Int)(c:Int):Prop where
 len:o.length=i
 d:Au B9 o
 c01:0≤c∧c≤1
 v:val B9 o+(B9:Int)^i*(c+val B9 (a.drop i)+val B9 (b.drop i))=Aq a+Aq b
 top:a.length≤i→b.length≤i→i=0∨(B9:Int)^(i-1)≤val B9 o+(B9:Int)^i*c
theorem Fe.start(a b:List Int):Fe a b 0 [] 0:=⟨rfl,(fun x hx=>by cases hx),by decide,by
 show 0+(B9:Int)^0*(0+val B9 a+val B9 b)=val B9 a+val B9 b;rw[Int.pow_zero,yo];omega,fun _ _=>.inl rfl⟩
theorem Bt{a:List Int}(h:A4 a=true)(i:Nat):0≤a.getD i 0∧a.getD i 0<1000000000:=F4 (Bh h).2.1 i
theorem QG{a:List Int}(h:A4 a=true){i:Nat}(h1:i<a.length)(h2:a.length≤i+1):1≤a.getD i 0:=by
 have:=(Go.Pe.FA (Bh h).2.1 (Bh h).2.2 (k:=i) (by omega)).1;omega
theorem Fe.step{a b:List Int}{i:Nat}{o:List Int}{c:Int}(h:Fe a b i o c)(ha:A4 a=true)(hb:A4 b=true)(hc:i<a.length∨i<b.length∨0<c):
  Fe a b (i+1) (o++[(a.getD i 0+b.getD i 0+c) % 1000000000]) ((a.getD i 0+b.getD i 0+c)/1000000000):=by
 obtain⟨x0,x1⟩:=Bt ha i;obtain⟨y0,y1⟩:=Bt hb i;obtain⟨c0,c1⟩:=h.c01;have hv:=h.v;rw[Gx a i,Gx b i]at hv;have hs:1≤a.getD i 0+b.getD i 0+c∨¬(a.length≤i+1∧b.length≤i+1):=by
  by_cases k:a.length≤i+1∧b.length≤i+1
  ·refine .inl ?_;rcases hc with hc|hc|hc
   ·have:=QG ha hc k.1;omega
   ·have:=QG hb hc k.2;omega
   ·omega
  ·exact .inr k
 have ho:=Ay (b:=B9) (by decide) h.d;have hP:=AM (b:=B9) (by decide) i;generalize a.getD i 0=x at*;generalize b.getD i 0=y at*;have hval:val B9 (o++[(x+y+c) % 1000000000])=val B9 o+(B9:Int)^i*((x+y+c) % 1000000000):=by rw[B2,h.len]
 refine⟨by rw[zq,h.len];rfl,EM h.d (by omega),by omega,?_,fun k1 k2=>.inr ?_⟩
 ·rw[hval,I2,qt, ←qm, ←hv];congr 2;omega
 ·rw[hval,I2,qt, ←qm,Nat.add_sub_cancel];have e:(x+y+c) % 1000000000+1000000000*((x+y+c)/1000000000)=x+y+c:=by omega
  rw[e];rcases hs with hs|hs
  ·have:=zS hs (yb hP);rw[Int.mul_one]at this;omega
  ·exact absurd ⟨k1,k2⟩ hs
theorem tZ{o:List Int}(hd:Au B9 o)(h:o=[]∨(B9:Int)^(o.length-1)≤val B9 o):nz o:=by
 rcases h with rfl|h
 ·unfold nz;simp
 ·intro e;have hn:o≠[]:=by rintro rfl;simp at e
  have e2:o=o.dropLast++[0]:=by
   have h1:=(List.dropLast_concat_getLast hn).symm;rw[List.getLast?_eq_some_getLast hn]at e;rw[Option.some.inj e]at h1;exact h1
  have hl:o.length=o.dropLast.length+1:=by rw[List.length_dropLast];have:=yv.2 hn;omega
  have hv:val B9 o=val B9 o.dropLast:=by
   conv=>lhs;rw[e2]
   rw[B2,qd,qe]
  have hd2:Au B9 o.dropLast:=fun x hx=>hd x (by rw[e2];exact yp _ hx)
  have:=Bn (b:=B9) (by decide) hd2;rw[hv,hl,Nat.add_sub_cancel]at h;omega
theorem Fe.fin{a b:List Int}{i:Nat}{o:List Int}(h:Fe a b i o 0)(h1:a.length≤i)(h2:b.length≤i):o=LG a b:=by
 have hv:=h.v;rw[zO h1,zO h2]at hv;have hv:val B9 o+(B9:Int)^i*(0+0+0)=Aq a+Aq b:=hv;rw[show(0+0+0:Int)=0 from rfl,qd,qe]at hv;have ht:=h.top h1 h2;rw[qd,qe, ←h.len]at ht;have hn:nz o:=tZ h.d (by
  rcases ht with k|k
  ·exact .inl (zN.1 k)
  ·exact .inr k)
 unfold LG;rw[←hv];exact HN (b:=B9) (by decide) h.d hn
structure F7(a b:List Int)(i:Nat)(o:List Int)(c:Int):Prop where
 len:o.length=i
 d:Au B9 o
 c01:0≤c∧c≤1
 v:val B9 o+(B9:Int)^i*(val B9 (a.drop i)-val B9 (b.drop i)-c)=Aq a-Aq b
theorem F7.start(a b:List Int):F7 a b 0 [] 0:=⟨rfl,(fun x hx=>by cases hx),by decide,by
 show 0+(B9:Int)^0*(val B9 a-val B9 b-0)=val B9 a-val B9 b;rw[Int.pow_zero,yo];omega⟩
theorem F7.step{a b:List Int}{i:Nat}{o:List Int}{c:Int}(h:F7 a b i o c)(ha:A4 a=true)(hb:A4 b=true)(d c':Int)(hd:(a.getD i 0-b.getD i 0-c<0∧d=a.getD i 0-b.getD i 0-c+1000000000∧c'=1)∨(¬a.getD i 0-b.getD i 0-c<0∧d=a.getD i 0-b.getD i 0-c∧c'=0)):
  F7 a b (i+1) (o++[d]) c':=by
 obtain⟨x0,x1⟩:=Bt ha i;obtain⟨y0,y1⟩:=Bt hb i;obtain⟨c0,c1⟩:=h.c01;have hv:=h.v;rw[Gx a i,Gx b i]at hv;generalize a.getD i 0=x at*;generalize b.getD i 0=y at*;refine⟨by rw[zq,h.len];rfl,EM h.d (by omega),by omega,?_⟩;rw[B2,h.len,I2,qt, ←qm, ←hv];congr 2;omega
theorem F7.fin{a b:List Int}{o:List Int}{c:Int}(h:F7 a b a.length o c)(hb:A4 b=true)(hle:Aq b≤Aq a):Ar o=F5 a b:=by
 have hv:=h.v;rw[List.drop_length]at hv;have h0:=Ay (b:=B9) (by decide) (Ef (Bh hb).2.1 a.length);have hlt:=Bn (b:=B9) (by decide) h.d;rw[h.len]at hlt;obtain⟨c0,c1⟩:=h.c01;have hP:=AM (b:=B9) (by decide) a.length;have hv:val B9 o+(B9:Int)^a.length*(0-val B9 (b.drop a.length)-c)=Aq a-Aq b:=hv;generalize val B9 (b.drop a.length)=z at*;have hz:0-z-c=0:=by
  rcases qf (0-z-c) 0 with k|k
  ·have:=zS (show 0-z-c≤ -1 by omega) (yb hP);rw[Int.mul_neg,Int.mul_one]at this;omega
  ·omega
 rw[hz,qd,qe]at hv;unfold F5;rw[E6 h.d, ←hv];rfl
end Go.Sp
end
section
namespace Go.Sp
open Go.Lib
theorem Vo(n:Int):rN n=decide (n<0):=rfl
theorem Mf(a:Bool×List Int):(a.1=true→vR a= -Aq a.2)∧(a.1=false→vR a=Aq a.2):=by
 unfold vR;exact⟨fun h=>by rw[if_pos h],fun h=>by rw[if_neg (by rw[h];decide)]⟩
theorem Od{neg:Bool}{w:List Int}{n:Int}(hd:Au B9 w)(h0:0≤Aq w)(h1:neg=true→n= -Aq w)(h2:neg=false→n=Aq w):(B4 neg w,Ar w)=(rN n,rW n):=by
 refine Z6 hd ?_ (fun hn=>?_)
 ·rw[Ai];cases neg with
  |true=>have:=h1 rfl;omega
  |false=>have:=h2 rfl;omega
 ·rw[Vo];cases neg with
  |true=>have:=h1 rfl;symm;rw[decide_eq_true_eq];omega
  |false=>have:=h2 rfl;symm;rw[decide_eq_false_iff_not];omega
theorem Ii{n:Int}(h:0≤n):Aq (BL n)=n∧Au B9 (BL n):=⟨CH (b:=B9) (by decide) h,ET (b:=B9) (by decide) n⟩
theorem Ys{a b:Bool×List Int}(ha:CB a=true)(hb:CB b=true)(h:a.1=b.1):(B4 a.1 (LG a.2 b.2),Ar (LG a.2 b.2))=(LR a b,L0 a b):=by
 have a0:=(F6 ha).2;have b0:=(F6 hb).2;obtain⟨e1,e2⟩:=Mf a;obtain⟨f1,f2⟩:=Mf b;obtain⟨hv,hd⟩:=Ii (n:=Aq a.2+Aq b.2) (by omega);refine Od hd (by show 0≤Aq (BL _);omega) (fun k=>?_) (fun k=>?_)
 ·rw[e1 k,f1 (by rw[←h];exact k)];show _= -Aq (BL _);omega
 ·rw[e2 k,f2 (by rw[←h];exact k)];show _=Aq (BL _);omega
theorem Xd{a b:Bool×List Int}(hb:CB b=true)(h:a.1≠b.1)(hl:Aq b.2≤Aq a.2):(B4 a.1 (F5 a.2 b.2),Ar (F5 a.2 b.2))=(LR a b,L0 a b):=by
 have b0:=(F6 hb).2;obtain⟨e1,e2⟩:=Mf a;obtain⟨f1,f2⟩:=Mf b;obtain⟨hv,hd⟩:=Ii (n:=Aq a.2-Aq b.2) (by omega);refine Od hd (by show 0≤Aq (BL _);omega) (fun k=>?_) (fun k=>?_)
 ·rw[e1 k,f2 (by rw[k]at h;cases hb:b.1 with|true=>exact absurd hb.symm h|false=>rfl)];show _= -Aq (BL _);omega
 ·rw[e2 k,f1 (by rw[k]at h;cases hb:b.1 with|true=>rfl|false=>exact absurd hb.symm h)];show _=Aq (BL _);omega
theorem lS{a b:Bool×List Int}(ha:CB a=true)(h:a.1≠b.1)(hl:Aq a.2≤Aq b.2):(B4 b.1 (F5 b.2 a.2),Ar (F5 b.2 a.2))=(LR a b,L0 a b):=by
 have:=Xd ha (fun k=>h k.symm) hl;rw[this];unfold LR L0;rw[Int.add_comm]
theorem cM{a b:Bool×List Int}(ha:CB a=true)(hb:CB b=true):(B4 (a.1 !=b.1) (BL (Aq a.2*Aq b.2)),Ar (BL (Aq a.2*Aq b.2)))=(G3 a b,GD a b):=by
 have a0:=(F6 ha).2;have b0:=(F6 hb).2;obtain⟨e1,e2⟩:=Mf a;obtain⟨f1,f2⟩:=Mf b;have p0:=yc a0 b0;obtain⟨hv,hd⟩:=Ii p0;refine Od hd (by omega) (fun k=>?_) (fun k=>?_)
 ·rw[hv];cases h1:a.1<;>cases h2:b.1<;>rw[h1,h2]at k
  ·exact absurd k (by decide)
  ·rw[e2 h1,f1 h2,Int.mul_neg]
  ·rw[e1 h1,f2 h2,Int.neg_mul]
  ·exact absurd k (by decide)
 ·rw[hv];cases h1:a.1<;>cases h2:b.1<;>rw[h1,h2]at k
  ·rw[e2 h1,f2 h2]
  ·exact absurd k (by decide)
  ·exact absurd k (by decide)
  ·rw[e1 h1,f1 h2,Int.neg_mul,Int.mul_neg,Int.neg_neg]
theorem ZO{a:Bool×List Int}(ha:CB a=true):(B4 (!a.1) a.2,Ar a.2)=(Sd a,RQ a):=by
 have a0:=(F6 ha).2;obtain⟨e1,e2⟩:=Mf a;refine Od (Bh (De ha).1).2.1 a0 (fun k=>?_) (fun k=>?_)
 ·rw[e2 (by simpa using k)]
 ·rw[e1 (by simpa using k),Int.neg_neg]
theorem gS{w:List Int}{i:Nat}(hl:w.length=i+1):val B9 (w.drop i)=w.getD i 0:=by
 rw[Gx,zO (by omega)];show _+1000000000*0=_;omega
theorem V3{w:List Int}(hw:A4 w=true){i:Nat}(hl:w.length=i+1):Hn (w.getD i 0) 1=decDigits (val B9 (w.drop i)).toNat∧0<val B9 (w.drop i):=by
 have g:=Bt hw i;have t:=QG hw (i:=i) (by omega) (by omega);rw[gS hl];exact⟨NQ g.1 (by omega),by omega⟩
theorem Yw{w:List Int}(hw:A4 w=true)(i:Nat)(h0:0<val B9 (w.drop (i+1))):decDigits (val B9 (w.drop (i+1))).toNat++Hn (w.getD i 0) 9=decDigits (val B9 (w.drop i)).toNat∧0<val B9 (w.drop i):=by
 have g:=Bt hw i;rw[Gx w i,YD g.1 g.2];generalize val B9 (w.drop (i+1))=V at*;generalize w.getD i 0=x at*;have h:=RY 9 V.toNat x.toNat (by decide) (by omega) (by omega);refine⟨?_,by omega⟩;rw[←h];congr 1;omega
theorem dV{a:Bool×List Int}(ha:CB a=true)(hne:a.2≠[]):(if a.1=true then 45::decDigits (Aq a.2).toNat else decDigits (Aq a.2).toNat)=Ja a:=by
 obtain⟨e1,e2⟩:=Mf a;have h0:0<Aq a.2:=IA (b:=B9) (by decide) (Bh (De ha).1).2.1 (Bh (De ha).1).2.2 hne;unfold Ja AX itoa;by_cases h:a.1=true
 ·rw[if_pos h,e1 h,if_pos (by omega),show(-Aq a.2).natAbs=(Aq a.2).toNat by omega]
 ·have h:a.1=false:=by simpa using h
  rw[if_neg (by rw[h];decide),e2 h,if_neg (by omega)]
theorem cL{a:Bool×List Int}(h:a.2=[]):[48]=Ja a:=by
 have:vR a=0:=by
  unfold vR;rw[h];split<;>rfl
 unfold Ja AX itoa;rw[this,if_neg (by decide),show(0:Int).toNat=0 from rfl,decDigits_one (by decide)];rfl
theorem GK{N D:Int}(hD:0<D):0<gI (Ag N) D∧Ag N/gI (Ag N) D=Ag (zl N D).num∧D/gI (Ag N) D=((zl N D).den:Int)∧(N<0↔(zl N D).num<0):=by
 have hs:D.sign=1:=qg hD;have e1:(zl N D).num=N/(yj N D:Int):=by rw[Rat.num_divInt,hs,yo,jc]
 have e2:((zl N D).den:Int)=D/(yj N D:Int):=by
  rw[Rat.den_divInt,if_neg (Int.ne_of_gt hD),jc,Int.natCast_ediv];rw[yq (yb hD)]
 have eg:gI (Ag N) D=(yj N D:Int):=by rw[E3,Ai];rfl
 have hg:0<yj N D:=Int.gcd_pos_of_ne_zero_right _ (by omega);obtain⟨k,hk⟩:(yj N D:Int)∣N:=Int.gcd_dvd_left ..;rw[eg,e1,e2];have hg:(0:Int)<(yj N D:Int):=by omega
 generalize (yj N D:Int)=g at*;have h1:N/g=k:=by rw[hk,yz _ (by omega)]
 have h2:Ag N/g=Ag k:=by
  rw[Ai,Ai,hk,yx,qj,show((g.natAbs:Nat):Int)=g by omega,yz _ (by omega)]
 refine⟨hg,by rw[h1,h2],rfl,?_⟩;rw[h1];constructor
 ·intro h;rcases qf k 0 with x|x
  ·exact x
  ·have:=yc (yb hg) x;omega
 ·intro h;have:=Int.mul_neg_of_pos_of_neg hg h;omega
theorem dU{N D:Int}(hD:0<D){neg:Bool}(hn:neg=rN N):(B4 neg (BL (Ag N/gI (Ag N) D)),Ar (BL (Ag N/gI (Ag N) D)))=(rN (zl N D).num,rW (zl N D).num):=by
 obtain⟨_,h1,_,h3⟩:=GK (N:=N) hD;rw[h1];have a0:=MN (zl N D).num;obtain⟨hv,hd⟩:=Ii a0;refine Z6 hd hv (fun _=>?_);rw[hn,Vo,Vo,decide_eq_decide];exact h3
theorem gV{n:Int}(h0:0≤n):BL n=[1]↔n=1:=by
 constructor
 ·intro h;have:=(Ii h0).1;rw[h]at this;exact this.symm
 ·rintro rfl;rfl
theorem PN{N D:Int}:Cm N D=if (zl N D).den=1 then AX (zl N D).num else AX (zl N D).num++47::AX ((zl N D).den:Int):=by
 unfold Cm A0;split
 ·rfl
 ·rw[show AX ((zl N D).den:Int)=decDigits (zl N D).den from Lib.itoa_nonneg _];rfl
theorem Ub(N D:Int):Cm (-N) (-D)=Cm N D:=by
 unfold Cm;rw[Rat.neg_divInt_neg]
theorem Of{s:List UInt8}(h:Bw s=true):A8 s=HF s∧AF s=QM s∧Al (Ax (AY s))=true∧Al (AL (AY s))=true:=by
 obtain⟨t,_⟩:=GN h;obtain⟨c1,c2,c3⟩:=Ez (AW s);obtain⟨p1,p2,p3,p4⟩:=QN s;obtain⟨i1,i2,i3,i4⟩:=CY (AW s).num;rw[t]at c1 c2 c3;have hB:Al (AL s)=true:=by
  rw[c2];split
  ·rfl
  ·exact Dx _
 refine⟨?_,?_,?_,?_⟩
 ·unfold A8 HF B7;rw[p1, ←p4];unfold AY preB;by_cases hc:(Ax s).getD 0 0=45
  ·rw[if_pos hc,if_pos hc,if_pos (decide_eq_true hc)]
  ·rw[if_neg hc,if_neg hc,if_neg (by rw[decide_eq_false hc];decide)]
 ·unfold AF QM B7;rw[p2,p3,if_neg (EW hB)]
 ·rw[p1,c1,i2];exact Dx _
 ·rw[p2];exact hB
theorem FH{s:List UInt8}(h:Bw s=true)(hq:DF s=true):Z1 s=A8 s∧Uk s=AF s∧ -1000000000<A8 s∧A8 s<1000000000∧0<AF s∧AF s<1000000000:=by
 obtain⟨h1,h2,h3,h4⟩:=Of h;have hd:0<AF s:=by
  have:=(C2 h).2.2.2.2.2.1;have:=(AW s).den_pos;omega
 unfold Z1 Uk;rw[if_pos hq,if_pos hq];unfold DF at hq;rw[zg,zg,decide_eq_true_eq,decide_eq_true_eq,decide_eq_true_eq]at hq;obtain⟨⟨_,l1⟩,l2⟩:=hq;have b1:=Bb h3;have b2:=Bb h4;have m1:(10:Int)^(Ax (AY s)).length≤10^9:=AI (by decide) l1;have m2:(10:Int)^(AL (AY s)).length≤10^9:=AI (by decide) l2;refine⟨h1.symm,h2.symm,?_,?_,hd,?_⟩
 ·rw[h1];unfold HF;split<;>omega
 ·rw[h1];unfold HF;split<;>omega
 ·rw[h2];unfold QM;split<;>omega
theorem Yq{a b:List UInt8}(ha:Bw a=true)(hb:Bw b=true):JA a b=Cm (A8 a*AF b+AF a*A8 b) (AF a*AF b)∧JA a b=Cm (A8 a*AF b+A8 b*AF a) (AF a*AF b):=by
 have d1:AF a≠0:=by
  have:=(C2 ha).2.2.2.2.2.1;have:=(AW a).den_pos;omega
 have d2:AF b≠0:=by
  have:=(C2 hb).2.2.2.2.2.1;have:=(AW b).den_pos;omega
 have e:JA a b=Cm (A8 a*AF b+A8 b*AF a) (AF a*AF b):=by
  unfold JA Cm AW;rw[Rat.divInt_add_divInt _ _ d1 d2]
 exact⟨by rw[e,Int.mul_comm (AF a) (A8 b)],e⟩
theorem XO{a b:List UInt8}:Et a b=Cm (A8 a*A8 b) (AF a*AF b):=by
 unfold Et Cm AW;rw[Rat.divInt_mul_divInt]
theorem Yb{a:List UInt8}:Pw a=Cm (AF a) (A8 a):=by
 unfold Pw Cm AW;rw[Rat.inv_divInt]
end Go.Sp
end
section
namespace Go.Sp
theorem Ul:∀(f n l:Nat) (acc:List UInt8),(GH f n l acc).length≤acc.length+f
 |0,_,_,acc=>zy _
 |f+1,n,l,acc=>by
  unfold GH;split
  ·omega
  ·have:=Ul f (n/10) l (yn (48+n % 10)::acc);rw[zr]at this;omega
theorem NK(n l:Int):(Hn n l).length≤64:=by
 have:=Ul 64 n.toNat l.toNat [];rw[List.length_nil,Nat.zero_add]at this;exact this
theorem TB{v:Int}{k:Nat}(h:v<(B9:Int)^k)(hk:1≤k):(zo v.toNat).length≤9*k:=by
 rw[UE]at h;have h4:((10^(9*k):Nat):Int)=(10:Int)^(9*k):=yt ..;rw[←h4]at h;refine Dy (k:=9*k) ?_ (by omega);have hp:0<10^(9*k):=Nat.pow_pos (by decide);generalize 10^(9*k)=P at*;omega
end Go.Sp
namespace Go.Pe
open Sp
open Go.Det
theorem pZ{s:Sh}(hs:s.sz=1){id n:Nat}{tail:Ob}{fz:Bool}{t:TypeId}{o:List s.T}(hn:n=o.length):Kh ⟨0,.leaf,(id,.arr fz t s o)::tail,0⟩ (.list s) (.sl id 1 0 n none)=some (true,o):=by
 subst hn;have h1:AN ((id,Obj.arr fz t s o)::tail) id=some (.arr fz t s o):=by unfold AN;rw[Nat.beq_refl];rfl
 unfold Kh;have h2:EZ ⟨0,.leaf,(id,.arr fz t s o)::tail,0⟩ (PV.cells (.sl id 1 0 o.length none))=some (true,[.dat (.list s) o]):=by
  show(match CO ⟨0,.leaf,(id,.arr fz t s o)::tail,0⟩ (.sl id 1 0 o.length none),some (true,[])with|some (c,x),some (d,xs)=>some (c&&d,x::xs)|_,_=>none)=_;have:CO ⟨0,.leaf,(id,.arr fz t s o)::tail,0⟩ (.sl id 1 0 o.length none)=some (true,.dat (.list s) o):=by
   unfold CO AJ.obj;simp only[h1,hs,Nat.beq_refl,cond_true];simp
  rw[this];rfl
 simp only[LC,Sh.Pu];show(match EZ ⟨0,.leaf,(id,.arr fz t s o)::tail,0⟩ (PV.cells (.sl id 1 0 o.length none))with|some (c,cs)=>_|none=>none)=_;rw[h2];have:Dv (.list s) [PV.dat (.list s) o]=some o:=by
  unfold Dv Ct oT D4;simp
 simp only[Uy,this,yk]
theorem kQ{s:Sh}(hs:s.sz=1){id n:Nat}{tail:Ob}{fz:Bool}{t:TypeId}{o:List s.T}(hn:n=o.length):Wc [.list s] (.sl id 1 0 n none) ((id,.arr fz t s o)::tail)=some (true,o):=pZ hs hn
theorem GV(a:List Int)(i:Nat):Hl a (i:Int)=a.getD i 0:=by unfold Hl;rw[zn]
theorem iF:∀g sp,wT.sp g=some sp→Ae AT g sp:=fun g sp h=>by cases h
theorem T229.ok:Ae AT 229 UF:=by
 refine Av (X:=wT) rfl iF (d:=9) (by kernel_rfl) (by kernel_rfl) (by kernel_rfl) (fun(i:List Int×Int) hi=>?_) (Ad (by kernel_rfl));obtain⟨a,i⟩:=i;have h0:0≤i:=of_decide_eq_true hi;have hq:∀v ob,v=Hl a i→Af UF (a,i) (.dat i64 v) ob:=fun v ob h=>zx rfl rfl h
 refine zp (T229.Am a i) (zh (fun c=>zc (Ac (decide_eq_true h0) c) (ze (hq _ _ rfl))) (fun c=>ze (hq _ _ ?_)));have c:=of_decide_eq_false c;unfold Hl;rw[zP,zz (by omega)];rfl
theorem WV:∀g sp,Sm.sp g=some sp→Ae AT g sp:=Aa T229.ok (Aa T227.ok (fun g sp h=>by cases h))
theorem Qj{x y c:Int}(hx:0≤x∧x<1000000000)(hy:0≤y∧y<1000000000)(hc:0≤c∧c≤1):
  zj .i64 (zj .i64 (x+y)+c)=x+y+c∧Int.tmod (x+y+c) 1000000000=(x+y+c) % 1000000000∧zj .i64 (qz (x+y+c) 1000000000)=(x+y+c)/1000000000:=by
 refine⟨?_,zW (by omega),?_⟩
 ·rw[wr (x+y) (by omega) (by omega)];exact wr _ (by omega) (by omega)
 ·rw[zX (by omega)];exact wr _ (by omega) (by omega)
theorem Z7{a b:List Int}(h:gN a b=true):A4 a=true∧A4 b=true∧a.length≤9000∧b.length≤9000:=by
 unfold gN at h;rw[zg,zg,zg,decide_eq_true_eq,decide_eq_true_eq]at h;exact⟨h.1.1.1,h.1.1.2,h.1.2,h.2⟩
theorem cS{a b:List Int}(h1:A4 a=true)(h2:A4 b=true)(h3:a.length≤9000)(h4:b.length≤9000):gN a b=true:=by
 unfold gN;rw[h1,h2,decide_eq_true h3,decide_eq_true h4];rfl
namespace T169
variable {Q:PV→Ob→Prop}
theorem done(a b o:List Int)(i:Nat)(ha:a.length≤i)(hb:b.length≤i)(hq:Q (.sl 0 1 0 o.length none) [(0,.arr false 3 (.int .i64) o)]):Ends Sm (L2 a b o.length 0 i o) Q:=
 zm (A3 ..) (zk (decide_eq_false (by omega)) (zk (decide_eq_false (by omega)) (zk (by decide) (ze hq))))
set_option maxRecDepth 10000 in
theorem AU(a b:List Int)(ha:A4 a=true)(hb:A4 b=true)(la:a.length≤9000)(lb:b.length≤9000)(hq:Q (.sl 0 1 0 (LG a b).length none) [(0,.arr false 3 (.int .i64) (LG a b))]):∀(k i:Nat) (o:List Int) (c:Int),i+k=max a.length b.length→Fe a b i o c→Ends Sm (L2 a b o.length c i o) Q:=by
 have stop:∀(i:Nat) (o:List Int),a.length≤i→b.length≤i→Fe a b i o 0→Ends Sm (L2 a b o.length 0 i o) Q:=fun i o h1 h2 h=>by
  have:=h.fin h1 h2;exact done a b o i h1 h2 (by rw[this];exact hq)
 have next:∀(i:Nat) (o:List Int) (c:Int),i≤9000→Fe a b i o c→(i<a.length∨i<b.length∨0<c→Ends Sm (L2 a b (o++[(a.getD i 0+b.getD i 0+c) % 1000000000]).length ((a.getD i 0+b.getD i 0+c)/1000000000) ((i+1:Nat):Int) (o++[(a.getD i 0+b.getD i 0+c) % 1000000000])) Q)→Ends Sm (L2 a b o.length c i o) Q:=fun i o c hi h go=>by
  obtain⟨s1,s2,s3⟩:=Qj (Bt ha i) (Bt hb i) h.c01;have e1:zj .i64 ((i:Int)+1)=((i+1:Nat):Int):=by rw[wr _ (by omega) (by omega)];omega
  have hl:=h.len;have cap:(decide ((1:Nat)≤(1:Nat))&&true&&decide (o.length=o.length)&&decide ((2*(o.length+1)+1000)*8≤281474976710656))=true:=by
   rw[decide_eq_true (zy 1),decide_eq_true (p:=o.length=o.length) rfl,Bool.and_true,yk];exact decide_eq_true (by omega)
  have h0:decide ((0:Int)≤(i:Int))=true:=decide_eq_true (by omega);rw[zq]at go;by_cases c1:(i:Int)<(a.length:Int)
  ·refine zm (A3 ..) ?_;conv=>zeta
   rw[GV,GV,s1,s2,s3,e1];exact zc (decide_eq_true c1) (zc h0 (zc h0 (zc rfl (zc cap (zc rfl (go (.inl (by omega))))))))
  ·by_cases c2:(i:Int)<(b.length:Int)
   ·refine zm (A3 ..) ?_;conv=>zeta
    rw[GV,GV,s1,s2,s3,e1];exact zk (decide_eq_false c1) (zc (decide_eq_true c2) (zc h0 (zc h0 (zc rfl (zc cap (zc rfl (go (.inr (.inl (by omega))))))))))
   ·by_cases c3:c>0
    ·refine zm (A3 ..) ?_;conv=>zeta
     rw[GV,GV,s1,s2,s3,e1];exact zk (decide_eq_false c1) (zk (decide_eq_false c2) (zc (decide_eq_true c3) (zc h0 (zc h0 (zc rfl (zc cap (zc rfl (go (.inr (.inr c3))))))))))
    ·obtain rfl:c=0:=by have:=h.c01;omega
     exact stop i o (by omega) (by omega) h
 intro k;induction k with
 |zero=>
  intro i o c hi h;refine next i o c (by omega) h (fun hc=>?_);have h2:=h.step ha hb hc;have z1:a.getD i 0=0:=by rw[zP,zz (by omega)];rfl
  have z2:b.getD i 0=0:=by rw[zP,zz (by omega)];rfl
  have hc0:=h.c01;have z3:(a.getD i 0+b.getD i 0+c)/1000000000=0:=by rw[z1,z2];omega
  rw[z3]at h2 ⊢;exact stop (i+1) _ (by omega) (by omega) h2
 |succ k ih=>
  intro i o c hi h;exact next i o c (by omega) h (fun hc=>ih (i+1) _ _ (by omega) (h.step ha hb hc))
set_option maxRecDepth 10000 in
theorem ok:Ae AT 169 VC:=by
 refine Av (X:=Sm) rfl WV (d:=9) (by kernel_rfl) (by kernel_rfl) (by kernel_rfl) (fun(i:List Int×List Int) hi=>?_) (Ad (by kernel_rfl));obtain⟨a,b⟩:=i;obtain⟨ha,hb,la,lb⟩:=Z7 hi;obtain⟨s1,s2,s3⟩:=Qj (Bt ha 0) (Bt hb 0) (c:=0) (by decide);have h0:=Fe.start a b;have e0:(0:Int)=((0:Nat):Int):=rfl;have go:(0<a.length∨0<b.length)→Ends Sm (L2 a b 1 ((a.getD 0 0+b.getD 0 0+0)/1000000000) ((1:Nat):Int) [(a.getD 0 0+b.getD 0 0+0) % 1000000000]) (Af VC (a,b)):=fun hc=>
  AU a b ha hb la lb (zx (kQ rfl rfl) rfl rfl) (max a.length b.length-1) 1 _ _ (by omega) (h0.step ha hb (by rcases hc with h|h<;>omega))
 refine zp (Am a b) (zm (As ..) ?_);have d1:Hl a 0=a.getD 0 0:=rfl;have d2:Hl b 0=b.getD 0 0:=rfl;have e1:zj .i64 ((0:Int)+1)=((1:Nat):Int):=rfl;rw[d1,d2,s1,s2,s3,e1];refine zh (fun c=>?_) (fun c1=>zh (fun c=>?_) (fun c2=>zk rfl (ze (zx (y:=[]) rfl rfl ?_))))
 ·exact zc rfl (zc rfl (zc rfl (zc rfl (zc rfl (go (.inl (by have:=of_decide_eq_true c;omega)))))))
 ·exact zc rfl (zc rfl (zc rfl (zc rfl (zc rfl (go (.inr (by have:=of_decide_eq_true c;omega)))))))
 ·have c1:=of_decide_eq_false c1;have c2:=of_decide_eq_false c2;exact h0.fin (by omega) (by omega)
end T169
namespace T171
variable {Q:PV→Ob→Prop}
theorem Gt{x y c:Int}(hx:0≤x∧x<1000000000)(hy:0≤y∧y<1000000000)(hc:0≤c∧c≤1):
  zj .i64 (zj .i64 (x-y)-c)=x-y-c∧zj .i64 (x-y-c+1000000000)=x-y-c+1000000000:=by
 refine⟨?_,wr _ (by omega) (by omega)⟩;rw[wr (x-y) (by omega) (by omega)];exact wr _ (by omega) (by omega)
set_option maxRecDepth 10000 in
theorem AU(a b:List Int)(ha:A4 a=true)(hb:A4 b=true)(la:a.length≤9000)(hle:Aq b≤Aq a)(hq:∀ob,Q (.dat li (F5 a b)) ob):∀(k i:Nat) (o:List Int) (c:Int),i+k=a.length→F7 a b i o c→Ends Sm (L2 a b o.length c i o) Q
 |0,i,o,c,hi,h=>by
  have hi:i=a.length:=by omega
  subst hi;have hl:=h.len;refine zm (A3 ..) (zk (decide_eq_false (by omega)) ?_);rw[zu (zy _)];refine zc (Ac (Ac (decide_eq_true (by omega)) rfl) (decide_eq_true (by omega))) (ze ?_);rw[h.fin hb hle];exact hq _
 |k+1,i,o,c,hi,h=>by
  obtain⟨s1,s2⟩:=Gt (Bt ha i) (Bt hb i) h.c01;have e1:zj .i64 ((i:Int)+1)=((i+1:Nat):Int):=by rw[wr _ (by omega) (by omega)];omega
  have hl:=h.len;have cap:(decide ((1:Nat)≤(1:Nat))&&true&&decide (o.length=o.length)&&decide ((2*(o.length+1)+1000)*8≤281474976710656))=true:=by
   rw[decide_eq_true (zy 1),decide_eq_true (p:=o.length=o.length) rfl,Bool.and_true,yk];exact decide_eq_true (by omega)
  refine zm (A3 ..) ?_;conv=>zeta
  rw[GV,zn,s1,s2,e1];refine zc (decide_eq_true (by omega)) (zc (Ac (decide_eq_true (by omega)) (decide_eq_true (by omega))) (zc (decide_eq_true (by omega)) (zh (fun d=>zc cap ?_) (fun d=>zc cap ?_))))
  ·have:=AU a b ha hb la hle hq k (i+1) _ _ (by omega) (h.step ha hb _ 1 (.inl ⟨of_decide_eq_true d,rfl,rfl⟩));rw[zq]at this;exact this
  ·have:=AU a b ha hb la hle hq k (i+1) _ _ (by omega) (h.step ha hb _ 0 (.inr ⟨of_decide_eq_false d,rfl,rfl⟩));rw[zq]at this;exact this
set_option maxRecDepth 10000 in
theorem ok:Ae AT 171 UU:=by
 refine Av (X:=Sm) rfl WV (d:=9) (by kernel_rfl) (by kernel_rfl) (by kernel_rfl) (fun(i:List Int×List Int) hi=>?_) (Ad (by kernel_rfl));obtain⟨a,b⟩:=i;have hi:(gN a b&&decide (Aq b≤Aq a))=true:=hi;rw[zg,decide_eq_true_eq]at hi;obtain⟨hi,hle⟩:=hi;obtain⟨ha,hb,la,lb⟩:=Z7 hi;have h0:=F7.start a b;have hq:∀ob,Af UU (a,b) (.dat li (F5 a b)) ob:=fun ob=>zx rfl rfl rfl
 refine zp (Am a b) (zm (As ..) ?_);obtain⟨s1,s2⟩:=Gt (Bt ha 0) (Bt hb 0) (c:=0) (by decide);have d2:Hl b 0=b.getD 0 0:=rfl;have e1:zj .i64 ((0:Int)+1)=((1:Nat):Int):=rfl;rw[d2,show qq 0=0 from rfl,s1,s2,e1];refine zh (fun c=>?_) (fun c=>?_)
 ·have c1:=of_decide_eq_true c;refine zc (Ac rfl c) (zc rfl (zh (fun d=>zc rfl ?_) (fun d=>zc rfl ?_)))
  ·exact AU a b ha hb la hle hq (a.length-1) 1 _ _ (by omega) (h0.step ha hb _ 1 (.inl ⟨of_decide_eq_true d,rfl,rfl⟩))
  ·exact AU a b ha hb la hle hq (a.length-1) 1 _ _ (by omega) (h0.step ha hb _ 0 (.inr ⟨of_decide_eq_false d,rfl,rfl⟩))
 ·have c:=of_decide_eq_false c;have hz:a=[]:=zN.1 (by omega);subst hz;refine zc rfl (ze ?_);rw[F7.fin h0 hb hle];exact hq _
end T171
theorem QD:∀g sp,pJ.sp g=some sp→Ae AT g sp:=Aa T168.ok (Aa T169.ok (Aa T170.ok (Aa T171.ok (Aa T172.ok (Aa T164.ok (fun g sp h=>by cases h))))))
theorem KI{n:Int}{k:Nat}(h0:0≤n)(h:n<(yr:Int)^k):(BL n).length≤k:=Mz h0 h
theorem JY{a:Bool×List Int}(h:CB a=true):0≤Aq a.2∧Aq a.2<(yr:Int)^3000:=by
 obtain⟨h1,h2,_⟩:=De h;refine⟨(F6 h).2,z7 (Bn (b:=yr) (by decide) (Bh h1).2.1) (AI (by decide) h2)⟩
theorem Ut{x y:Int}{k:Nat}(h1:x<(yr:Int)^k)(h2:y<(yr:Int)^k):x+y<(yr:Int)^(k+1):=by
 have:(yr:Int)^(k+1)=(yr:Int)^k*1000000000:=Int.pow_succ ..;have hp:=AM (b:=(yr:Int)) (by decide) k;rw[this];omega
theorem T97.ok:Ae AT 97 eE:=by
 refine Av (X:=pJ) rfl QD (d:=9) (by kernel_rfl) (by kernel_rfl) (by kernel_rfl) (fun(i:(Bool×List Int)×(Bool×List Int)) hi=>?_) (Ad (by kernel_rfl));obtain⟨a,b⟩:=i;have hi:(CB a&&CB b)=true:=hi;rw[zg]at hi;obtain⟨ha,hb⟩:=hi;obtain⟨a1,a2,_⟩:=De ha;obtain⟨b1,b2,_⟩:=De hb;obtain⟨va,wa⟩:=JY ha;obtain⟨vb,wb⟩:=JY hb;have pl:=cS a1 b1 (by omega) (by omega);have pl2:=cS b1 a1 (by omega) (by omega);refine zp (T97.Am a b) (zh (fun c=>?_) (fun c=>zc (Ac a1 b1) (zh (fun d=>?_) (fun d=>?_))))
 ·have hl:(LG a.2 b.2).length≤3001:=KI (by omega) (Ut wa wb);exact zc pl (zc (decide_eq_true (by omega)) (ze (zx rfl rfl (Ys ha hb (by simpa using c)))))
 ·have hle:Aq b.2≤Aq a.2:=by
   have d:=of_decide_eq_true d;unfold BW at d;split at d
   ·omega
   ·omega
  have hl:(F5 a.2 b.2).length≤3000:=KI (by omega) (by omega);exact zc (Ac pl (decide_eq_true hle)) (zc (decide_eq_true (by omega)) (ze (zx rfl rfl (Xd hb (by simpa using c) hle))))
 ·have hle:Aq a.2≤Aq b.2:=by
   have d:=of_decide_eq_false d;unfold BW at d;split at d
   ·omega
   ·split at d<;>omega
  have hl:(F5 b.2 a.2).length≤3000:=KI (by omega) (by omega);exact zc (Ac pl2 (decide_eq_true hle)) (zc (decide_eq_true (by omega)) (ze (zx rfl rfl (lS ha (by simpa using c) hle))))
theorem T98.ok:Ae AT 98 V8:=by
 refine Av (X:=pJ) rfl QD (d:=9) (by kernel_rfl) (by kernel_rfl) (by kernel_rfl) (fun(i:(Bool×List Int)×(Bool×List Int)) hi=>?_) (Ad (by kernel_rfl));obtain⟨a,b⟩:=i;have hi:(CB a&&CB b)=true:=hi;rw[zg]at hi;obtain⟨ha,hb⟩:=hi;obtain⟨a1,a2,_⟩:=De ha;obtain⟨b1,b2,_⟩:=De hb;obtain⟨va,wa⟩:=JY ha;obtain⟨vb,wb⟩:=JY hb;have hm:Aq a.2*Aq b.2<(yr:Int)^(3000+3000):=by
  rw[Int.pow_add];have hp:(0:Int)<(yr:Int)^3000:=AM (by decide) 3000;exact Int.lt_of_le_of_lt (zS (yb wb) va) (Int.mul_lt_mul_of_pos_right wa hp)
 have hl:=KI (yc va vb) hm;exact zp (T98.Am a b) (zc (Ac (PW (by omega) (Bh a1).2.1) (PW (by omega) (Bh b1).2.1)) (zc (decide_eq_true (by omega)) (ze (zx rfl rfl (cM ha hb)))))
theorem T166.ok:Ae AT 166 Wf:=by
 refine Av (X:=pJ) rfl QD (d:=9) (by kernel_rfl) (by kernel_rfl) (by kernel_rfl) (fun(a:Bool×List Int) ha=>?_) (Ad (by kernel_rfl));have ha:CB a=true:=ha;have:=(De ha).2.1;exact zp (T166.Am a) (zc (decide_eq_true (by omega)) (ze (zx rfl rfl (ZO ha))))
theorem jU:∀g sp,wA.sp g=some sp→Ae AT g sp:=Aa T109.ok (fun g sp h=>by cases h)
namespace T167
variable {Q:PV→Ob→Prop}
theorem Aj(neg:Bool)(w:List Int)(hw:A4 w=true)(hwl:w.length≤3000)(hq:∀ob,Q (.dat .str (if neg=true then 45::zo (Aq w).toNat else zo (Aq w).toNat)) ob):∀(i:Nat),i≤w.length→0<Sp.val yr (w.drop i)→Ends wA (L1 (zo (Sp.val yr (w.drop i)).toNat) ((i:Int)-1) neg w) Q:=by
 have hlen:∀i,(zo (Sp.val yr (w.drop i)).toNat).length≤27000:=fun i=>by
  have h1:=Bn (b:=yr) (by decide) (Ef (Bh hw).2.1 i);have h2:(yr:Int)^(w.drop i).length≤(yr:Int)^3000:=AI (by decide) (by rw[zL];omega);exact TB (k:=3000) (z7 h1 h2) (by decide)
 intro i;induction i with
 |zero=>
  intro _ _;have hl:=hlen 0;rw[List.drop_zero]at hl ⊢;have hl:(zo (Aq w).toNat).length≤27000:=hl;refine zm (As ..) (zk (by decide) (zh (fun c=>zc (decide_eq_true (by show 1+(zo (Aq w).toNat).length≤_;omega)) (ze ?_)) (fun c=>ze ?_)))
  ·rw[if_pos c]at hq;exact hq _
  ·rw[if_neg (by rw[c];decide)]at hq;exact hq _
 |succ i ih=>
  intro hi h0;have g:=Bt hw i;have e1:(((i+1:Nat):Int)-1)=(i:Int):=by omega
  have hl:=hlen (i+1);have h9:(Hn (w.getD i 0) 9).length≤64:=by
   have:=NK (w.getD i 0) 9;exact this
  obtain⟨s1,s2⟩:=Yw hw i h0;rw[e1];refine zm (As ..) ?_;conv=>zeta
  rw[zn,s1,wr ((i:Int)-1) (by omega) (by omega)];exact zc (decide_eq_true (by omega)) (zc (Ac (decide_eq_true (by omega)) (decide_eq_true (by omega))) (zc (Ac (Ac (Ac (decide_eq_true g.1) (decide_eq_true (by omega))) rfl) rfl) (zc (decide_eq_true (by omega)) (ih (by omega) s2))))
theorem ok:Ae AT 167 Zl:=by
 refine Av (X:=wA) rfl jU (d:=9) (by kernel_rfl) (by kernel_rfl) (by kernel_rfl) (fun(a:Bool×List Int) ha=>?_) (Ad (by kernel_rfl));have ha:CB a=true:=ha;obtain⟨a1,a2,_⟩:=De ha;refine zp (Am a) (zh (fun c=>ze (zx rfl rfl (cL ?_))) (fun c=>?_))
 ·exact zN.1 (by have:(a.2.length:Int)=0:=(by simpa using c);omega)
 ·have c:(a.2.length:Int)≠0:=by simpa using c
  obtain⟨i,hi⟩:∃i,a.2.length=i+1:=⟨a.2.length-1,by omega⟩;have g:=Bt a1 i;obtain⟨s1,s2⟩:=V3 a1 hi;have e1:zj .i64 ((a.2.length:Int)-1)=(i:Int):=by rw[wr _ (by omega) (by omega)];omega
  have e2:zj .i64 ((a.2.length:Int)-2)=(i:Int)-1:=by rw[wr _ (by omega) (by omega)];omega
  rw[e1,e2,zn,s1];refine zc (Ac (decide_eq_true (by omega)) (decide_eq_true (by omega))) (zc (Ac (Ac (Ac (decide_eq_true g.1) (decide_eq_true (by omega))) rfl) rfl) (Aj a.1 a.2 a1 a2 (fun ob=>zx rfl rfl ?_) i (by omega) s2));exact dV ha (by intro h;rw[h]at hi;cases hi)
end T167
end Go.Pe
end
section
namespace Go.Sp
theorem Z5{a k m:Nat}(h:a<10^k)(hk:k≤m):a<10^m:=Nat.lt_of_lt_of_le h (Nat.pow_le_pow_right (by decide) hk)
theorem fF{a b k:Nat}(h1:a<10^k)(h2:b<10^k):a+b<10^(k+1):=by rw[Nat.pow_succ];omega
theorem Ji{n:Int}{k:Nat}(h:n.natAbs<10^k)(hk:k≤27000):CB (rN n,rW n)=true:=QF (Z5 (m:=27000) h hk)
theorem II{m n:Int}(h:CB (rN n,rW n)=true)(hm:m.natAbs≤n.natAbs):CB (rN m,rW m)=true:=by
 have:=rF h;rw[EE]at this;exact QF (z8 hm this)
theorem Wn{n:Int}(h:BG n=true):CB (rN n,rW n)=true:=by
 have h:=Go.Pe.Ce h;exact Ji (k:=20) (by have:10^20=100000000000000000000:=rfl;omega) (by decide)
theorem T3{n:Int}(h:CB (rN n,rW n)=true):A4 (rW n)=true∧(rW n).length≤3000∧Ag n<(B9:Int)^3000:=by
 obtain⟨h1,h2,_⟩:=De h;refine⟨h1,h2,?_⟩;have:=(Go.Pe.JY h).2;rwa [show Aq (rN n,rW n).2=Ag n from Jq n]at this
theorem SD{n:Int}(h:CB (rN n,rW n)=true):(AX n).length≤27001:=by
 have h1:=(T3 h).2.2;have h2:=TB h1 (by decide);have e:(Ag n).toNat=n.natAbs:=by rw[Ai];omega
 rw[e]at h2;unfold AX qn;split
 ·rw[zr];omega
 ·rw[show n.toNat=n.natAbs by omega];omega
theorem Uj(n:Int):Ja (rN n,rW n)=AX n:=by unfold Ja;rw[EE]
theorem UX{N D:Int}(hD:0<D):qz N (gI (Ag N) D)=(zl N D).num∧qz D (gI (Ag N) D)=((zl N D).den:Int):=by
 have hs:D.sign=1:=qg hD;have eg:gI (Ag N) D=(yj N D:Int):=by rw[E3,Ai];rfl
 have d1:(yj N D:Int)∣N:=Int.gcd_dvd_left ..;have d2:(yj N D:Int)∣D:=Int.gcd_dvd_right ..;rw[eg,y9 d1,y9 d2];refine⟨?_,(GK (N:=N) hD).2.2.1▸?_⟩
 ·rw[Rat.num_divInt,hs,yo,jc]
 ·rw[eg]
theorem Qc(x y:Int):G3 (rN x,rW x) (rN y,rW y)=rN (x*y):=by unfold G3;rw[EE,EE]
theorem PG(x y:Int):GD (rN x,rW x) (rN y,rW y)=rW (x*y):=by unfold GD;rw[EE,EE]
theorem ZM(x y:Int):LR (rN x,rW x) (rN y,rW y)=rN (x+y):=by unfold LR;rw[EE,EE]
theorem fV(x y:Int):L0 (rN x,rW x) (rN y,rW y)=rW (x+y):=by unfold L0;rw[EE,EE]
theorem N4(x y:Int):Hi (rN x,rW x) (rN y,rW y)=Cm x y:=by unfold Hi;rw[EE,EE]
theorem Sy{a b:Nat}(h:a≤b):(zo a).length≤(zo b).length:=by
 have h1:=Lib.lt_pow_nDigits b;have h2:1≤(zo b).length:=yv.2 (Ro b);rw[←Lib.decDigits_length]at h1;exact Dy (z8 h h1) h2
theorem neg_num(x:Rat):(x.num<0↔x<0)∧(x.num>0↔0<x):=by
 rw[Rat.lt_iff,Rat.lt_iff];have:(0:Rat).num=0:=rfl;have h1:((0:Rat).den:Int)=1:=rfl;rw[this,h1];omega
theorem aV(p q:Rat):Pd (p-q).num=if p<q then -1 else if q<p then 1 else 0:=by
 obtain⟨h1,h2⟩:=neg_num (p-q);have h3:p-q<0↔p<q:=by rw[Rat.sub_lt_iff,Rat.zero_add]
 have h4:0<p-q↔q<p:=(Rat.lt_iff_sub_pos q p).symm;unfold Pd;simp only[h1,h2,h3,h4]
end Go.Sp
namespace Go.Pe
open Sp
open Go.Det
theorem iN:∀g sp,Zu.sp g=some sp→Ae AT g sp:=Aa T166.ok (Aa T92.ok (Aa T164.ok (Aa T168.ok (Aa T167.ok (fun g sp h=>by cases h)))))
namespace T96
variable {Q:PV→Ob→Prop}
theorem CQ(n d:Int)(hn:CB (ya n,zY n)=true)(hd:CB (ya d,zY d)=true)(d0:0≤d)(hq:∀ob,Q (.dat .str (AX n++47::AX d)) ob):Ends Zu (L3 (BL d) (AX n)) Q:=by
 have l1:=SD hn;have l2:=SD hd;have e:zY d=BL d:=by unfold zY;rw[Ai,yq d0]
 have l3:=(T3 hd).2.1;rw[e]at l3;obtain⟨hv,hg⟩:=Ii d0;have hp:(B4 false (BL d),Ar (BL d))=(ya d,zY d):=Od hg (by omega) (fun k=>(by cases k)) (fun _=>hv.symm);refine zm (C9 ..) ?_;conv=>zeta
 rw[hp,Uj];refine zc (decide_eq_true (by omega)) (zc (decide_eq_true (by omega)) (zc hd (zc (decide_eq_true (by rw[zq,zU];omega)) (ze ?_))));rw[List.append_assoc];exact hq _
theorem AU(n d:Int)(hn:CB (ya n,zY n)=true)(hd:CB (ya d,zY d)=true)(d0:0<d)(hq1:d=1→∀ob,Q (.dat .str (AX n)) ob)(hq:d≠1→∀ob,Q (.dat .str (AX n++47::AX d)) ob):Ends Zu (L2 (BL d) (AX n)) Q:=by
 have h1:=gV (n:=d) (by omega);by_cases h:d=1
 ·rw[h1.2 h];exact zm (A3 ..) (zc rfl (zc rfl (zc rfl (ze (hq1 h _)))))
 ·have h3:=CQ n d hn hd (by omega) (hq h);refine zm (A3 ..) (zh (fun c=>zc ?_ (zh (fun e=>?_) (fun _=>h3))) (fun _=>h3))
  ·have c:((BL d).length:Int)=1:=by simpa using c
   exact decide_eq_true (by omega)
  ·exfalso;have c:((BL d).length:Int)=1:=by simpa using c
   have e:(BL d).getD 0 0=1:=by simpa using e
   refine h (h1.1 ?_);cases hl:BL d with
   |nil=>rw[hl]at c;cases c
   |cons x r=>
    rw[hl]at c e;have hr:r=[]:=zN.1 (by have:((r.length+1:Nat):Int)=1:=c;omega);have e:x=1:=e;rw[hr,e]
theorem Aj(N D:Int)(hN:CB (ya N,zY N)=true)(hD:CB (ya D,zY D)=true)(h0:0<D)(hq:∀ob,Q (.dat .str (Cm N D)) ob):Ends Zu (L1 (ya D) (zY D) (ya N) (zY N)) Q:=by
 obtain⟨n1,n2,n3⟩:=T3 hN;obtain⟨d1,d2,d3⟩:=T3 hD;obtain⟨g0,f1,f2,f3⟩:=GK (N:=N) h0;have eD:Ag D=D:=by rw[Ai,yq (yb h0)]
 have ec:Cc (zY N) (zY D)=BL (Sp.gI (Ag N) D):=by
  unfold Cc;rw[Jq,Jq,eD]
 have gd:Sp.gI (Ag N) D≤D:=by
  have eg:Sp.gI (Ag N) D=(yj N D:Int):=by rw[E3,Ai];rfl
  rw[eg];exact Int.le_of_dvd h0 (Int.gcd_dvd_right ..)
 have fn:=dU h0 (neg:=ya N) rfl;have nn:(zl N D).num.natAbs≤N.natAbs:=(EY (n:=N) (d:=D) (by omega)).1;have dd:(zl N D).den≤D.natAbs:=(EY (n:=N) (d:=D) (by omega)).2;have Dj:=II (m:=(zl N D).num) hN nn;have okD:=II (m:=((zl N D).den:Int)) hD (by rw[Int.natAbs_natCast];exact dd);have lg:Ag (zl N D).num<(yr:Int)^3000:=(T3 Dj).2.2;have ft:=PN (N:=N) (D:=D);have dp:=(zl N D).den_pos;have a0:=MN (zl N D).num;rw[eD]at d3;refine zm (As ..) ?_;conv=>zeta
 rw[ec,Jq,Jq,eD];generalize Sp.gI (Ag N) D=g at*;have fg:=Gw (n:=g) (k:=3000) (by omega) (by omega) (by decide);rw[fg.2.2.1,fn,f1,f2,Uj];have ll:=KI a0 lg;refine zc (Ac (Ac (Ac n1 d1) (decide_eq_true (by omega))) (decide_eq_true (by omega))) (zc (Ac (Ac (Ac (Ac n1 fg.1) (decide_eq_true (by omega))) (decide_eq_true (by omega))) (decide_eq_true g0)) (zc (Ac (Ac (Ac (Ac d1 fg.1) (decide_eq_true (by omega))) (decide_eq_true (by omega))) (decide_eq_true g0)) (zc (decide_eq_true (by omega)) (zc Dj (AU _ _ Dj okD (by omega) (fun h ob=>?_) (fun h ob=>?_))))))
 ·have:=hq ob;rw[ft,if_pos (by omega)]at this;exact this
 ·have:=hq ob;rw[ft,if_neg (by omega)]at this;exact this
theorem ok:Ae AT 96 LF:=by
 refine Av (X:=Zu) rfl iN (d:=9) (by kernel_rfl) (by kernel_rfl) (by kernel_rfl) (fun(i:(Bool×List Int)×(Bool×List Int)) hi=>?_) (Ad (by kernel_rfl));obtain⟨a,b⟩:=i;have hi:(CB a&&CB b&&decide (je b≠0))=true:=hi;rw[zg,zg,decide_eq_true_eq]at hi;obtain⟨⟨ha,hb⟩,h0⟩:=hi;have ea:=oN ha;have eb:=oN hb;have hq:∀ob,Af LF (a,b) (.dat .str (Cm (je a) (je b))) ob:=fun ob=>zx rfl rfl rfl
 have ha2:=ha;have hb2:=hb;rw[ea]at ha2;rw[eb]at hb2;refine zp (Am a b) (zh (fun c=>zc ha (zc hb ?_)) (fun c=>?_))
 ·have hneg:je b<0:=by
   have:=OP hb;rw[c]at this;exact of_decide_eq_true this.symm
  have:=Aj (Q:=Af LF (a,b)) (-je a) (-je b) (II ha2 (by rw[Int.natAbs_neg];exact zy _)) (II hb2 (by rw[Int.natAbs_neg];exact zy _)) (by omega) (fun ob=>by rw[Ub];exact hq ob);exact this
 ·have hpos:0<je b:=by
   have:=OP hb;rw[c]at this;have:=of_decide_eq_false this.symm;omega
  have:=Aj (Q:=Af LF (a,b)) (je a) (je b) ha2 hb2 hpos hq;rw[←OP ha, ←pT ha, ←OP hb, ←pT hb]at this;exact this
end T96
theorem jD:∀g sp,YZ.sp g=some sp→Ae AT g sp:=Aa T107.ok (Aa T96.ok (Aa T108.ok (Aa T109.ok (fun g sp h=>by cases h))))
namespace T36
variable {Q:PV→Ob→Prop}
theorem TW{n:Int}(h1: -9000000000000000000≤n)(h2:n≤9000000000000000000):imax n (zj .i64 (0-n))=Ag n:=by
 rw[wr _ (by omega) (by omega)];unfold imax Ag;split<;>split<;>omega
theorem BP(n d:Int)(v:List UInt8)(hv:v=AX n)(hl:v.length≤27001)(d0:0<d)(d1:d<9000000000000000000)(hq1:d=1→∀ob,Q (.dat .str (AX n)) ob)(hq:d≠1→∀ob,Q (.dat .str (AX n++47::AX d)) ob):Ends YZ (L4 d v) Q:=by
 have h9:=NK d 1;have e:Hn d 1=AX d:=by
  rw[NQ (by omega) (by omega)];unfold AX qn;rw[if_neg (by omega)]
 refine zm (Dp ..) (zh (fun c=>zc (decide_eq_true (by omega)) (zc (Ac (Ac (Ac (decide_eq_true (by omega)) (decide_eq_true (by omega))) rfl) rfl) (zc (decide_eq_true (by rw[zq,zU];omega)) (ze ?_)))) (fun c=>ze ?_))
 ·have c:=of_decide_eq_true c;rw[hv,e,List.append_assoc];exact hq (by omega) _
 ·have c:=of_decide_eq_false c;rw[hv];exact hq1 (by omega) _
theorem CQ(n d:Int)(n1: -9000000000000000000<n)(n2:n<9000000000000000000)(d0:0<d)(d1:d<9000000000000000000)(hq1:d=1→∀ob,Q (.dat .str (AX n)) ob)(hq:d≠1→∀ob,Q (.dat .str (AX n++47::AX d)) ob):Ends YZ (L3 n d) Q:=by
 have h9:=NK (Ag n) 1;have ha:=Ai n;have e:Hn (Ag n) 1=zo n.natAbs:=by
  rw[NQ (by omega) (by omega)];congr 1;omega
 have ei:=Yv n;refine zm (C9 ..) ?_;conv=>zeta
 rw[TW (by omega) (by omega)];have hr:(decide (0≤Ag n)&&decide (Ag n<9223372036854775808)&&decide ((0:Int)≤1)&&decide ((1:Int)≤20))=true:=Ac (Ac (Ac (decide_eq_true (by omega)) (decide_eq_true (by omega))) rfl) rfl;refine zh (fun c=>zc hr (zc (decide_eq_true (by omega)) (BP n d _ ?_ ?_ d0 d1 hq1 hq))) (fun c=>zc hr (zc (decide_eq_true (by omega)) (BP n d _ ?_ ?_ d0 d1 hq1 hq)))
 ·have c:=of_decide_eq_true c;rw[if_pos c]at ei;rw[e];exact ei.symm
 ·rw[zq,zU];omega
 ·have c:=of_decide_eq_false c;rw[if_neg c]at ei;rw[e];exact ei.symm
 ·rw[List.nil_append];omega
theorem AU(n d:Int)(n1: -9000000000000000000<n)(n2:n<9000000000000000000)(d0:0<d)(d1:d<9000000000000000000)(hq:∀ob,Q (.dat .str (Cm n d)) ob):Ends YZ (L2 n d) Q:=by
 obtain⟨g0,_⟩:=GK (N:=n) d0;obtain⟨q1,q2⟩:=UX (N:=n) d0;obtain⟨l1,l2⟩:=EY (n:=n) (d:=d) (by omega);have ha:=Ai n;have dp:=(zl n d).den_pos;have ft:=PN (N:=n) (D:=d);refine zm (A3 ..) ?_;conv=>zeta
 rw[TW (by omega) (by omega),q1,q2,wr _ (by omega) (by omega),wr _ (by omega) (by omega)];have hg:decide (Sp.gI (Ag n) d≠0)=true:=decide_eq_true (by omega);refine zc (Ac (Ac (Ac (decide_eq_true (by omega)) (decide_eq_true (by omega))) (decide_eq_true (by omega))) (decide_eq_true (by omega))) (zc hg (zc hg (CQ _ _ (by omega) (by omega) (by omega) (by omega) (fun h ob=>?_) (fun h ob=>?_))))
 ·have:=hq ob;rw[ft,if_pos (by omega)]at this;exact this
 ·have:=hq ob;rw[ft,if_neg (by omega)]at this;exact this
theorem ok:Ae AT 36 WJ:=by
 refine Av (X:=YZ) rfl jD (d:=9) (by kernel_rfl) (by kernel_rfl) (by kernel_rfl) (fun(i:Int×Int) hi=>?_) (Ad (by kernel_rfl));obtain⟨n,d⟩:=i;have hi:(BG n&&BG d&&decide (d≠0))=true:=hi;rw[zg,zg,decide_eq_true_eq]at hi;obtain⟨⟨hn,hd⟩,h0⟩:=hi;have hq:∀ob,Af WJ (n,d) (.dat .str (Cm n d)) ob:=fun ob=>zx rfl rfl rfl
 have slow:(CB (ya n,zY n)&&CB (ya d,zY d)&&decide (je (ya d,zY d)≠0))=true:=Ac (Ac (Wn hn) (Wn hd)) (by rw[EE];exact decide_eq_true h0);refine zp (Am n d) ?_;conv=>zeta
 rw[N4];refine zh (fun _=>zc hn (zc hd (zc slow (ze (hq _))))) (fun c1=>zh (fun _=>zc hn (zc hd (zc slow (ze (hq _))))) (fun c2=>zh (fun _=>zc hn (zc hd (zc slow (ze (hq _))))) (fun c3=>zh (fun _=>zc hn (zc hd (zc slow (ze (hq _))))) (fun c4=>?_))));have c1:=of_decide_eq_false c1;have c2:=of_decide_eq_false c2;have c3:=of_decide_eq_false c3;have c4:=of_decide_eq_false c4;refine zm (As ..) (zh (fun c=>?_) (fun c=>?_))
 ·have c:=of_decide_eq_true c;rw[wr (0-n) (by omega) (by omega),wr (0-d) (by omega) (by omega),q9,q9];exact AU (-n) (-d) (by omega) (by omega) (by omega) (by omega) (fun ob=>by rw[Ub];exact hq ob)
 ·have c:=of_decide_eq_false c;exact AU n d (by omega) (by omega) (by omega) (by omega) hq
end T36
namespace T95
theorem xS{Q:PV→Ob→Prop}(s:List UInt8)(neg:Bool)(hl:s.length≤20)(h:9<(Ax s).length∨9<(zV s).length)(hq:∀ob,Q (.tup [.dat i64 0,.dat i64 0,.bl false]) ob):Ends Ms (L3 s neg) Q∧Ends Ms (L4 s) Q:=by
 obtain⟨c1,c2,c3⟩:=BC s;have es:AV s=((Ax s).length:Int):=rfl;have hle:=(T77.CP s).1;have hB:9<(zV s).length→(s.length:Int)-(Ax s).length>10:=fun h=>by
  cases hc:Bk s with
  |true=>
   have k2:=congrArg List.length (c2 hc).2;rw[zL]at k2;omega
  |false=>rw[(c3 hc).2]at h;cases h
 refine⟨zm (C9 ..) (zc (decide_eq_true (by omega)) (zh (fun _=>ze (hq _)) (fun c=>?_))),zm (Dp ..) (zc (decide_eq_true (by omega)) (zh (fun _=>ze (hq _)) (fun c=>?_)))⟩
 ·have c:=of_decide_eq_false c;rw[es]at c;have hb:=hB (by omega);refine zc ?_ (ze (hq _));rw[es,wr _ (by omega) (by omega)];exact decide_eq_true hb
 ·have c:=of_decide_eq_false c;rw[es]at c;have hb:=hB (by omega);refine zc ?_ (ze (hq _));rw[es,wr _ (by omega) (by omega)];exact decide_eq_true hb
theorem zA:Ae AT 95 MB:=by
 refine Av (X:=Ms) rfl lH (d:=9) (by kernel_rfl) (by kernel_rfl) (by kernel_rfl) (fun(a:List UInt8) ha=>?_) (Ad (by kernel_rfl));obtain⟨_,_,da,db⟩:=Of ha;by_cases hqk:DF a=true
 ·have hq:∀n ob,n=HF a→Af MB a (.tup [.dat i64 n,.dat i64 (if Bk (AY a)=true then Az 0 (zV (AY a))else 1),.bl true]) ob:=fun n ob h=>zx rfl rfl (by
   show(n,_,true)=(Z1 a,Uk a,DF a);unfold Z1 Uk;rw[if_pos hqk,if_pos hqk,hqk,h];rfl)
  unfold DF at hqk;rw[zg,zg,decide_eq_true_eq,decide_eq_true_eq,decide_eq_true_eq]at hqk;obtain⟨⟨hl,la⟩,lb⟩:=hqk;clear ha;refine zp (Am a) (zk (by simp;omega) ?_);cases a with
  |nil=>exact zk rfl (zm (A3 ..) (BP [] hl la lb da db (fun n ob h=>hq n ob (by rw[h];rfl))))
  |cons c r=>
   have g0:(c::r).getD 0 0=c:=rfl;rw[g0];refine zc (by simp) (zc (by simp) (zm (As ..) (zh (fun d=>zc (by simp) ?_) (fun d=>?_))))
   ·have hc:c=45:=by
     have:(c.toNat:Int)=45:=by simpa using d
     exact qi.1 (by show _=45;omega)
    have ep:AY (c::r)=r:=by unfold AY;rw[g0,if_pos hc];rfl
    have eb:Sp.preB (c::r)=true:=by unfold Sp.preB;rw[g0];exact decide_eq_true hc
    have et:y8 (qy (c::r).length 1) (jg 1 (c::r))=r:=zu (zy _);unfold HF at hq;rw[ep]at la lb da db hq;rw[eb]at hq;rw[et,d];exact CQ r true (by rw[zr]at hl;omega) la lb da db (fun n ob h=>hq _ ob (by rw[h];try rfl))
   ·have hc:c≠45:=by rintro rfl;exact absurd d (by decide)
    have ep:AY (c::r)=c::r:=by unfold AY;rw[g0,if_neg hc]
    have eb:Sp.preB (c::r)=false:=by unfold Sp.preB;rw[g0];exact decide_eq_false hc
    unfold HF at hq;rw[ep]at la lb da db hq;rw[eb]at hq;rw[d];exact CQ (c::r) false hl la lb da db (fun n ob h=>hq _ ob (by rw[h];try rfl))
 ·have hf:DF a=false:=by simpa using hqk
  have hq:∀ob,Af MB a (.tup [.dat i64 0,.dat i64 0,.bl false]) ob:=fun ob=>zx rfl rfl (by
   show((0:Int),(0:Int),false)=(Z1 a,Uk a,DF a);unfold Z1 Uk;rw[if_neg hqk,if_neg hqk,hf])
  refine zp (Am a) (zh (fun _=>ze (hq _)) (fun hl=>?_));have hl:a.length≤20:=by have:=of_decide_eq_false hl;omega
  have h9:9<(Ax (AY a)).length∨9<(zV (AY a)).length:=by
   by_cases h1:(Ax (AY a)).length≤9
   ·by_cases h2:(zV (AY a)).length≤9
    ·exact absurd (by unfold DF;rw[decide_eq_true hl,decide_eq_true h1,decide_eq_true h2];rfl) hqk
    ·exact .inr (by omega)
   ·exact .inl (by omega)
  cases a with
  |nil=>exact zk rfl (zm (A3 ..) (xS [] false hl h9 hq).2)
  |cons c r=>
   have g0:(c::r).getD 0 0=c:=rfl;rw[g0];refine zc (by simp) (zc (by simp) (zm (As ..) (zh (fun d=>zc (by simp) ?_) (fun d=>?_))))
   ·have hc:c=45:=by
     have:(c.toNat:Int)=45:=by simpa using d
     exact qi.1 (by show _=45;omega)
    have ep:AY (c::r)=r:=by unfold AY;rw[g0,if_pos hc];rfl
    have et:y8 (qy (c::r).length 1) (jg 1 (c::r))=r:=zu (zy _);rw[ep]at h9;rw[et];exact(xS r _ (by rw[zr]at hl;omega) h9 hq).1
   ·have hc:c≠45:=by rintro rfl;exact absurd d (by decide)
    have ep:AY (c::r)=c::r:=by unfold AY;rw[g0,if_neg hc]
    rw[ep]at h9;exact(xS (c::r) _ hl h9 hq).1
end T95
theorem QU:∀g sp,aS.sp g=some sp→Ae AT g sp:=Aa T95.zA (Aa T36.ok (Aa (T91.ok) (Aa T97.ok (Aa T98.ok (Aa T96.ok (fun g sp h=>by cases h))))))
theorem SY{x y:Int}(h1: -1000000000<x)(h2:x<1000000000)(h3: -1000000000<y)(h4:y<1000000000): -1000000000000000000≤x*y∧x*y≤1000000000000000000:=by
 have h:(x*y).natAbs≤1000000000*1000000000:=by
  rw[yx];exact Nat.mul_le_mul (by omega) (by omega)
 omega
theorem T27.ok:Ae AT 27 SB:=by
 refine Av (X:=aS) rfl QU (d:=9) (by kernel_rfl) (by kernel_rfl) (by kernel_rfl) (fun(i:List UInt8×List UInt8) hi=>?_) (Ad (by kernel_rfl));obtain⟨a,b⟩:=i;have hi:(Bw a&&Bw b)=true:=hi;rw[zg]at hi;obtain⟨ha,hb⟩:=hi;obtain⟨a1,a2,a3,a4,a5,a6,a7,a8,a9⟩:=C2 ha;obtain⟨b1,b2,b3,b4,b5,b6,b7,b8,b9⟩:=C2 hb;have ad:=(AW a).den_pos;have bd:=(AW b).den_pos;have eq:=(Yq ha hb).2;have hq:∀ob,Af SB (a,b) (.dat .str (Cm (A8 a*AF b+A8 b*AF a) (AF a*AF b))) ob:=fun ob=>zx rfl rfl eq.symm
 have slow:Ends aS (T27.L1 a b) (Af SB (a,b)):=by
  have e1:Bx a=ya (A8 a):=rfl;have e2:Bp a=zY (A8 a):=rfl;have e3:Bg a=ya (AF a):=rfl;have e4:Bd a=zY (AF a):=rfl;have e5:Bx b=ya (A8 b):=rfl;have e6:Bp b=zY (A8 b):=rfl;have e7:Bg b=ya (AF b):=rfl;have e8:Bd b=zY (AF b):=rfl;rw[e1,e2]at a1;rw[e3,e4]at a3;rw[e5,e6]at b1;rw[e7,e8]at b3;refine zm (T27.As ..) ?_;conv=>zeta
  simp only[e1,e2,e3,e4,e5,e6,e7,e8,Qc,PG,ZM,fV,N4,EE];have m1:=Dn a8 b9;have m2:=Dn b8 a9;have m3:=Dn a9 b9;rw[←yx]at m1 m2 m3;have m4:=z8 (Int.natAbs_add_le (A8 a*AF b) (A8 b*AF a)) (fF (k:=4000+4000) m1 m2);have k1:=Ji m1 (by decide);have k2:=Ji m2 (by decide);have k3:=Ji m3 (by decide);have k4:=Ji m4 (by decide);have k5:AF a*AF b≠0:=yu (by omega) (by omega);exact zc a7 (zc b7 (zc (Ac a1 b3) (zc (Ac b1 a3) (zc (Ac k1 k2) (zc (Ac a3 b3) (zc (Ac (Ac k4 k3) (decide_eq_true k5)) (ze (hq _))))))))
 refine zp (T27.Am a b) (zc ha (zc hb (zh (fun qa=>zh (fun qb=>?_) (fun _=>slow)) (fun _=>slow))));obtain⟨x1,x2,x3,x4,x5,x6⟩:=FH ha qa;obtain⟨y1,y2,y3,y4,y5,y6⟩:=FH hb qb;have p1:=SY x3 x4 (by omega) y6;have p2:=SY y3 y4 (by omega) x6;have p3:=SY (by omega) x6 (by omega) y6;have p4:AF a*AF b≠0:=yu (by omega) (by omega);rw[x1,x2,y1,y2,wr (A8 a*AF b) (by omega) (by omega),wr (A8 b*AF a) (by omega) (by omega),wr (A8 a*AF b+A8 b*AF a) (by omega) (by omega),wr (AF a*AF b) (by omega) (by omega)];exact zc (Ac (Ac (C3 (by omega) (by omega)) (C3 (by omega) (by omega))) (decide_eq_true p4)) (ze (hq _))
theorem T29.ok:Ae AT 29 Ta:=by
 refine Av (X:=aS) rfl QU (d:=9) (by kernel_rfl) (by kernel_rfl) (by kernel_rfl) (fun(i:List UInt8×List UInt8) hi=>?_) (Ad (by kernel_rfl));obtain⟨a,b⟩:=i;have hi:(Bw a&&Bw b)=true:=hi;rw[zg]at hi;obtain⟨ha,hb⟩:=hi;obtain⟨a1,a2,a3,a4,a5,a6,a7,a8,a9⟩:=C2 ha;obtain⟨b1,b2,b3,b4,b5,b6,b7,b8,b9⟩:=C2 hb;have ad:=(AW a).den_pos;have bd:=(AW b).den_pos;have hq:∀ob,Af Ta (a,b) (.dat .str (Cm (A8 a*A8 b) (AF a*AF b))) ob:=fun ob=>zx rfl rfl (XO).symm
 have slow:Ends aS (T29.L1 a b) (Af Ta (a,b)):=by
  have e1:Bx a=ya (A8 a):=rfl;have e2:Bp a=zY (A8 a):=rfl;have e3:Bg a=ya (AF a):=rfl;have e4:Bd a=zY (AF a):=rfl;have e5:Bx b=ya (A8 b):=rfl;have e6:Bp b=zY (A8 b):=rfl;have e7:Bg b=ya (AF b):=rfl;have e8:Bd b=zY (AF b):=rfl;rw[e1,e2]at a1;rw[e3,e4]at a3;rw[e5,e6]at b1;rw[e7,e8]at b3;refine zm (T29.As ..) ?_;conv=>zeta
  simp only[e1,e2,e3,e4,e5,e6,e7,e8,Qc,PG,N4,EE];have m1:=Dn a8 b8;have m3:=Dn a9 b9;rw[←yx]at m1 m3;have k1:=Ji m1 (by decide);have k3:=Ji m3 (by decide);have k5:AF a*AF b≠0:=yu (by omega) (by omega);exact zc a7 (zc b7 (zc (Ac a1 b1) (zc (Ac a3 b3) (zc (Ac (Ac k1 k3) (decide_eq_true k5)) (ze (hq _))))))
 refine zp (T29.Am a b) (zc ha (zc hb (zh (fun qa=>zh (fun qb=>?_) (fun _=>slow)) (fun _=>slow))));obtain⟨x1,x2,x3,x4,x5,x6⟩:=FH ha qa;obtain⟨y1,y2,y3,y4,y5,y6⟩:=FH hb qb;have p1:=SY x3 x4 y3 y4;have p3:=SY (by omega) x6 (by omega) y6;have p4:AF a*AF b≠0:=yu (by omega) (by omega);rw[x1,x2,y1,y2,wr _ (by omega) (by omega),wr (AF a*AF b) (by omega) (by omega)];exact zc (Ac (Ac (C3 (by omega) (by omega)) (C3 (by omega) (by omega))) (decide_eq_true p4)) (ze (hq _))
theorem T94.ok:Ae AT 94 oI:=by
 refine Av (X:=aS) rfl QU (d:=9) (by kernel_rfl) (by kernel_rfl) (by kernel_rfl) (fun(a:List UInt8) hi=>?_) (Ad (by kernel_rfl));obtain⟨hs,h0⟩:=bF hi;obtain⟨a1,a2,a3,a4,a5,a6,a7,a8,a9⟩:=C2 (Hc hs).1;refine zp (T94.Am a) (zc a7 (zc (Ac (Ac a3 a1) ?_) (ze (zx rfl rfl ?_))))
 ·rw[a2];exact decide_eq_true fun e=>h0 (Rat.num_eq_zero.mp (by rw[a5,e]))
 ·show Hi _ _=Pw a;unfold Hi;rw[a2,a4];exact Yb.symm
end Go.Pe
end
section
namespace Go.Pe
open Sp
open Go.Det
theorem Wp:∀g sp,tX.sp g=some sp→Ae AT g sp:=Aa T94.ok (Aa T29.ok (Aa T27.ok (Aa T99.ok (fun g sp h=>by cases h))))
theorem eS{s:List UInt8}(h:Dc s=true):Bw (Kb s)=true∧AW (Kb s)= -AW s:=by
 obtain⟨h1,h2⟩:=Hc h;obtain⟨t,_⟩:=GN h1;have e:Kb s=A0 (-AW s):=by
  have:=gA (AW s);rwa [t]at this
 have r:AW (Kb s)= -AW s:=by rw[e,DM]
 refine⟨?_,r⟩;have hl:(Kb s).length≤4000:=by
  unfold Kb;split
  ·omega
  ·split
   ·rw[zL];omega
   ·rw[zr];omega
 unfold Bw;rw[r, ←e,decide_eq_true rfl,decide_eq_true hl];rfl
theorem T28.ok:Ae AT 28 Z9:=by
 refine Av (X:=tX) rfl Wp (d:=9) (by kernel_rfl) (by kernel_rfl) (by kernel_rfl) (fun(i:List UInt8×List UInt8) hi=>?_) (Ad (by kernel_rfl));obtain⟨a,b⟩:=i;have hi:(Bw a&&Dc b)=true:=hi;rw[zg]at hi;obtain⟨ha,hb⟩:=hi;obtain⟨n1,n2⟩:=eS hb;have hl:=(Hc hb).2;refine zp (T28.Am a b) (zc (decide_eq_true (by omega)) (zc (Ac ha n1) (ze (zx rfl rfl ?_))));show JA a (Kb b)=Kw a b;unfold JA Kw;rw[n2,Rat.sub_eq_add_neg]
theorem cE{s:List UInt8}(h:dL s=true):Bw (Pw s)=true:=by
 obtain⟨h1,h0⟩:=bF h;obtain⟨h1,h2⟩:=Hc h1;obtain⟨t,_⟩:=GN h1;have hl:(A0 (AW s)).length≤3000:=by rw[t];exact h2
 unfold Pw;generalize AW s=q at*;have l1:(zo q.num.natAbs).length≤(qn q.num).length:=by
  unfold qn;split
  ·rw[zr];omega
  ·rw[show q.num.toNat=q.num.natAbs by omega];exact zy _
 have key:(A0 q⁻¹).length≤(zo q.num.natAbs).length+(zo q.den).length+2:=by
  have hi:=Rat.inv_def q;have hz:q.num≠0:=fun e=>h0 (Rat.num_eq_zero.mp e)
  have hd:=q.den_pos;have m:=EY (n:=(q.den:Int)) (d:=q.num) hz;rw[←hi,Int.natAbs_natCast]at m;have k1:=Sy m.1;have k2:=Sy m.2;have l2:(qn q⁻¹.num).length≤(zo q⁻¹.num.natAbs).length+1:=by
   unfold qn;split
   ·rw[zr];omega
   ·rw[show q⁻¹.num.toNat=q⁻¹.num.natAbs by omega];omega
  unfold A0;split
  ·omega
  ·rw[zq,zr];omega
 have l3:(zo q.num.natAbs).length+(zo q.den).length≤3001:=by
  unfold A0 at hl;split at hl
  ·next c=>rw[c,Lib.decDigits_one (show 1<10 by decide),zU];omega
  ·rw[zq,zr]at hl;omega
 unfold Bw;rw[DM,decide_eq_true rfl,decide_eq_true (by omega)];rfl
theorem T26.ok:Ae AT 26 oB:=by
 refine Av (X:=tX) rfl Wp (d:=9) (by kernel_rfl) (by kernel_rfl) (by kernel_rfl) (fun(i:List UInt8×List UInt8) hi=>?_) (Ad (by kernel_rfl));obtain⟨a,b⟩:=i;have hi:(Bw a&&dL b)=true:=hi;rw[zg]at hi;obtain⟨ha,hb⟩:=hi;refine zp (T26.Am a b) (zc hb (zc (Ac ha (cE hb)) (ze (zx rfl rfl ?_))));show Et a (Pw b)=Mm a b;unfold Et Mm Pw;rw[DM,Rat.div_def]
theorem QV:∀g sp,qD.sp g=some sp→Ae AT g sp:=Aa T28.ok (Aa T41.ok (Aa T89.ok (Aa T100.ok (Aa T101.ok (Aa T102.ok (fun g sp h=>by cases h))))))
theorem T30.ok:Ae AT 30 oA:=by
 refine Av (X:=qD) rfl QV (d:=9) (by kernel_rfl) (by kernel_rfl) (by kernel_rfl) (fun(i:List UInt8×List UInt8) hi=>?_) (Ad (by kernel_rfl));obtain⟨a,b⟩:=i;have hi:(Bw a&&Dc b)=true:=hi;have hi2:=hi;rw[zg]at hi2;obtain⟨ha,hb⟩:=hi2;have z:=(Rd ha).sub (Rd (Hc hb).1);refine zp (T30.Am a b) (zc hi (zc (decide_eq_true (HQ z (by decide))) (ze (zx rfl rfl ?_))));show Fp (Kw a b)=SE a b;unfold Kw;rw[Lp,aV];rfl
theorem T43.ok:Ae AT 43 Xs:=by
 refine Av (X:=qD) rfl QV (d:=9) (by kernel_rfl) (by kernel_rfl) (by kernel_rfl) (fun(a:List UInt8) ha=>?_) (Ad (by kernel_rfl));refine zp (T43.Am a) (zc ha (ze (zx rfl rfl ?_)));show(AV a==(a.length:Int))=Jx a;obtain⟨c1,c2,c3⟩:=BC a;have es:AV a=((Ax a).length:Int):=rfl;unfold Jx;cases hc:Bk a with
 |false=>rw[es,(c3 hc).1];simp
 |true=>
  obtain⟨k1,k2⟩:=c2 hc;rw[es];simp;omega
theorem T93.ok:Ae AT 93 Qz:=by
 refine Av (X:=qD) rfl QV (d:=9) (by kernel_rfl) (by kernel_rfl) (by kernel_rfl) (fun(a:List UInt8) ha=>?_) (Ad (by kernel_rfl));have hl:a.length≤1000000:=of_decide_eq_true ha;have hc:=(T77.CP a).1;have hq:∀v ob,v=EJ a→Af Qz a (.dat i64 v) ob:=fun v ob h=>zx rfl rfl h
 unfold EJ at hq;refine zp (T93.Am a) (zc ha (zc (decide_eq_true (by omega)) (zh (fun c=>ze (hq _ _ ?_)) (fun c=>zc ha (zh (fun d=>ze (hq _ _ ?_)) (fun d=>ze (hq _ _ ?_)))))))
 ·have c:=of_decide_eq_true c;rw[if_pos (.inl (by omega))]
 ·have d:=of_decide_eq_true d;rw[if_pos (.inr (by omega))]
 ·have c:=of_decide_eq_false c;have d:=of_decide_eq_false d;rw[if_neg (by omega)]
end Go.Pe
end
section
namespace Go.Pe
open Sp
open Go.Det
theorem kF:∀g sp,tS.sp g=some sp→Ae AT g sp:=Aa T93.ok (fun g sp h=>by cases h)
theorem T25.ok:Ae AT 25 Qh:=by
 refine Av (X:=tS) rfl kF (d:=9) (by kernel_rfl) (by kernel_rfl) (by kernel_rfl) (fun(i:List UInt8×Int×List UInt8×Int) hi=>?_) (Ad (by kernel_rfl));obtain⟨a,e,w,bad⟩:=i;have hq:∀v ob,v=Ea a e w bad→Af Qh (a,e,w,bad) (.dat .bool v) ob:=fun v ob h=>zx rfl rfl h
 have hqb:∀v ob,v=Ea a e w bad→Af Qh (a,e,w,bad) (.bl v) ob:=fun v ob h=>zx rfl rfl h
 have key:∀x:Int,x=(if bad=0 then EJ w else bad)→Ea a e w bad=if x≠0 then decide (a=[])&&decide (e=x)else decide (e=0)&&decide (a=w):=by
  rintro x rfl;rfl
 have yes:∀(x:Int) ob,x=(if bad=0 then EJ w else bad)→x≠0→Ends tS (.ite (a==[]) (.leaf (PV.dat Sh.bool (e==x)) ob) (.leaf (PV.bl false) ob)) (Af Qh (a,e,w,bad)):=fun x ob h h0=>by
  have k:=key x h;rw[if_pos h0]at k;refine zh (fun c=>ze (hq _ _ ?_)) (fun c=>ze (hqb _ _ ?_))
  ·have c:a=[]:=by simpa using c
   rw[k,decide_eq_true c,yk];rfl
  ·have c:a≠[]:=by simpa using c
   rw[k,decide_eq_false c];rfl
 have no:∀(x:Int) ob,x=(if bad=0 then EJ w else bad)→x=0→Ends tS (.ite (e==0) (.leaf (PV.dat Sh.bool (a==w)) ob) (.leaf (PV.bl false) ob)) (Af Qh (a,e,w,bad)):=fun x ob h h0=>by
  have k:=key x h;rw[if_neg (by rw[h0];decide)]at k;refine zh (fun c=>ze (hq _ _ ?_)) (fun c=>ze (hqb _ _ ?_))
  ·have c:e=0:=by simpa using c
   rw[k,decide_eq_true c,yk];by_cases h:a=w
   ·rw[decide_eq_true h];simpa using h
   ·rw[decide_eq_false h];simpa using h
  ·have c:e≠0:=by simpa using c
   rw[k,decide_eq_false c];rfl
 refine zp (T25.Am a e w bad) (zh (fun c=>zc hi (zh (fun d=>?_) (fun d=>?_))) (fun c=>zh (fun d=>?_) (fun d=>?_)))
 ·have c:bad=0:=by simpa using c
  exact yes _ _ (by rw[if_pos c]) (by simpa using d)
 ·have c:bad=0:=by simpa using c
  exact no _ _ (by rw[if_pos c]) (by simpa using d)
 ·have c:bad≠0:=by simpa using c
  exact yes _ _ (by rw[if_neg c]) c
 ·have c:bad≠0:=by simpa using c
  exact absurd (by simpa using d) c
theorem ZL{l:List (List UInt8)}(h:(!H6 l)=false):∀s∈l,s.length≤1300:=by
 have h:H6 l=true:=by simpa using h
 unfold H6 at h;rw[yi]at h;exact fun s hs=>of_decide_eq_true (h s hs)
end Go.Pe
end
section
namespace Go.Sp
end Go.Sp
end
section
namespace Go.Pe
open Go.Det
end Go.Pe
end
section
namespace Go.Sp
theorem Nu.JA{i j:Nat}{a b:List UInt8}{p q:Rat}(ha:Nu i a p)(hb:Nu j b q):Nu (i+j+1) (Sp.JA a b) (p+q):=⟨by unfold Sp.JA;rw[ha.rat,hb.rat],ha.z.add hb.z⟩
theorem Nu.Kw{i j:Nat}{a b:List UInt8}{p q:Rat}(ha:Nu i a p)(hb:Nu j b q):Nu (i+j+1) (Sp.Kw a b) (p-q):=⟨by unfold Sp.Kw;rw[ha.rat,hb.rat],ha.z.sub hb.z⟩
theorem Nu.Et{i j:Nat}{a b:List UInt8}{p q:Rat}(ha:Nu i a p)(hb:Nu j b q):Nu (i+j) (Sp.Et a b) (p*q):=⟨by unfold Sp.Et;rw[ha.rat,hb.rat],ha.z.mul hb.z⟩
theorem Nu.Mm{i j:Nat}{a b:List UInt8}{p q:Rat}(ha:Nu i a p)(hb:Nu j b q)(h0:q≠0):Nu (i+j) (Sp.Mm a b) (p/q):=⟨by unfold Sp.Mm;rw[ha.rat,hb.rat],ha.z.div hb.z h0⟩
theorem JW{q:Rat}{k:Nat}(h:DO k q):DO k (q.floor:Rat):=by
 obtain⟨h1,h2⟩:=h;have h3:=q.den_pos;unfold DO;rw[qk,ql,Rat.floor_def];refine⟨z8 (Int.natAbs_ediv_le_natAbs _ _) h1,by omega⟩
theorem pF{i j:Nat}{p q:Rat}(hp:DO i p)(hq:DO j q)(h0:q≠0):DO (i+j+1+1+j) (((p/q+1/2).floor:Rat)*q):=
 (JW ((hp.div hq h0).add IQ.z)).mul hq
theorem eZ{i j:Nat}{a u:List UInt8}{p q:Rat}(ha:Nu i a p)(hu:Nu j u q)(h0:0<q)(hs:i+j+1+1+j≤600):Nu (i+j+1+1+j) (DK a u) (((p/q+1/2).floor:Rat)*q)∧OE a u=0:=by
 have e:Jc a u=0:=by
  unfold Jc;rw[Nu.NU ha hu (by omega) (by omega),if_neg (by decide),hu.rat,if_neg (by rw[Rat.not_le];exact h0)]
 unfold DK OE rY;rw[e,ha.rat,hu.rat];exact Nu.op (pF ha.z hu.z (ye h0)) hs
theorem lJ{p q:Rat}(h0:0<q):¬p<((p/q+1/2).floor:Rat)*q-q*(1/2):=by
 rw[qh];have h1:=Rat.floor_le (p/q+1/2);have h2:=Rat.mul_le_mul_of_nonneg_right h1 (Rat.le_of_lt h0);rw[qo,yy (ye h0),Rat.mul_comm (1/2) q]at h2;exact Rat.sub_right_le_iff_le_add.2 h2
theorem iW{p q:Rat}(h0:0<q):p<((p/q+1/2).floor:Rat)*q+q*(1/2):=by
 have h1:=Rat.lt_floor_add_one (p/q+1/2);have h2:=Rat.mul_lt_mul_of_pos_right h1 h0;rw[qo,yy (ye h0),Rat.intCast_add,qo]at h2;have e:((1:Int):Rat)*q=1/2*q+q*(1/2):=by
  rw[Rat.mul_comm q (1/2), ←qo];congr 1;decide+kernel
 rw[e,Rat.add_comm (1/2*q), ←Rat.add_assoc]at h2;exact Rat.add_lt_add_right.1 h2
theorem Ve{n:Int}{q:Rat}(h0:0<q):(((n:Rat)*q/q+1/2).floor:Rat)*q=(n:Rat)*q:=by
 rw[Rat.mul_div_cancel (ye h0),Rat.add_comm,Rat.floor_add_intCast];have:(1/2:Rat).floor=0:=by decide+kernel
 rw[this,Int.zero_add]
theorem X3{i:Nat}{s:List UInt8}{n:Int}(h:Nu i s (n:Rat)):Jx s=true:=by
 unfold Jx;rw[h.t,(Ez _).2.2,ql];rfl
theorem mJ(p:Rat):p/(1143/1250)*(1143/1250)=p:=yy (by decide+kernel)
theorem rC{i:Nat}{a:List UInt8}{p:Rat}(ha:Nu i a p)(hs:i+4≤600):Nu (i+4) (KK a) (p/(1143/1250))∧Pn a=0:=by
 unfold KK Pn;rw[ha.check (by omega),ha.rat];exact Nu.op (ha.z.div SM.z (by decide+kernel)) hs
theorem qF{i:Nat}{a:List UInt8}{p:Rat}(ha:Nu i a p)(hs:i+4≤600):Nu (i+4) (Pp a) (p*(1143/1250))∧Pv a=0:=by
 unfold Pp Pv;rw[ha.check (by omega),ha.rat];exact Nu.op (ha.z.mul SM.z) hs
structure uF(a u:List UInt8):Prop where
 n:Dc a=true∧Dc (DK a u)=true∧Dc u=true∧dL u=true∧Dc (Mm (DK a u) u)=true∧Dc (Et u [49,47,50])=true∧Dc (Kw (DK a u) (Et u [49,47,50]))=true∧Dc (JA (DK a u) (Et u [49,47,50]))=true
 l:a.length≤1000000∧u.length≤1000000∧(DK a u).length≤1000000∧(Mm (DK a u) u).length≤1000000∧(KK a).length≤1000000
 x:OE a u=0
 c:AP (DK a u)=0
 w:Jx (Mm (DK a u) u)=true
 lo:SE (Kw (DK a u) (Et u [49,47,50])) a≤0
 hi:0<SE (JA (DK a u) (Et u [49,47,50])) a
 ae:OE (DK a u) u=0
 at_:DK (DK a u) u=DK a u
 y:Pn a=0
 m:Pv (KK a)=0
 b:Pp (KK a)=a
theorem Vu{a u:List UInt8}(fa:Jl a 60=true)(fu:Jl u 60=true)(h0:0<AW u):uF a u:=by
 obtain⟨na,ca⟩:=U7 (n:=60) fa;obtain⟨nu,cu⟩:=U7 (n:=60) fu;have hq:=ye h0;generalize AW a=p at*;generalize AW u=q at*;obtain⟨x,x0⟩:=eZ na nu h0 (by decide);obtain⟨ag,ag0⟩:=eZ x nu h0 (by decide);have dv:=x.Mm nu hq;have hf:=nu.Et IQ;have lo:=x.Kw hf;have hi:=x.JA hf;obtain⟨yd,yd0⟩:=rC na (by decide);obtain⟨mt,mt0⟩:=qF yd (by decide);refine⟨⟨na.Dc (by decide),x.Dc (by decide),nu.Dc (by decide),pY (nu.Dc (by decide)) (fun e=>hq ((nu.JJ (by decide)).1 e)),dv.Dc (by decide),hf.Dc (by decide),lo.Dc (by decide),hi.Dc (by decide)⟩,⟨na.len (by decide),nu.len (by decide),x.len (by decide),dv.len (by decide),yd.len (by decide)⟩,x0,x.check (by decide),?_,?_,?_,ag0,?_,yd0,mt0,?_⟩
 ·refine X3 (i:=_) (n:=(p/q+1/2).floor) ⟨?_,JW ((na.z.div nu.z hq).add IQ.z)⟩;rw[dv.t,Rat.mul_div_cancel hq]
 ·rw[Nu.cmp lo na];split
  ·decide
  ·rw[if_neg (lJ h0)];decide
 ·rw[Nu.cmp hi na];have h1:=iW (p:=p) h0;rw[if_neg (qh.2 (Rat.le_of_lt h1)),if_pos h1];decide
 ·rw[ag.t,x.t,Ve h0]
 ·exact mt.same na (mJ p)
end Go.Sp
end
section
namespace Go.Pe
open Sp
open Go.Det
theorem SQ:EX (Lz ((1,B1 1),(1,B1 1)) ((2,B1 2),(1,B1 1))) (1/2):=by
 have z1:=gO 1 (by decide);have z2:=gO 2 (by decide);have h0:((2:Int):Rat)≠0:=by decide+kernel
 exact EX.div (Xi 1 rfl) (Xi 2 rfl) (Ca z1 (by decide)) (Ca z2 (by decide)) (Ca (z2.inv h0) (by decide)) h0
theorem U0{n:Int}:Pd n≤0↔n≤0:=by
 unfold Pd;split
 ·omega
 ·split<;>omega
theorem XL{f:AA}{q:Rat}(h:EX f q){k:Nat}(z:DO k q)(hk:k≤4000):A5 (Ft f.1 f.2)=true∧Sp.vI (Ft f.1 f.2)=q.floor:=by
 have s:=Ca z hk;have hd:=h.den_pos;have hJ:=W9 h.n (by rw[h.vn];exact z7 s.1 (AI (by decide) (by decide)));have hv:Sp.vI (Ft f.1 f.2)=q.floor:=by rw[fN hd,h.vn,h.vd,Rat.floor_def]
 refine⟨W9 (We hJ hd) ?_,hv⟩;have e:=(JW z).1;rw[qk]at e;rw[hv];exact z7 (Q9 e) (AI (by decide) (by omega))
theorem VN(n:Int):zl n 1=(n:Rat):=by
 have:=Rat.num_divInt_den (n:Rat);rw[qk,ql]at this;exact this
namespace T40
theorem AU(a u:List UInt8)(p:rS a u)(n:AQ)(j1:A5 n=true)(j2:Sp.vI n=(AW a/AW u+1/2).floor)(zf:DO 1300 (((AW a/AW u+1/2).floor:Int):Rat))(e:Jc a u=0):Ends Uh (L2 n.1 n.2 (Mu u) (Mk u) (KN u) (Ka u)) (Af KR (a,u)):=by
 obtain⟨o1,o2⟩:=J3 (n:=1) rfl;have rm:=IP j1 o1 (by rw[o2];decide);rw[j2,o2,VN]at rm;have sf:=Ca zf (by decide);have rr:=EX.mul rm p.rb sf p.sb;have sr:=Ca (zf.mul p.zb) (by decide);have hn:(n.1,n.2)=n:=rfl;have hg:∀ob,Af KR (a,u) (.tup [.dat .str (KW (Pm (Sk n (1,B1 1)) (YT u))),.dat i64 (Lg (Pm (Sk n (1,B1 1)) (YT u)))]) ob:=fun ob=>zx rfl rfl (RS rr e)
 refine zm (A3 ..) ?_;conv=>zeta
 have fe:∀s:List UInt8,((Mu s,Mk s),(KN s,Ka s))=YT s:=fun _=>rfl
 simp only[hn,fe];exact zc rfl (zc (Ac (Ac j1 o1) (by rw[o2];rfl)) (zc (Ac (rm.Dj sf) (p.rb.Dj p.sb)) (zc (rr.E0 sr) (ze (hg _)))))
theorem Aj(a u:List UInt8)(p:rS a u)(he:NU a u=0):Ends Uh (L1 a u (Mu u) (Mk u) (KN u) (Ka u)) (Af KR (a,u)):=by
 have hs:dP (YT u)=Pd (AW u).num:=by
  show Pd (Sp.vI (YT u).1)=_;rw[p.rb.vn]
 obtain⟨k1,k2⟩:=Sp.neg_num (AW u);refine zm (As ..) (zc p.rb.n ?_);have fe:∀s:List UInt8,((Mu s,Mk s),(KN s,Ka s))=YT s:=fun _=>rfl
 simp only[fe];by_cases h0:AW u≤0
 ·have hn:(AW u).num≤0:=by
   rcases qf 0 (AW u).num with x|x
   ·exact absurd (k2.1 x) (qh.2 h0)
   ·exact x
  have e:Jc a u=3:=by unfold Jc;rw[he,if_neg (by decide),if_pos h0]
  refine zc (decide_eq_true (show dP (YT u)≤0 by rw[hs];exact U0.2 hn)) (ze (zx rfl rfl ?_));show(([]:List UInt8),(3:Int))=(QP (Jc a u) _,R5 (Jc a u) _);rw[e];exact NS (by decide) _
 ·have hp:0<AW u:=Rat.not_le.1 h0;have hn:0<(AW u).num:=k2.2 hp;have e:Jc a u=0:=by unfold Jc;rw[he,if_neg (by decide),if_neg h0]
  have hz:=ye hp;have zi:=p.zb.inv hz;have zd:=p.za.div p.zb hz;have za:=zd.add IQ.z;have rd:=EX.div p.ra p.rb p.sa p.sb (Ca zi (by decide)) hz;have sd:=Ca zd (by decide);have sh:=Ca IQ.z (by decide);have ra:=EX.add rd SQ sd sh;have sa:=Ca za (by decide);obtain⟨j1,j2⟩:=XL ra za (by decide);have l2:=AU a u p _ j1 j2 ((JW za).mono (by decide)) e;refine zk (decide_eq_false (show ¬dP (YT u)≤0 by rw[hs,U0];omega)) (zc p.ta (zc (Ac (Ac (p.ra.Dj p.sa) (p.rb.Dj p.sb)) (p.rb.GS.trans (decide_eq_true hz))) (zc rfl (zc rfl (zc rfl (zc (Ac (rd.Dj sd) (SQ.Dj sh)) (zc (ra.Dj sa) ?_)))))));generalize Ly (Lz (YT a) (YT u)) (Lz ((1,B1 1),(1,B1 1)) ((2,B1 2),(1,B1 1)))=X at*;exact l2
theorem ok:Ae AT 40 KR:=by
 refine Av (X:=Uh) rfl aJ (d:=9) (by kernel_rfl) (by kernel_rfl) (by kernel_rfl) (fun(i:List UInt8×List UInt8) hi=>?_) (Ad (by kernel_rfl));obtain⟨a,u⟩:=i;refine zp (Am a u) (zc (iM hi) (zh (fun c=>ze (zx rfl rfl ?_)) (fun c=>?_)))
 ·have c:Ga [a,u]≠0:=by simpa using c
  have c:NU a u≠0:=c;have e:Jc a u=NU a u:=by unfold Jc;rw[if_pos c]
  show(([]:List UInt8),NU a u)=(QP (Jc a u) _,R5 (Jc a u) _);rw[e];exact NS c _
 ·have c:Ga [a,u]=0:=by simpa using c
  have p:=jG c;exact zc p.tb (Aj a u p c)
end T40
theorem Rm:∀g sp,qZ.sp g=some sp→Ae AT g sp:=Aa T29.ok (fun g sp h=>by cases h)
theorem T38.ok:Ae AT 38 Wk:=by
 refine Av (X:=qZ) rfl Rm (d:=9) (by kernel_rfl) (by kernel_rfl) (by kernel_rfl) (fun(a:List UInt8) ha=>?_) (Ad (by kernel_rfl));exact zp (T38.Am a) (zc (Ac ha (oP.num (by decide))) (ze (zx rfl rfl rfl)))
theorem T39.ok:Ae AT 39 Th:=by
 refine Av (X:=qZ) rfl Rm (d:=9) (by kernel_rfl) (by kernel_rfl) (by kernel_rfl) (fun(a:List UInt8) ha=>?_) (Ad (by kernel_rfl));exact zp (T39.Am a) (zc (Ac ha (SM.num (by decide))) (ze (zx rfl rfl rfl)))
theorem T44.ok:Ae AT 44 nH:=by
 refine Av (X:=qZ) rfl Rm (d:=9) (by kernel_rfl) (by kernel_rfl) (by kernel_rfl) (fun(a:List UInt8) ha=>?_) (Ad (by kernel_rfl));exact zp (T44.Am a) (zc (Ac ha (IQ.num (by decide))) (ze (zx rfl rfl rfl)))
namespace T33
variable {Q:PV→Ob→Prop}
theorem bit{b r:Nat}(hb:b≤31)(hr:r<2^32)(hd:2^(b+1)∣r):TZ .u64 (zj .u64 (r:Int)) (zj .u64 (1*2^min (qq (b:Int)) 64))=((r+2^b:Nat):Int)∧r+2^b<2^32:=by
 obtain⟨k,rfl⟩:=hd;have hp:2^b<2^(b+1):=Nat.pow_lt_pow_right (by decide) (Nat.lt_succ_self b);have hp32:2^b≤2^31:=Nat.pow_le_pow_right (by decide) hb;have e32:(2:Nat)^32=4294967296:=rfl;have e31:(2:Nat)^31=2147483648:=rfl;have hlt:2^(b+1)*k+2^b<2^32:=by
  have hs:(2:Nat)^32=2^(b+1)*2^(31-b):=by rw[←Nat.pow_add];congr 1;omega
  rw[hs]at hr ⊢;have hk:k<2^(31-b):=Nat.lt_of_mul_lt_mul_left hr;have:=Nat.mul_le_mul_left (2^(b+1)) (show k+1≤2^(31-b)from hk);rw[Nat.mul_add,Nat.mul_one]at this;omega
 refine⟨?_,hlt⟩;have e1:(1:Int)*2^min (qq (b:Int)) 64=((2^b:Nat):Int):=by
  rw[yo,zn,Nat.min_eq_left (by omega),yt];rfl
 have w1:zj .u64 ((2^(b+1)*k:Nat):Int)=((2^(b+1)*k:Nat):Int):=wu _ (by omega) (by omega);have w2:zj .u64 ((2^b:Nat):Int)=((2^b:Nat):Int):=wu _ (by omega) (by omega);rw[e1,w1,w2];have e2:((2^(b+1)*k:Nat):Int)=(k:Int)*2^(b+1):=by rw[qj,yt,Int.mul_comm];rfl
 have e3:((2^(b+1):Nat):Int)=(2:Int)^(b+1):=yt ..;rw[e2,Q1 (s:=b+1) (by omega) (by omega) (by rw[←e3];omega) (by rw[←e2];omega), ←e2,Int.natCast_add]
theorem Aj(n:Int)(h0:0≤n)(h1:n<9223372036854775808)(hq:∀ob,Q (.tup [.dat i64 (BA n),.dat i64 0]) ob):∀(b r:Nat),b≤32→r<2^32→2^b∣r→Fb b n.toNat r=Fb 32 n.toNat 0→Ends Vb (L1 n (r:Int) ((b:Int)-1)) Q
 |0,r,hb,hr,hd,he=>by
  have e:BA n=(r:Int):=by
   unfold BA;rw[if_neg (by omega), ←he];rfl
  rw[e]at hq;exact zm (As ..) (zk (by decide) (ze (hq _)))
 |b+1,r,hb,hr,hd,he=>by
  have e1:(((b+1:Nat):Int)-1)=(b:Int):=by omega
  have hp32:2^32=4294967296:=rfl;obtain⟨g1,g2⟩:=bit (by omega) hr hd;have hd2:2^b∣r:=Nat.dvd_trans (Nat.pow_dvd_pow 2 (Nat.le_succ b)) hd;have hd3:2^b∣r+2^b:=Nat.dvd_add hd2 (Nat.dvd_refl _);have sq:(r+2^b)*(r+2^b)<18446744073709551616:=by
   have:(r+2^b)*(r+2^b)≤4294967295*4294967295:=Nat.mul_le_mul (by omega) (by omega);omega
  have w1:zj .u64 (((r+2^b:Nat):Int)*((r+2^b:Nat):Int))=(((r+2^b)*(r+2^b):Nat):Int):=by
   rw[←qj];exact wu _ (by omega) (by omega)
  have w2:zj .u64 n=n:=wu _ (by omega) (by omega);have ef:Fb (b+1) n.toNat r=if (r+2^b)*(r+2^b)≤n.toNat then Fb b n.toNat (r+2^b)else Fb b n.toNat r:=rfl
  rw[ef]at he;rw[e1];refine zm (As ..) ?_;conv=>zeta
  rw[g1,w1,w2,wr ((r+2^b:Nat):Int) (by omega) (by omega),wr ((b:Int)-1) (by omega) (by omega)];refine zc (decide_eq_true (by omega)) (zc (decide_eq_true (by omega)) (zh (fun c=>?_) (fun c=>?_)))
  ·have c:=of_decide_eq_true c;rw[if_pos (by omega)]at he;exact Aj n h0 h1 hq b _ (by omega) g2 hd3 he
  ·have c:=of_decide_eq_false c;rw[if_neg (by omega)]at he;exact Aj n h0 h1 hq b r (by omega) hr hd2 he
theorem ok:Ae AT 33 VY:=by
 refine Av (X:=Vb) rfl MP (d:=9) (by kernel_rfl) (by kernel_rfl) (by kernel_rfl) (fun(n:Int) hn=>?_) (Ad (by kernel_rfl));have hr:=Ce hn;refine zp (Am n) (zh (fun c=>ze (zx rfl rfl ?_)) (fun c=>?_))
 ·have c:=of_decide_eq_true c;show((0:Int),(3:Int))=(BA n,FF n);unfold BA FF;rw[if_pos c,if_pos c]
 ·have c:=of_decide_eq_false c;exact Aj n (by omega) (by omega) (fun ob=>zx rfl rfl (by
   show(BA n,(0:Int))=(BA n,FF n);unfold FF;rw[if_neg c])) 32 0 (by decide) (by decide) (Nat.dvd_zero _) rfl
end T33
namespace T37
theorem Aj{Q:PV→Ob→Prop}(n:Int)(h0:0≤n)(h1:n<9223372036854775808)(hq:∀ob,Q (.dat i64 (BA n)) ob):∀(f:Nat) (l h:Int),(h-l).toNat≤f→0≤l→l≤h→h≤3037000499→l*l≤n→n<(h+1)*(h+1)→Ends Vb (L1 n l h) Q
 |f,l,h,hf,l0,lh,h3,ha,hb=>by
  by_cases c:l<h
  ·have e1:zj .i64 (zj .i64 (l+h)+1)=l+h+1:=by rw[wr (l+h) (by omega) (by omega)];exact wr _ (by omega) (by omega)
   have e2:zj .i64 (qz (l+h+1) 2)=(l+h+1)/2:=by
    rw[zX (by omega)];exact wr _ (by omega) (by omega)
   have hm:l<(l+h+1)/2∧(l+h+1)/2≤h:=by omega
   have sq:(l+h+1)/2*((l+h+1)/2)≤3037000499*3037000499:=Int.mul_le_mul (by omega) (by omega) (by omega) (by omega);have sq0:0≤(l+h+1)/2*((l+h+1)/2):=yc (by omega) (by omega);refine zm (As ..) ?_;conv=>zeta
   rw[e1,e2,wr ((l+h+1)/2*((l+h+1)/2)) (by omega) (by omega)];generalize (l+h+1)/2=m at*;obtain⟨f',rfl⟩:∃f',f=f'+1:=⟨f-1,by omega⟩;refine zc (decide_eq_true c) (zc rfl (zh (fun d=>?_) (fun d=>?_)))
   ·exact Aj n h0 h1 hq f' m h (by omega) (by omega) hm.2 h3 (of_decide_eq_true d) hb
   ·have d:=of_decide_eq_false d;rw[wr (m-1) (by omega) (by omega)];exact Aj n h0 h1 hq f' l (m-1) (by omega) l0 (by omega) (by omega) ha (by rw[show m-1+1=m by omega];omega)
  ·have e:l=h:=by omega
   subst e;obtain⟨r1,_,r3,r4⟩:=PI h0 h1;have:=SJ r1 l0 r3 r4 ha hb;rw[this]at hq;exact zm (As ..) (zk (decide_eq_false c) (ze (hq _)))
theorem ok:Ae AT 37 Zm:=by
 refine Av (X:=Vb) rfl MP (d:=9) (by kernel_rfl) (by kernel_rfl) (by kernel_rfl) (fun(n:Int) hn=>?_) (Ad (by kernel_rfl));have hn:(BG n&&decide (0≤n))=true:=hn;rw[zg,decide_eq_true_eq]at hn;obtain⟨hn,h0⟩:=hn;have hr:=Ce hn;exact zp (Am n) (Aj n h0 (by omega) (fun ob=>zx rfl rfl rfl) 3037000499 0 3037000499 (by decide) (by decide) (by decide) (by decide) (by omega) (by omega))
end T37
end Go.Pe
end
section
namespace Go.Pe
open Sp
open Go.Det
noncomputable abbrev US:Ao:=Jv
noncomputable abbrev Q5:Ao:=LD
theorem jA:∀g sp,oG.sp g=some sp→Ae AT g sp:=Aa T16.ok (Aa Tt (Aa T32.ok (Aa T33.ok (Aa T34.ok (Aa T35.ok (Aa T36.ok (Aa T37.ok (Aa T38.ok (Aa T39.ok (Aa T24.ok (Aa T25.ok (fun g sp h=>by cases h))))))))))))
namespace T5
variable {Q:PV→Ob→Prop}
theorem AU(a:List UInt8)(la:a.length≤1300)(hq:∀ob,Q (.dat .bool true) ob):Ends oG (L2 a (KK a) (Pn a) (Pp a) (Pv a)) Q:=by
 refine zm (A3 ..) (zc (decide_eq_true (by omega)) (zh (fun c=>?_) (fun c=>?_)))
 ·have c:AP a≠0:=by simpa using c
  exact zc rfl (zc (Np c _ _) (zc rfl (zc (Np c _ _) (zc rfl (ze (hq _))))))
 ·have c:AP a=0:=by simpa using c
  have na:=cG c;have n1:=na.num (by decide);have l1:(wO a).length≤1000000:=HQ (DO.mul na.z (by rw[vE];exact oP.z)) (k:=600+4) (by decide);have l2:(wK a).length≤1000000:=HQ (DO.mul na.z (by rw[vU];exact SM.z)) (k:=600+4) (by decide);exact zc n1 (zc (decide_eq_true l1) (zc (iX c) (zc n1 (zc (decide_eq_true l2) (zc (jT c) (zc rfl (ze (hq _))))))))
theorem Aj(a:List UInt8)(n:Int)(hn:BG n=true)(la:a.length≤1300)(hq:∀ob,Q (.dat .bool true) ob):Ends oG (L1 a n (BA n) (FF n) (KK a) (Pn a) (Pp a) (Pv a)) Q:=by
 have h2:=AU (Q:=Q) a la hq;refine zm (As ..) (zh (fun c=>?_) (fun c=>?_))
 ·have c:=of_decide_eq_true c;have e1:BA n=0:=by unfold BA;rw[if_pos c]
  have e2:FF n=3:=by unfold FF;rw[if_pos c]
  rw[e1,e2];exact zk rfl (zk rfl (zk (decide_eq_false (by omega)) h2))
 ·have c:=of_decide_eq_false c;have e2:FF n=0:=by unfold FF;rw[if_neg c]
  rw[e2];exact zc (decide_eq_true (by omega)) (zc (Ac hn (decide_eq_true (by omega))) (zk (by simp) (zk rfl h2)))
set_option maxRecDepth 10000 in
theorem ok:Ae AT 5 Jv:=by
 refine Av (X:=oG) rfl jA (d:=9) (by kernel_rfl) (by kernel_rfl) (by kernel_rfl) (fun(i:List UInt8×Int×Int) hi=>?_) (Ad (by kernel_rfl));obtain⟨a,n,d⟩:=i;have hi:(BG n&&BG d)=true:=hi;have hi2:=hi;rw[zg]at hi2;have rn:=Ce hi2.1;have rd:=Ce hi2.2;have hq:∀ob,Af Jv (a,n,d) (.dat .bool true) ob:=fun ob=>zx rfl rfl rfl
 refine zp (Am a n d) (zc rfl (zh (fun _=>zc rfl (ze (hq _))) (fun c=>?_)));have la:a.length≤1300:=ZL c a (by simp);have h1:=Aj (Q:=Af Jv (a,n,d)) a n hi2.1 la hq;refine zc hi (zc hi2.1 (zc (decide_eq_true (by omega)) (zc (decide_eq_true (by omega)) (zh (fun c=>?_) (fun c=>?_)))))
 ·have c:d=0:=by simpa using c
  have e:Mt d=6:=by unfold Mt;rw[if_pos c]
  have t:=Np (e:=Mt d) (by rw[e];decide) (zl n d) [48];have t:Ea (X9 n d) (XX n d) [48] 6=true:=by rw[←e];exact t
  exact zc rfl (zk (by rw[t];rfl) h1)
 ·have c:d≠0:=by simpa using c
  have z:DO 20 (zl n d):=E9 c (by have:10^20=100000000000000000000:=rfl;omega) (by have:10^20=100000000000000000000:=rfl;omega);have l:(Cm n d).length≤1000000:=HQ z (by decide);exact zc (Ac hi (decide_eq_true c)) (zc (decide_eq_true l) (zk (by rw[jN c];rfl) h1))
end T5
theorem lP{u:List UInt8}(n:Bw u=true):Fp u≤0↔AW u≤0:=by
 have t:=(GN n).1;have h:=Lp (AW u);rw[t]at h;rw[h,U0];have k:=(Sp.neg_num (AW u)).2;constructor
 ·intro h;exact qh.1 (fun x=>by have:=k.2 x;omega)
 ·intro h;rcases qf 0 (AW u).num with x|x
  ·exact absurd (k.1 x) (qh.2 h)
  ·exact x
theorem jE:∀g sp,yG.sp g=some sp→Ae AT g sp:=Aa T31.ok (Aa Tt (Aa T40.ok (Aa T24.ok (Aa T43.ok (Aa T26.ok (Aa T44.ok (Aa T28.ok (Aa T27.ok (Aa T30.ok (Aa T34.ok (Aa T35.ok (Aa T33.ok (Aa T41.ok (fun g sp h=>by cases h))))))))))))))
set_option maxRecDepth 10000 in
theorem T7.ok:Ae AT 7 LD:=by
 refine Av (X:=yG) rfl jE (d:=9) (by kernel_rfl) (by kernel_rfl) (by kernel_rfl) (fun(i:List UInt8×List UInt8×Int) hi=>?_) (Ad (by kernel_rfl));obtain⟨a,u,n⟩:=i;have hn:BG n=true:=hi;have rn:=Ce hn;have hq:∀ob,Af LD (a,u,n) (.dat .bool true) ob:=fun ob=>zx rfl rfl rfl
 refine zp (T7.Am a u n) (zc rfl (zh (fun _=>zc rfl (ze (hq _))) (fun fa=>zc rfl (zh (fun _=>zc rfl (ze (hq _))) (fun fu=>?_)))));have fa:Jl a 60=true:=by simpa using fa
 have fu:Jl u 60=true:=by simpa using fu
 have nu:=(U7 (n:=60) fu).1;refine zc (decide_eq_true (nu.len (by decide))) (zh (fun _=>zc rfl (ze (hq _))) (fun s=>?_));have h0:0<AW u:=Rat.not_le.1 (fun h=>absurd ((lP (nu.num (by decide))).2 h) (of_decide_eq_false s));have f:=Vu fa fu h0;obtain⟨n1,n2,n3,n4,n5,n6,n7,n8⟩:=f.n;obtain⟨l1,l2,l3,l4,l5⟩:=f.l;have b:∀ {s:List UInt8},Dc s=true→Bw s=true:=fun h=>(Hc h).1
 have ok:∀ {x y:List UInt8},x.length≤1000000→y.length≤1000000→tC x y=true:=fun h k=>Ac (decide_eq_true h) (decide_eq_true k)
 have hf:PB u=Et u [49,47,50]:=rfl;rw[f.x,f.c,f.ae,f.y,f.m,f.b,f.at_,f.w,hf];refine zc (ok l1 l2) (zk rfl (zc (decide_eq_true l3) (zk rfl (zc (Ac (b n2) n4) (zc (decide_eq_true l4) (zk rfl (zc (b n3) (zc (Ac (b n2) n6) (zc (Ac (b n7) n1) (zk (decide_eq_false (by have:=f.lo;omega)) (zc (Ac (b n2) (b n6)) (zc (Ac (b n8) n1) (zk (decide_eq_false (by have:=f.hi;omega)) (zc (ok l3 l2) (zc (decide_eq_true l1) (zk rfl (zk (by simp) (zc (decide_eq_true l5) (zk rfl (zk (by simp) (zh (fun _=>zc rfl (ze (hq _))) (fun c=>?_))))))))))))))))))))));have c:=of_decide_eq_false c;obtain⟨r1,r2,r3,r4⟩:=PI (n:=n) (by omega) (by omega);have e2:FF n=0:=by unfold FF;rw[if_neg c]
 have e4:(BA n+1)*(BA n+1)=BA n*BA n+2*BA n+1:=by rw[Int.add_mul,qm,yo,Int.mul_one];omega
 have r0:0≤BA n*BA n:=yc r1 r1;rw[e4]at r4;rw[e2];rw[wr (BA n*BA n) (by omega) (by omega),wr (n-BA n*BA n) (by omega) (by omega),wr (2*BA n) (by omega) (by omega)];exact zc hn (zk rfl (zk (decide_eq_false (by omega)) (zk (decide_eq_false (by omega)) (zk (decide_eq_false (by omega)) (zc (decide_eq_true (by omega)) (zc rfl (ze (hq _))))))))
end Go.Pe
end
section
namespace Go.Det
open Go.ChangeShapes Go.WideShapes Go.RowKit
theorem BV{α β:Type}{f g:α→Option β}:∀ {l:List α} {ys:List β},l.mapM f=some ys→(∀a∈l,∀y∈ys,f a=some y→g a=some y)→l.mapM g=some ys
 |[],ys,h,_=>by simpa using h
 |a::l,ys,h,hg=>by
  rw[List.mapM_cons]at h ⊢;cases hf:f a with
  |none=>rw[hf]at h;cases h
  |some y=>
   rw[hf]at h;cases hl:l.mapM f with
   |none=>rw[hl]at h;cases h
   |some zs=>
    rw[hl]at h;cases h;rw[hg a (by simp) y (by simp) hf,BV hl (fun b hb z hz hfz=>hg b (by simp[hb]) z (by simp[hz]) hfz)];rfl
def ZX(P:Program)(L:List TypeId)(t:TypeId):Bool:=match P.underlying t with
 |some (.pointer e)|some (.array _ e)|some (.map _ e)=>L.contains e
 |some (.slice e)=>L.contains e&&Nat.ble 1 (P.cellsOf e)
 |some (.struct fs)=>fs.toList.all fun f=>L.contains f.type
 |_=>true
def Kn(P:Program)(L:List TypeId):Bool:=L.all (ZX P L)
section
variable {H:Type}{enc:TypeId×Value→H}{P:Program}{W W':World}
theorem mX{L:List TypeId}(h:Kn P L=true){t:TypeId}(ht:t∈L):ZX P L t=true:=yi.1 h t ht
theorem UC(hb:Below W.heap.size W W'){a:Addr}{v:Value}(h:W.cell? a=some v):W'.cell? a=some v:=by
 have hl:a.block<W.heap.size:=by
  unfold qp at h;by_cases hh:a.block<W.heap.size
  ·exact hh
  ·rw[zT (by omega)]at h;cases h
 unfold qp at h ⊢;rw[hb.block _ hl];exact h
theorem SC(hb:Below W.heap.size W W'){a:Addr}{n:Nat}{cs:List Value}(h:W.cells? 0 a n=some cs):W'.cells? 0 a n=some cs:=by
 unfold World.cells? at h ⊢;rw[if_pos (Nat.zero_le _)]at h ⊢;exact BV h fun i _ v _ hv=>UC hb hv
theorem Gj(hb:Below W.heap.size W W'){β:Type}{a:Addr}{n:Nat}{f g:List Value→Option β}{y:β}(h:(W.cells? 0 a n).bind f=some y)(hfg:∀cs,f cs=some y→g cs=some y):(W'.cells? 0 a n).bind g=some y:=by
 cases hc:W.cells? 0 a n with
 |none=>rw[hc]at h;cases h
 |some cs=>
  rw[hc]at h;rw[SC hb hc];exact hfg cs h
theorem No(hb:Below W.heap.size W W'){L:List TypeId}(hz:Kn P L=true){sp:Nat→Bool}:∀(fuel:Nat) (t:TypeId) (cs:List Value) (x:DataW H×List MemPlace),t∈L→
  zw enc P W 0 (fun _=>true) true fuel t cs=some x→(∀p∈x.2,sp p.block=true)→zw enc P W' 0 sp true fuel t cs=some x
 |0,_,_,_,_,h,_=>by cases h
 |fuel+1,t,cs,x,ht,h,hs=>by
  have ih:=No hb hz (sp:=sp) fuel;have hk:=mX hz ht;unfold ZX at hk;unfold zw at h ⊢;split at h<;>try simp only[reduceCtorEq]at h
  all_goals try exact h
  case h_6 e a hu=>
   have hke:e∈L:=by rw[hu]at hk;simpa using hk
   cases hm:(W.cells? 0 a (P.cellsOf e)).bind (zw enc P W 0 (fun _=>true) true fuel e)with
   |none=>rw[hm]at h;cases h
   |some y=>
    rw[hm]at h;cases h;rw[Gj hb hm (g:=zw enc P W' 0 sp true fuel e) (fun cs hc=>ih e cs y hke hc (fun p hp=>hs p (by simp[hp])))];rfl
  case h_8 e a len cap hu=>
   have hke:e∈L∧P.cellsOf e≠0:=by
    rw[hu]at hk;simp only[zg,List.contains_iff_mem]at hk;have:=Nat.le_of_ble_eq_true hk.2;exact⟨hk.1,by omega⟩
   by_cases hc:0≤a.block∧len≤cap∧cap≤maxLen
   ·rw[if_pos hc]at h ⊢;have step:∀(i:Nat) (y:DataW H×List MemPlace),(W.cells? 0 (a.add (i*P.cellsOf e)) (P.cellsOf e)).bind (zw enc P W 0 (fun _=>true) true fuel e)=some y→(∀p∈y.2,sp p.block=true)→
      (W'.cells? 0 (a.add (i*P.cellsOf e)) (P.cellsOf e)).bind (zw enc P W' 0 sp true fuel e)=some y:=fun i y hy hp=>Gj hb hy fun cs hc=>ih e cs y hke.1 hc hp
    cases h1:(qw len).mapM (fun i=>(W.cells? 0 (a.add (i*P.cellsOf e)) (P.cellsOf e)).bind (zw enc P W 0 (fun _=>true) true fuel e))with
    |none=>rw[h1]at h;cases h
    |some ys=>
     rw[h1]at h;simp only[if_true,zR]at h;cases h2:(qw (cap-len)).mapM (fun j=>(W.cells? 0 (a.add ((len+j)*P.cellsOf e)) (P.cellsOf e)).bind (zw enc P W 0 (fun _=>true) true fuel e))with
     |none=>rw[h2]at h;cases h
     |some zs=>
      rw[h2]at h;cases h;rw[BV h1 fun i _ y hy hi=>step i y hi fun p hp=>hs p (yh _ (zZ.2 ⟨y,yp _ hy,hp⟩))];have h2':=BV h2 fun j _ y hy hj=>step (len+j) y hj fun p hp=>hs p (yh _ (zZ.2 ⟨y,yh _ hy,hp⟩))
      by_cases hsp:sp a.block=true
      ·simp only[hsp,if_true,zR];rw[h2'];rfl
      ·have e0:(ys.length+zs.length)*P.cellsOf e=0:=by
        rcases Nat.eq_zero_or_pos ((ys.length+zs.length)*P.cellsOf e)with h0|h0
        ·exact h0
        ·refine absurd (hs (.cell a.block (a.off+0)) (yp _ ?_)) hsp;simp only[MemPlace.row,List.mem_map,List.mem_range];exact⟨0,h0,rfl⟩
       have e1:zs=[]:=by
        rcases Nat.mul_eq_zero.1 e0 with h0|h0
        ·exact zN.1 (by omega)
        ·exact absurd h0 hke.2
       subst e1;simp only[hsp,zR];rfl
   ·rw[if_neg hc]at h;cases h
  case h_9 cs _ _ fs hu=>
   have hke:∀f∈fs.toList,f.type∈L:=by
    rw[hu]at hk;intro f hf;have:=yi.1 hk f hf;simpa using this
   by_cases hc:cs.length=P.cellsOf t
   ·rw[if_pos hc]at h ⊢;cases h1:fs.toList.mapM (fun f=>zw enc P W 0 (fun _=>true) true fuel f.type ((cs.drop f.offset).take (P.cellsOf f.type)))with
    |none=>rw[h1]at h;cases h
    |some ys=>
     rw[h1]at h;cases h;rw[BV h1 fun f hfm y hy hf=>ih _ _ y (hke f hfm) hf fun p hp=>hs p (zZ.2 ⟨y,hy,hp⟩)];rfl
   ·rw[if_neg hc]at h;cases h
  case h_10 cs _ _ n e hu=>
   have hke:e∈L:=by rw[hu]at hk;simpa using hk
   by_cases hc:cs.length=P.cellsOf t
   ·rw[if_pos hc]at h ⊢;cases h1:(qw n).mapM (fun i=>zw enc P W 0 (fun _=>true) true fuel e ((cs.drop (i*P.cellsOf e)).take (P.cellsOf e)))with
    |none=>rw[h1]at h;cases h
    |some ys=>
     rw[h1]at h;cases h;rw[BV h1 fun f _ y hy hf=>ih _ _ y hke hf fun p hp=>hs p (zZ.2 ⟨y,hy,hp⟩)];rfl
   ·rw[if_neg hc]at h;cases h
  case h_14 k e b hu=>
   have hke:e∈L:=by rw[hu]at hk;simpa using hk
   have hl:b<W.heap.size:=by
    by_cases hh:b<W.heap.size
    ·exact hh
    ·rw[zT (by omega)]at h;cases h
   rw[hb.block _ hl];split at h
   case h_2=>cases h
   rename_i es clock hes;simp only;split at h
   case isFalse=>cases h
   rename_i hcond;rw[if_pos hcond];cases h1:(es.toList.mapM fun x=>(keyOf P k x.key).bind fun key=>if x.val.formed P e then(zw enc P W 0 (fun _=>true) true fuel e x.val.cells.toList).map fun y=>((key,y.1),y.2)else none)with
   |none=>rw[h1]at h;cases h
   |some ys=>
    rw[h1]at h;simp only[zR]at h;split at h
    case isFalse=>cases h
    rename_i hri;cases h;rw[BV h1 fun en _ y hy hf=>?_]
    ·simp only[zR];rw[if_pos hri]
    ·cases hk:keyOf P k en.key with
     |none=>rw[hk]at hf;cases hf
     |some key=>
      rw[hk]at hf;simp only[zR]at hf ⊢;split at hf
      case isFalse=>cases hf
      rename_i hfo;rw[if_pos hfo];cases htt:zw enc P W 0 (fun _=>true) true fuel e en.val.cells.toList with
      |none=>rw[htt]at hf;cases hf
      |some u=>
       rw[htt]at hf;cases hf;rw[ih _ _ u hke htt fun p hp=>hs p (by simp only[List.mem_cons,zZ];exact .inr ⟨_,hy,hp⟩)];rfl
theorem Vv(hb:Below W.heap.size W W'){L:List TypeId}(hz:Kn P L=true){sp:Nat→Bool}{t:TypeId}{v:Value}{d:DataW H}{p:List MemPlace}
  (ht:t∈L) (h:qx enc P W 0 (fun _=>true) true t v d p) (hs:∀q∈p,sp q.block=true):qx enc P W' 0 sp true t v d p:=by
 obtain⟨fuel,hf⟩:=h;exact⟨fuel,No hb hz fuel t _ _ ht hf hs⟩
theorem Gc(hb:Below W.heap.size W W'){L:List TypeId}(hz:Kn P L=true){sp:Nat→Bool}:∀ {ts:List TypeId} {vs:List Value} {ds:List (DataW H)} {p:List MemPlace},(∀t∈ts,t∈L)→
  ym enc P W 0 (fun _=>true) true ts vs ds p→(∀q∈p,sp q.block=true)→ym enc P W' 0 sp true ts vs ds p
 |[],vs,ds,p,_,h,_=>by
  obtain⟨rfl,rfl,rfl⟩:=trodAll_nil h;rfl
 |t::ts,vs,ds,p,hl,h,hs=>by
  obtain⟨v,vs1,d,ds1,a,b,rfl,rfl,rfl,h1,h2⟩:=trodAll_cons h;exact⟨a,b,Vv hb hz (hl t (by simp)) h1 (fun q hq=>hs q (by simp[hq])),Gc hb hz (fun u hu=>hl u (by simp[hu])) h2 (fun q hq=>hs q (by simp[hq])),rfl⟩
theorem Qf{f:Func}{s:ChangeSpec}{apart fresh handsOn again:Bool}{args:Array Value}{ds gs:List (DataW H)}{before:List MemPlace}{tb:TypeId}
  (hW:DataW.Whole enc P f.params.toList s.vars apart W args.toList ds gs before) (hv:s.vars=[]) (hr:f.resultTypes= #[tb]) (ht:P.underlying tb=some .bool)
  (hfn:s.fn H ds={ results:=[.lit (.bool true)],args:=ds }) (hb:Below W.heap.size W W') {L:List TypeId} (hz:Kn P L=true) (hl:f.params.toList.all L.contains=true):
  s.post enc P f apart fresh handsOn again W args (.bool true) W':=by
 have hlt:=hW.lt;have hl:∀t∈f.params.toList,t∈L:=fun t ht=>by have:=yi.1 hl t ht;simpa using this
 obtain⟨p,q,hA,hV,rfl,hfz,hnd⟩:=hW;have hV':=hV;rw[hv]at hV';obtain⟨rfl,rfl⟩:=trodVars_none hV';simp only[List.append_nil]at hlt hfz hnd ⊢;have hold:∀x∈p,(fun b=>decide (b<W.heap.size)) x.block=true:=fun x hx=>by simpa using hlt x hx
 have hW0:DataW.Whole enc P f.params.toList s.vars apart W args.toList ds [] p:=⟨p,[],hA,hV,by simp,hfz,hnd⟩;have hres:∀(b:Nat) (sp:Nat→Bool) (hd:Bool),ym enc P W' b sp hd f.resultTypes.toList ((Value.bool true).resultList f.resultTypes.size) [.lit (.bool true)] []:=by
  intro b sp hd;rw[hr];exact⟨[],[],shut_bool ht true,rfl,rfl⟩
 have hok:∀(j:Nat) (t:TypeId) (r:Value),f.resultTypes[j]?=some t→((Value.bool true).resultList f.resultTypes.size)[j]?=some r→yf P W' .any 0 t r:=by
  exact ok_one hr rfl (okWide_bool_mk ht true)
 have hvars:∀sp:Nat→Bool,DataW.TrodVars enc P W' sp s.vars [] []:=fun sp=>by rw[hv];rfl
 have hfn:s.fn H (ds++[])={ results:=[.lit (.bool true)],args:=ds }:=by rw[List.append_nil];exact hfn
 refine⟨ds,[],p,[],p,[],hW0,?_,?_,?_,World.keptBut_mono (fun x hx=>⟨hx,.inr (.inl hx)⟩) (hb.frame (· ∈p)),fun _=>?_⟩
 ·rw[hfn];exact hres _ _ _
 ·rw[hfn];exact Gc hb hz hl hA hold
 ·rw[hfn];exact hvars _
 ·refine⟨hok,_,_,([]++p)++[],⟨[]++p,[],trodAll_append (Gc hb hz hl hA (fun _ _=>rfl)) (hres _ _ _),hvars _,rfl,?_,?_⟩,?_⟩
  ·intro b off hp;have hp:MemPlace.cell b off∈p:=by simpa using hp
   rw[hb.frozen (show b<W.heap.size from hlt _ hp)];exact hfz b off hp
  ·intro ha;simpa using hnd ha
  ·intro x hx _;simpa using hx
end
end Go.Det
end
section
namespace Go.Det
noncomputable section
def MS(k:Nat):Value→V
 | .bool b=>.bool b
 | .int q n=>.int q n
 | .string s=>.str s.data.toList
 | .pointer none=>.nilp
 | .slice none 0 0=>.nils
 | .slice (some _) 0 0=>.es0
 | .slice (some ⟨r,off,none⟩) len cap=>if r<k∧len≤cap then .sl r off len cap 0 else .junk
 | .map none=>.nilm
 | .nilFunc=>.nilf
 | .nilIface=>.nili
 |_=>.junk
def oU(W:World)(r:Nat):Nat:=match W.heap[r]? with
 |some (.cells c _ _)=>c.size
 |_=>0
def pW(W:World):Pl:=(qw W.heap.size).map fun r=>(r,oU W r)
theorem Lt{W:World}{r:Nat}(h:r<W.heap.size):(pW W)[r]?=some (r,oU W r):=by
 simp[pW,h]
def NY(W:World)(r:Nat):Option O:=match W.heap[r]? with
 |some (.cells c t _)=>if c.size=0 then none else some (.cells (c.toList.map (MS W.heap.size)) t (0,c.size))
 |_=>none
def YX(W:World):Nat→H
 |0=>⟨.leaf,0⟩
 |n+1=>⟨(YX W n).m.set n (NY W n),n+1⟩
theorem lX(W:World):∀n,(YX W n).nx=n
 |0=>rfl
 |_+1=>rfl
theorem Tq(W:World):∀(n b:Nat),(YX W n).get b=if b<n then NY W b else none
 |0,b=>by simp[YX,H.get]
 |n+1,b=>by
  have ih:=Tq W n b;unfold H.get at ih ⊢;simp only[YX,PM.CN];by_cases e:b=n
  ·subst e;simp
  ·rw[if_neg e,ih];by_cases h:b<n
   ·rw[if_pos h,if_pos (by omega)]
   ·rw[if_neg h,if_neg (by omega)]
def hW(W:World):H:=YX W W.heap.size
theorem Nh(W:World)(b:Nat):(hW W).get b=NY W b:=by
 unfold hW;rw[Tq];by_cases h:b<W.heap.size
 ·rw[if_pos h]
 ·rw[if_neg h];unfold NY;rw[zT (by omega)]
theorem Q2{W:World}{v:Value}(h:(MS W.heap.size v).ok=true):Ab (pW W) (MS W.heap.size v) v:=by
 revert h;unfold MS;split<;>intro h
 case h_6=>simp only[Ab];exact⟨_,rfl⟩
 case h_7 r off len cap _=>
  split
  ·rename_i hc;simp only[Ab];exact⟨r,_,cap,Lt hc.1,rfl,hc.2,zy _,fun _=>rfl,fun e=>absurd rfl e⟩
  ·rename_i hc;rw[if_neg hc]at h;cases h
 case h_11=>cases h
 all_goals simp only[Ab]
 all_goals rfl
theorem yR(W:World):R (pW W) (hW W) W:=by
 refine⟨by simp[pW,hW,lX],fun b o hb=>?_,fun b b' o o' r n n' hb hb' h1 h2=>?_⟩
 ·rw[Nh]at hb;unfold NY at hb;split at hb
  case h_2=>cases hb
  rename_i c t fz hc;split at hb
  case isTrue=>cases hb
  cases hb;have hlt:b<W.heap.size:=(zt.1 hc).1;have hs:oU W b=c.size:=by unfold oU;rw[hc]
  refine⟨b,c.size,_,by rw[Lt hlt,hs],hc,c,fz,rfl,rfl,by simp,⟨by simp,fun i d v hd hv hok=>?_⟩,fun i hi h1 h2=>⟨Nat.zero_le _,hi⟩⟩;rw[List.getElem?_map]at hd;rw[List.length_map,y7 (by have:=(List.getElem?_eq_some_iff.1 hv).1;simp at this;simpa using this)]at hv;rw[hv]at hd;cases hd;exact Q2 hok
 ·have key:∀b o r n,(hW W).get b=some o→(pW W)[b]?=some (r,n)→r=b:=by
   intro b o r n hb h1;rw[Nh]at hb;have hlt:b<W.heap.size:=by
    unfold NY at hb;by_cases h:b<W.heap.size
    ·exact h
    ·rw[zT (by omega)]at hb;cases hb
   rw[Lt hlt]at h1;cases h1;rfl
  rw[←key b o r n hb h1, ←key b' o' r n' hb' h2]
theorem kK{W W':World}{p':Pl}{h':H}(he:Ext (pW W) (hW W) W p' h' W'):RowKit.Below W.heap.size W W':=by
 refine⟨he.os,he.tape,he.out,he.size,fun k hk=>?_⟩;by_cases hi:Im (pW W) (hW W) k
 ·obtain⟨b,o,n,h1,h2⟩:=hi;have h1':=h1;rw[Nh]at h1';unfold NY at h1';split at h1'
  case h_2=>cases h1'
  rename_i c t fz hc;split at h1'
  case isTrue=>cases h1'
  rename_i h0;cases h1';have hlt:b<W.heap.size:=(zt.1 hc).1;have hs:oU W b=c.size:=by unfold oU;rw[hc]
  rw[Lt hlt,hs]at h2;cases h2;exact(he.lock _ hk ⟨_,_,_,_,_,h1,by rw[Lt hlt,hs],rfl,zy _,Nat.pos_of_ne_zero h0⟩).1
 ·exact he.same k hk hi
end
end Go.Det
end
section
namespace Go.Pe
open Go.Det
noncomputable section
def FW(W:World):Fz:=fun b=>match (hW W).get b with
 |some (.cells cs _ _)=>some cs
 |_=>none
def Sl:(s:Sh)→s.T→Prop
 | .int k,x=>k.min≤(x:Int)∧(x:Int)≤k.max
 | .bool,_=>True
 | .str,x=>(x:List UInt8).length≤maxLen
 | .list s,l=>(l:List s.T).length≤maxLen∧∀x∈(l:List s.T),Sl s x
 | .pair a b,x=>Sl a x.1∧Sl b x.2
 | .unit,_=>True
 | .nlist _,_=>True
 | .fnv,_=>True
def fU(P:Program)(f:TypeId→Option Sh):Nat→List Field→Option Sh
 |_,[]=>some .unit
 |o,[x]=>match f x.type with
  |some s=>bif yg x.offset o&&yg (P.cellsOf x.type) s.sz then some s else none
  |none=>none
 |o,x::y::l=>match f x.type with
  |some s=>bif yg x.offset o&&yg (P.cellsOf x.type) s.sz then(fU P f (o+s.sz) (y::l)).map (.pair s)else none
  |none=>none
def sY(P:Program):Nat→TypeId→Option Sh
 |0,_=>none
 |f+1,t=>match P.underlying t with
  |some (.int k)=>some (.int k)
  |some .bool=>some .bool
  |some .string=>some .str
  |some (.slice e)=>match sY P f e with
   |some s=>bif yg (P.cellsOf e) s.sz&&Nat.blt 0 s.sz then some (.list s)else none
   |none=>none
  |some (.struct fs)=>match fU P (sY P f) 0 fs.toList with
   |some s=>bif yg (P.cellsOf t) s.sz then some s else none
   |none=>none
  |_=>none
section
variable {H:Type}{enc:TypeId×Value→H}{P:Program}{W:World}
theorem cP{r:Nat}{c:Array Value}{t:TypeId}{fz:Nat×Nat}(h:W.heap[r]?=some (.cells c t fz))(h0:c.size≠0):FW W r=some (c.toList.map (MS W.heap.size)):=by
 unfold FW;rw[Nh];unfold NY;rw[h];simp only[if_neg h0]
theorem PJ{a:Addr}{n:Nat}{cs:List Value}(h:W.cells? 0 a n=some cs)(hn:0<n):
  ∃c t fz,W.heap[a.block]?=some (.cells c t fz)∧a.spot=none∧a.off+n≤c.size∧cs=(c.toList.drop a.off).take n:=by
 unfold World.cells? at h;rw[if_pos (Nat.zero_le _)]at h;have hl:=mapM_some_length h;have hg:=mapM_some_get h;simp only[List.length_range]at hl;have h0:=hg 0 0 (by simp[hn]);have ha0:a.add 0=a:=by simp[jf]
 rw[ha0]at h0;obtain⟨v0,hv0⟩:∃v,cs[0]?=some v:=⟨cs[0],zM (by omega)⟩;rw[hv0]at h0;unfold qp at h0;split at h0
 case h_2=>cases h0
 rename_i c t fz hb;split at h0
 case isTrue=>cases h0
 rename_i hs;have hs:a.spot=none:=by simpa using hs
 have hc:∀i,i<n→c[a.off+i]?=cs[i]?:=by
  intro i hi;have:=hg i i (by simp[hi]);unfold qp at this;have hb':(a.add i).block=a.block:=by unfold jf;split<;>rfl
  have hs':(a.add i).spot=none:=by unfold jf;split<;>simp[hs]
  have ho':(a.add i).off=a.off+i:=by unfold jf;split<;>simp_all
  rw[hb',hb]at this;simpa [hs',ho']using this
 refine⟨c,t,fz,hb,hs,?_,?_⟩
 ·have:=hc (n-1) (by omega);rw[zM (by omega)]at this;have:=(zt.1 this).1;omega
 ·apply List.ext_getElem?;intro i;by_cases hi:i<n
  ·rw[←hc i hi,y7 hi,List.getElem?_drop];simp
  ·rw[zz (by omega),zz (by simp;omega)]
theorem XC{α:Type}{p:Nat→α→Prop}:∀n:Nat,(∀i,i<n→∃x,p i x)→∃l:List α,l.length=n∧∀i (h:i<l.length),p i l[i]
 |0,_=>⟨[],rfl,fun i h=>absurd h (Nat.not_lt_zero _)⟩
 |n+1,h=>by
  obtain⟨l,h1,h2⟩:=XC n fun i hi=>h i (by omega)
  obtain⟨x,hx⟩:=h n (by omega);refine⟨l++[x],by simp[h1],fun i hi=>?_⟩;by_cases e:i<l.length
  ·rw[List.getElem_append_left e];exact h2 i e
  ·have:i=n:=by simp at hi;omega
   subst this;rw[List.getElem_append_right (by omega)];simpa [h1]using hx
theorem Qr{f:TypeId→Option Sh}{n:Nat}{cs:List Value}
  (ih:∀(t:TypeId) (s:Sh) (cs:List Value) (y:DataW H×List MemPlace),f t=some s→zw enc P W 0 (fun _=>true) true n t cs=some y→∃x:s.T,DC (FW W) s x (cs.map (MS W.heap.size))∧Sl s x):
  ∀(fs:List Field) (o:Nat) (s:Sh),fU P f o fs=some s→(∀x∈fs,∃z,zw enc P W 0 (fun _=>true) true n x.type ((cs.drop x.offset).take (P.cellsOf x.type))=some z)→
   ∃x:s.T,DC (FW W) s x (((cs.map (MS W.heap.size)).drop o).take s.sz)∧Sl s x
 |[],o,s,hs,_=>by
  cases hs;exact⟨(),by simp[DC,Sh.sz],trivial⟩
 |[x],o,s,hs,hx=>by
  unfold fU at hs;split at hs
  case h_2=>cases hs
  rename_i s' hs';cases hc:(yg x.offset o&&yg (P.cellsOf x.type) s'.sz)with
  |false=>rw[hc]at hs;cases hs
  |true=>
  rw[hc]at hs;cases hs;simp only[zg]at hc;obtain⟨z,hz⟩:=hx x (by simp);rw[zK hc.1,zK hc.2]at hz;have:=ih _ _ _ _ hs' hz;simpa [qu,qv]using this
 |x::x'::l,o,s,hs,hx=>by
  unfold fU at hs;split at hs
  case h_2=>cases hs
  rename_i s' hs';cases hc:(yg x.offset o&&yg (P.cellsOf x.type) s'.sz)with
  |false=>rw[hc]at hs;cases hs
  |true=>
  rw[hc]at hs;simp only[cond_true,Option.map_eq_some_iff]at hs;obtain⟨s2,h2,rfl⟩:=hs;simp only[zg]at hc;obtain⟨z,hz⟩:=hx x (by simp);rw[zK hc.1,zK hc.2]at hz;obtain⟨a,a1,a2⟩:=ih _ _ _ _ hs' hz;obtain⟨b,b1,b2⟩:=Qr ih (x'::l) (o+s'.sz) s2 h2 (fun u hu=>hx u (List.mem_cons_of_mem _ hu));refine⟨(a,b),?_,a2,b2⟩;simp only[DC];refine⟨_,_,?_,a1,b1⟩;rw[qu,qv, ←List.drop_drop];exact List.take_add
theorem R6:∀(k fuel:Nat) (t:TypeId) (s:Sh) (cs:List Value) (y:DataW H×List MemPlace),sY P k t=some s→zw enc P W 0 (fun _=>true) true fuel t cs=some y→
  ∃x:s.T,DC (FW W) s x (cs.map (MS W.heap.size))∧Sl s x
 |0,_,_,_,_,_,hs,_=>by cases hs
 |k+1,fuel,t,s,cs,y,hs,h=>by
  have ih:=R6 k;unfold sY at hs;split at hs
  case h_1 q hu=>
   cases hs;obtain⟨n,rfl,_,hw⟩:=DataW.trod_int hu h;exact⟨(n:Int),by simp[DC,MS],by simpa [Sl,Lit.wf]using hw⟩
  case h_2 hu=>
   cases hs;obtain⟨b,rfl,_⟩:=DataW.trod_bool hu h;exact⟨b,by simp[DC,MS],trivial⟩
  case h_3 hu=>
   cases hs;obtain⟨b,rfl,_,hw⟩:=DataW.trod_string hu h;exact⟨b.data.toList,by simp[DC,MS],by show b.data.toList.length≤maxLen;rw[Array.length_toList];exact hw⟩
  case h_4 e hu=>
   split at hs
   case h_2=>cases hs
   rename_i s' hs';cases hc:(yg (P.cellsOf e) s'.sz&&Nat.blt 0 s'.sz)with
   |false=>rw[hc]at hs;cases hs
   |true=>
   rw[hc]at hs;cases hs;simp only[zg]at hc;have hsz:=zK hc.1;have hpos:=Nat.le_of_ble_eq_true hc.2;rcases DataW.trod_slice hu h with⟨rfl,_⟩|⟨a,len,cap,elems,rest,n,rfl,rfl,_,_,hlc,hcm,hel,he,hr,_⟩
   ·exact⟨[],by simp[DC,MS],by simp[Sl]⟩
   ·obtain⟨hrl,hr⟩:=hr rfl;rw[hsz]at he hr;by_cases h0:cap=0
    ·obtain rfl:len=0:=by omega
     subst h0;exact⟨[],by simp[DC,MS],by simp[Sl]⟩
    ·
     have all:∀i,i<cap→∃ci z,W.cells? 0 (a.add (i*s'.sz)) s'.sz=some ci∧zw enc P W 0 (fun _=>true) true n e ci=some z:=by
      intro i hi;by_cases hl:i<len
      ·have h1:=he i hl;rw[zM (by omega)]at h1;rw[qc]at h1;obtain⟨ci,h2,h3⟩:=h1;exact⟨ci,_,h2,h3⟩
      ·have h1:=hr (i-len) (by omega);rw[show len+(i-len)=i by omega,zM (by omega)]at h1;rw[qc]at h1;obtain⟨ci,h2,h3⟩:=h1;exact⟨ci,_,h2,h3⟩
     obtain⟨c0,z0,g0,_⟩:=all 0 (by omega);rw[Nat.zero_mul,show a.add 0=a from by simp[jf]]at g0;obtain⟨c,tc,fz,hb,hsp,hoff,_⟩:=PJ g0 hpos;have hlt:a.block<W.heap.size:=(zt.1 hb).1;have hF:=cP hb (by omega);obtain⟨ab,ao,ax⟩:=a;simp only at hsp hb hoff hlt hF;subst hsp;have cell:∀i,i<cap→ao+i*s'.sz+s'.sz≤c.size∧∃x:s'.T,DC (FW W) s' x (((c.toList.map (MS W.heap.size)).drop (ao+i*s'.sz)).take s'.sz)∧Sl s' x:=by
      intro i hi;obtain⟨ci,z,h1,h2⟩:=all i hi;rw[Addr.GL]at h1;obtain⟨c',tc',fz',hb',_,ho',rfl⟩:=PJ h1 (by omega);simp only at hb' ho';rw[hb]at hb';cases hb';refine⟨ho',?_⟩;have:=ih _ _ _ _ _ hs' h2;simpa [qu,qv]using this
     obtain⟨l,hl1,hl2⟩:=XC (p:=fun i (x:s'.T)=>DC (FW W) s' x (((c.toList.map (MS W.heap.size)).drop (ao+i*s'.sz)).take s'.sz)∧Sl s' x) len fun i hi=>(cell i (by omega)).2
     refine⟨l,?_,?_⟩
     ·simp only[DC];refine⟨.sl ab ao len cap 0,?_,.inr ⟨ab,ao,cap,0,_,by rw[hl1],by omega,hF,?_,.inl rfl,fun i hi=>(hl2 i hi).1⟩⟩
      ·have:(Value.slice (some ⟨ab,ao,none⟩) len cap)=.slice (some ⟨ab,ao,none⟩) len cap:=rfl;have hne:¬(len=0∧cap=0):=fun h=>h0 h.2
       cases cap with
       |zero=>exact absurd rfl h0
       |succ cap=>simp[MS,hlt,hlc]
      ·rw[hl1];have:=(cell (cap-1) (by omega)).1;have h2:len*s'.sz≤cap*s'.sz:=Nat.mul_le_mul_right _ hlc;have h3:cap*s'.sz=(cap-1)*s'.sz+s'.sz:=by rw[←Nat.succ_mul];congr 1;omega
       simp;omega
     ·simp only[Sl];refine⟨by omega,fun x hx=>?_⟩;obtain⟨i,hi,rfl⟩:=List.mem_iff_getElem.1 hx;exact(hl2 i hi).2
  case h_5 fs hu=>
   split at hs
   case h_2=>cases hs
   rename_i s' hs';cases hc:yg (P.cellsOf t) s'.sz with
   |false=>rw[hc]at hs;cases hs
   |true=>
   rw[hc]at hs;cases hs;have hsz:=zK hc;obtain⟨xs,n,rfl,_,hlen,hxl,hf⟩:=DataW.trod_struct hu h;obtain⟨x,h1,h2⟩:=Qr (cs:=cs) (fun t s cs y h1 h2=>ih n t s cs y h1 h2) fs.toList 0 _ hs' (fun f hfm=>by
    obtain⟨i,hi⟩:=List.mem_iff_getElem?.1 hfm;have hi':fs[i]?=some f:=by simpa using hi
    have:=hf i f hi';have hlt:=(zt.1 hi').1;rw[zM (by omega)]at this;exact⟨_,this⟩)
   refine⟨x,?_,h2⟩;rw[List.drop_zero,zu (by simp;omega)]at h1;exact h1
  case h_6=>cases hs
theorem mD{k:Nat}{t:TypeId}{s:Sh}{v:Value}{d:DataW H}{p:List MemPlace}(hs:sY P k t=some s)(hp:s.Pu=false)(hc:v.cells.toList=[v])(h:qx enc P W 0 (fun _=>true) true t v d p):
  ∃x:s.T,PC (FW W) (B3 s x) (MS W.heap.size v)∧Sl s x∧Ab (pW W) (MS W.heap.size v) v:=by
 obtain⟨fuel,hf⟩:=h;rw[hc]at hf;obtain⟨x,h1,h2⟩:=R6 k fuel t s [v] (d,p) hs hf;simp only[z6,List.map_nil]at h1;exact⟨x,(PC.B3 h1).2 hp _ rfl,h2,Q2 (h1.ok _ (by simp))⟩
end
end
end Go.Pe
end
section
namespace Go.Pe
open Go.Det Go.RowKit
noncomputable section
open Go.Proofs.Tryz (prog)
theorem TM{F':Fz}{v:V}(h:PC F' (.dat .bool true) v):v=.bool true:=by
 have:=h (fun _=>none) 0;simp only[PR,DC]at this;simpa using this
def GW(W:World):Prop:=∀x∈Fu,NY W x.1=some x.2
theorem GW.h{W:World}(h:GW W):Gh (hW W):=fun x hx=>by rw[Nh];exact h x hx
theorem GW.p{W:World}(h:GW W):Gp (pW W):=fun x hx=>by
 have h1:=h x hx;unfold NY at h1;split at h1
 case h_2=>cases h1
 rename_i c t fz hc;split at h1
 case isTrue=>cases h1
 have hlt:x.1<W.heap.size:=(zt.1 hc).1;have hs:oU W x.1=c.size:=by unfold oU;rw[hc]
 rw[Lt hlt,hs];cases hx2:x.2 with
 |cells cs t' fz'=>rw[hx2]at h1;cases h1;simp[yT]
 |_=>rw[hx2]at h1;cases h1
theorem HO{f:FuncId}{sp:Ao}(ok:Ae AT f sp)(i:(By sp.ins).T)(hpre:sp.pre i=true){args:List V}{args':Array Value}{W:World}(hgw:GW W)(hP:K0 (FW W) (Ah sp.ins i) args)
  (ha:Ap (pW W) args args'.toList) (hres:∀F' v,PC F' (one (Ah sp.outs (sp.f i))) v→v=.bool true) (hp:AT.prim f=none:=by kernel_rfl):
  Calls prog f args' W fun e W'=>e=.returned (.bool true)∧Below W.heap.size W W':=by
 obtain⟨l,M,h1,_,h2⟩:=(ok.zero hp).run (FW W) (hW W) args i (fun b cs h=>by
  unfold FW at h;split at h
  case h_2=>cases h
  rename_i cs' t fz hg;cases h;exact⟨t,fz,hg⟩) (fun b o h=>(yR W).lt h) hgw.h hP hpre
 refine((HE sK X8 Rb M).fn f args (hW W) l (h1 M (zy _)) (pW W) W args' (yR W) hgw.p ha).mono ?_;rintro e w' ⟨v,h',v',p',hm,rfl,hv,hx⟩;obtain⟨_,_,_,F',_,_,_,hr⟩:=h2 _ hm;obtain rfl:=hres F' v hr;refine⟨?_,kK hx⟩;simp only[Ab]at hv;rw[hv]
end
end Go.Pe
end
section
namespace Go.Pe
open Go.Det Go.RowKit Go.ChangeShapes
noncomputable section
def Pt(k:Nat):Value→V
 | .agg cs=>.agg (cs.toList.map (MS k))
 |v=>MS k v
def aZ(P:Program)(k:Nat)(t:TypeId):Option Sh:=
 match sY P k t with
 |some s=>match P.underlying t with
  |some (.struct _)=>bif s.Pu then some s else none
  |some (.int _)|some .bool|some .string|some (.slice _)=>bif s.Pu then none else some s
  |_=>none
 |none=>none
def NV(P:Program)(k:Nat):List TypeId→Option (List Sh)
 |[]=>some []
 |t::ts=>match aZ P k t,NV P k ts with
  |some s,some ss=>some (s::ss)
  |_,_=>none
def wG:(l:List Sh)→(By l).T→Prop
 |[],_=>True
 |[a],x=>Sl a x
 |a::b::l,x=>Sl a x.1∧wG (b::l) x.2
section
variable {H:Type}{enc:TypeId×Value→H}{P:Program}{W:World}{base:Nat}
theorem eF{t:TypeId}{v:Value}(ht:(∃k,P.underlying t=some (.int k))∨P.underlying t=some .bool∨P.underlying t=some .string∨∃e,P.underlying t=some (.slice e))(h:yf P W .any base t v):v.cells.toList=[v]∧∀cs,v≠ .agg cs:=by
 rcases ht with⟨k,ht⟩|ht|ht|⟨e,ht⟩<;>
 (simp only[yf,ht]at h
  unfold Cell.okWide at h;simp only[ht]at h;unfold Cell.ok at h;simp only[ht]at h;cases v<;>first|(exact⟨rfl,fun _ e=>by cases e⟩)|(exfalso;exact h))
theorem mB{k:Nat}{t:TypeId}{s:Sh}{v:Value}{d:DataW H}{p:List MemPlace}(hs:aZ P k t=some s)(ho:yf P W .any base t v)(h:qx enc P W 0 (fun _=>true) true t v d p):
  ∃x:s.T,PC (FW W) (B3 s x) (Pt W.heap.size v)∧Sl s x∧Ab (pW W) (Pt W.heap.size v) v:=by
 unfold aZ at hs;split at hs
 case h_2=>cases hs
 rename_i s' hs';have plain:((∃k,P.underlying t=some (.int k))∨P.underlying t=some .bool∨P.underlying t=some .string∨∃e,P.underlying t=some (.slice e))→(bif s'.Pu then none else some s')=some s→∃x:s.T,PC (FW W) (B3 s x) (Pt W.heap.size v)∧Sl s x∧Ab (pW W) (Pt W.heap.size v) v:=by
  intro ht hb;cases hp:s'.Pu with
  |true=>rw[hp]at hb;cases hb
  |false=>
   rw[hp]at hb;cases hb;obtain⟨h1,h2⟩:=eF ht ho;have e:Pt W.heap.size v=MS W.heap.size v:=by
    unfold Pt;split
    ·rename_i cs;exact absurd rfl (h2 cs)
    ·rfl
   rw[e];exact mD hs' hp h1 h
 split at hs
 case h_1=>
  rename_i fs hu;cases hp:s'.Pu with
  |false=>rw[hp]at hs;cases hs
  |true=>
   rw[hp]at hs;cases hs;simp only[yf,hu]at ho;obtain⟨cs,rfl,_,_⟩:=ho;obtain⟨fuel,hf⟩:=h;obtain⟨x,h1,h2⟩:=R6 k fuel t s _ (d,p) hs' hf;refine⟨x,(PC.B3 h1).1 hp,h2,?_⟩;simp only[Pt,Ab];refine⟨cs,rfl,?_⟩;have hok:=h1.ok;have e:(Value.agg cs).cells.toList=cs.toList:=rfl;rw[e]at hok;generalize cs.toList=l at hok;induction l with
   |nil=>simp
   |cons a l ih=>
    simp only[z6,Bc];exact⟨Q2 (hok _ (by simp)),ih fun v hv=>hok v (by simp only[z6,List.mem_cons];exact .inr hv)⟩
 case h_2=>rename_i k hu;exact plain (.inl ⟨k,hu⟩) hs
 case h_3=>rename_i hu;exact plain (.inr (.inl hu)) hs
 case h_4=>rename_i hu;exact plain (.inr (.inr (.inl hu))) hs
 case h_5=>rename_i e hu;exact plain (.inr (.inr (.inr ⟨e,hu⟩))) hs
 case h_6=>cases hs
theorem Ht:∀ {ts:List TypeId} {args:List Value} {ds:List (DataW H)} {p:List MemPlace},ym enc P W 0 (fun _=>true) true ts args ds p→ds.length=ts.length
 |[],_,_,_,h=>by obtain⟨_,rfl,_⟩:=trodAll_nil h;rfl
 |t::ts,_,_,_,h=>by
  obtain⟨v0,vs0,d0,ds0,p0,q0,rfl,rfl,rfl,h0,r0⟩:=trodAll_cons h;simp[Ht r0]
theorem oL{α:Type}{l:List α}(h:l.length=3):∃a b c,l=[a,b,c]:=by
 match l,h with
 |[a,b,c],_=>exact⟨a,b,c,rfl⟩
theorem NM{k:Nat}:∀ {ts:List TypeId} {ss:List Sh} {args:List Value} {ds:List (DataW H)} {p:List MemPlace},NV P k ts=some ss→(∀(j:Nat) t v,ts[j]?=some t→args[j]?=some v→yf P W .any base t v)→
  ym enc P W 0 (fun _=>true) true ts args ds p→∃x:(By ss).T,K0 (FW W) (Ah ss x) (args.map (Pt W.heap.size))∧wG ss x∧Ap (pW W) (args.map (Pt W.heap.size)) args
 |[],ss,args,ds,p,hs,_,h=>by
  cases hs;obtain⟨rfl,rfl,rfl⟩:=trodAll_nil h;exact⟨(),fun ρ N=>by simp[Ah],trivial,by simp⟩
 |t::ts,ss,args,ds,p,hs,hv,h=>by
  unfold NV at hs;split at hs
  case h_2=>cases hs
  rename_i s ss' h1 h2;cases hs;obtain⟨v0,vs0,d0,ds0,p0,q0,rfl,rfl,rfl,h0,r0⟩:=trodAll_cons h;obtain⟨x,a1,a2,a3⟩:=mB h1 (hv 0 t v0 rfl rfl) h0;obtain⟨y,b1,b2,b3⟩:=NM h2 (fun j t v ht hv'=>hv (j+1) t v ht hv') r0;have hr:Ap (pW W) ((v0::vs0).map (Pt W.heap.size)) (v0::vs0):=by simp only[z6,Bc];exact⟨a3,b3⟩
  cases ss' with
  |nil=>exact⟨x,fun ρ N=>by
    have:=b1 ρ N;simp only[Ah,BZ]at this;simp only[z6,Ah,this,A1,BZ,and_true];exact a1 ρ N,a2,hr⟩
  |cons s2 ss2=>exact⟨(x,y),fun ρ N=>by
    simp only[z6,Ah,A1];exact⟨a1 ρ N,b1 ρ N⟩,⟨a2,b2⟩,hr⟩
end
end
end Go.Pe
end
