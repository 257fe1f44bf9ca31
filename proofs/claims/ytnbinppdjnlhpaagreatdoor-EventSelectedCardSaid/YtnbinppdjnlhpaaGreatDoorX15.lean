import Derived.Test.YtnbinppdjnlhpaaGreatDoorX12
import Derived.Test.YtnbinppdjnlhpaaGreatDoorX14
import Derived.Test.YtnbinppdjnlhpaaGreatDoorX13
import Derived.Test.YtnbinppdjnlhpaaGreatDoorX10
/- A part of a proof (no law is stated here). Made by program out of texts by AI agents. -/
open Go.Pe.Ends renaming tt → zc, leaf → zg, ite → zj, Af → zk, ff → zl, eq → zt
open Go.IntKind renaming wrap → zd, i64 → zf
open Bool renaming and_eq_true → ze, true_and → zM, and_false → z6, and_true → yj
open Int renaming toNat_natCast → zh, tdiv → zi, mul_le_mul_of_nonneg_right → zq, tdiv_eq_ediv_of_nonneg → zB, tmod_eq_emod_of_nonneg → zC, eq_ofNat_of_zero_le → zG, natCast_nonneg → zO, mul_le_mul_of_nonneg_left → zU, le_of_lt → zX, lt_of_lt_of_le → z7, toNat → yd, tmod → ym, pow_succ → yn, le_trans → yo
open List renaming length_append → zm, length_cons → zn, take_of_length_le → zp, mem_cons_of_mem → zr, length_drop → zu, mem_cons_self → zw, append_assoc → zy, length → zA, append_nil → zH, length_singleton → zI, getD_eq_getElem?_getD → zJ, all_eq_true → zK, perm_middle → zL, nodup_append → zR, take → zS, mem_append → zV, findIdx?_cons → z5, length_eq_zero_iff → ya, take_length → yb, drop → yc, getD → ye, length_nil → yg, length_set → yh, mem_cons → yk
open Go.Sp renaming AG → zo, gI → zx, ix → zF, B9 → zW, preB → z9
open UInt8 renaming toNat_inj → zz, ofNat → zE
open Go.Pe.Ae renaming of → zD
open Go.Pe.Tr renaming fail → zN, ite → zP
open Nat renaming zero_le → zQ, le_refl → zT, sub → zZ, zero_add → yf, add → yp
open Go.Pe.T136 renaming Dl → zY
open List.Perm renaming refl → z8, cons → yi
section
namespace Go.Pe
open Sp
open Go.Det
theorem ED(c:UInt8)(r:List UInt8):Ay (c::r)=if c=47 then[]else c::Ay r:=by
 unfold Ay;rw[z5];by_cases h:c=47
 ·subst h;rfl
 ·rw[if_neg (by simpa using h),if_neg h];cases r.findIdx? (fun x=>x==47)<;>rfl
namespace T167
theorem Aj{Q:PV→Ob→Prop}(s:List UInt8)(hl:s.length≤1000000):∀(r:List UInt8) (i:Nat),s.drop i=r→i≤s.length→(∀ob,Q (.dat i64 (((i+(Ay r).length:Nat)):Int)) ob)→Ends Ib (L1 s i) Q
 |[],i,h,hi,hq=>by
  have he:i=s.length:=drop_nil h hi;subst he;exact zk (Ai ..) (zl (by simp) (zg (hq _)))
 |c::r,i,h,hi,hq=>by
  obtain⟨h1,h2,h3⟩:=drop_cons (d:=0) h;have e3:zd .i64 ((i:Int)+1)=((i+1:Nat):Int):=by rw[wr _ (by omega) (by omega)];omega
  rw[ED]at hq;refine zk (Ai ..) (zc (by simp;omega) ?_);rw[zh,h2,e3];refine zc (by simp;omega) (zj (fun d=>?_) (fun d=>?_))
  ·have hc:c=47:=by
    have:(c.toNat:Int)=47:=by simpa using d
    exact zz.1 (by show _=47;omega)
   rw[if_pos hc]at hq;exact zg (hq _)
  ·have hc:c≠47:=by rintro rfl;exact absurd d (by decide)
   rw[if_neg hc]at hq;refine Aj s hl r (i+1) h3 h1 (fun ob=>?_);have:=hq ob;rw[zn]at this;rw[show i+1+(Ay r).length=i+((Ay r).length+1)by omega];exact this
theorem ok:Ad AR 167 LZ:=by
 refine Av (X:=Ib) rfl Es (d:=9) (by kernel_rfl) (by kernel_rfl) (by kernel_rfl) (fun(s:List UInt8) hl=>?_) (Ab (by kernel_rfl));have hl:s.length≤1000000:=of_decide_eq_true hl;refine zt (Ap s) (Aj s hl s 0 rfl (zQ _) (fun ob=>zD rfl rfl ?_));rw[yf];rfl
end T167
namespace T168
variable {Q:PV→Ob→Prop}
theorem Rv{s:List UInt8}{r:List UInt8}{c:UInt8}{i:Nat}(h:s.drop i=c::r):Am (s.drop i)=(BK c&&Am (s.drop (i+1))):=by
 obtain⟨_,_,h3⟩:=drop_cons (d:=0) h;rw[h3,h];rfl
theorem Aj(s:List UInt8)(hl:s.length≤1000000):∀(r:List UInt8) (i:Nat),s.drop i=r→i≤s.length→(∀ob,Q (.bl (Am (s.drop i))) ob)→Ends Ib (L1 s s i) Q
 |[],i,h,hi,hq=>by
  have he:i=s.length:=drop_nil h hi;rw[h]at hq;subst he;exact zk (Ai ..) (zl (by simp) (zg (hq _)))
 |c::r,i,h,hi,hq=>by
  obtain⟨h1,h2,h3⟩:=drop_cons (d:=0) h;have e3:zd .i64 ((i:Int)+1)=((i+1:Nat):Int):=by rw[wr _ (by omega) (by omega)];omega
  rw[Rv h]at hq;refine zk (Ai ..) (zc (by simp;omega) ?_);rw[zh,h2,e3];refine zc (by simp;omega) (zj (fun d=>?_) (fun d=>zc (by simp;omega) (zj (fun e=>?_) (fun e=>?_))))
  ·have d:=of_decide_eq_true d;have hn:BK c=false:=by unfold BK;rw[decide_eq_false (by omega)];rfl
   rw[hn]at hq;exact zg (hq _)
  ·have e:=of_decide_eq_true e;have hn:BK c=false:=by unfold BK;rw[decide_eq_false (p:=c.toNat≤57) (by omega),z6]
   rw[hn]at hq;exact zg (hq _)
  ·have d:=of_decide_eq_false d;have e:=of_decide_eq_false e;have hn:BK c=true:=by unfold BK;exact Ak (decide_eq_true (by omega)) (decide_eq_true (by omega))
   rw[hn,zM]at hq;exact Aj s hl r (i+1) h3 h1 hq
theorem AL(s:List UInt8)(hl:s.length≤1000000):∀(r:List UInt8) (i:Nat),s.drop i=r→i≤s.length→(∀ob,Q (.bl (Am (s.drop i))) ob)→Ends Ib (L2 s s i) Q
 |[],i,h,hi,hq=>by
  have he:i=s.length:=drop_nil h hi;rw[h]at hq;subst he;exact zk (AN ..) (zl (by simp) (zg (hq _)))
 |c::r,i,h,hi,hq=>by
  obtain⟨h1,h2,h3⟩:=drop_cons (d:=0) h;have e3:zd .i64 ((i:Int)+1)=((i+1:Nat):Int):=by rw[wr _ (by omega) (by omega)];omega
  rw[Rv h]at hq;refine zk (AN ..) (zc (by simp;omega) ?_);rw[zh,h2,e3];refine zc (by simp;omega) (zj (fun d=>?_) (fun d=>zc (by simp;omega) (zj (fun e=>?_) (fun e=>?_))))
  ·have d:=of_decide_eq_true d;have hn:BK c=false:=by unfold BK;rw[decide_eq_false (by omega)];rfl
   rw[hn]at hq;exact zg (hq _)
  ·have e:=of_decide_eq_true e;have hn:BK c=false:=by unfold BK;rw[decide_eq_false (p:=c.toNat≤57) (by omega),z6]
   rw[hn]at hq;exact zg (hq _)
  ·have d:=of_decide_eq_false d;have e:=of_decide_eq_false e;have hn:BK c=true:=by unfold BK;exact Ak (decide_eq_true (by omega)) (decide_eq_true (by omega))
   rw[hn,zM]at hq;exact AL s hl r (i+1) h3 h1 hq
theorem ok:Ad AR 168 Kd:=by
 refine Av (X:=Ib) rfl Es (d:=9) (by kernel_rfl) (by kernel_rfl) (by kernel_rfl) (fun(s:List UInt8) hl=>?_) (Ab (by kernel_rfl));have hl:s.length≤1000000:=of_decide_eq_true hl;have hq:∀b ob,b=AU s→Ae Kd s (.bl b) ob:=fun b ob hb=>zD rfl rfl hb
 refine zt (Ap s) ?_;conv=>zeta
 cases s with
 |nil=>exact zc rfl (zg (hq _ _ rfl))
 |cons c r=>
  have g0:(c::r).getD 0 0=c:=rfl;rw[g0];refine zl (by simp;omega) (zj (fun d=>zc (by simp) (zj (fun e=>zg (hq _ _ ?_)) (fun e=>?_))) (fun d=>?_))
  ·have d:=of_decide_eq_true d;have hc:c=48:=by
    have:(c.toNat:Int)=48:=by simpa using e
    exact zz.1 (by show _=48;omega)
   have hr:r≠[]:=by rintro rfl;simp at d
   unfold AU;rw[g0,decide_eq_false (p:=c≠48) (fun h=>h hc),decide_eq_false (p:=c::r=[48]) (by intro h;simp at h;exact hr h.2)];simp
  ·have hc:c≠48:=by rintro rfl;exact absurd e (by decide)
   refine Aj (c::r) hl (c::r) 0 rfl (zQ _) (fun ob=>hq _ _ ?_);unfold AU;rw[g0,decide_eq_true hc];simp
  ·have d:=of_decide_eq_false d;have hr:r=[]:=by
    have:r.length=0:=by simp at d;omega
    exact ya.1 this
   subst hr;refine AL [c] hl [c] 0 rfl (zQ _) (fun ob=>hq _ _ ?_);unfold AU;rw[g0];by_cases hc:c=48
   ·subst hc;rfl
   ·rw[decide_eq_true hc];simp
end T168
theorem cV:∀g sp,bQ.sp g=some sp→Ad AR g sp:=Ac T264.ok (fun g sp h=>by cases h)
namespace T208
variable {Q:PV→Ob→Prop}
theorem MC{v:Int}(hv: -9223372036854775808≤v∧v<9223372036854775808):∃q d:Nat,Ah v=d+1000000000*q∧d<1000000000∧zd .i64 (zi v 1000000000)=(if v<0 then -(q:Int)else q)∧ym v 1000000000=(if v<0 then -(d:Int)else d):=by
 refine⟨v.natAbs/1000000000,v.natAbs % 1000000000,by rw[Ar];omega,by omega,?_,?_⟩
 ·by_cases h:v<0
  ·have:=Int.neg_tdiv (-v) 1000000000;rw[Int.neg_neg]at this;rw[this,zB (by omega),if_pos h,wr _ (by omega) (by omega)];omega
  ·rw[zB (by omega),if_neg h,wr _ (by omega) (by omega)];omega
 ·by_cases h:v<0
  ·have:=Int.neg_tmod (-v) 1000000000;rw[Int.neg_neg]at this;rw[this,zC (by omega),if_pos h];omega
  ·rw[zC (by omega),if_neg h];omega
theorem AL(neg:Bool)(D:Int)(hq:∀(w:List Int) ob,At zW w→Sp.val zW w=D→Q (.agg [.dat .bool (Ew neg w),.dat li (Az w)]) ob):∀(f:Nat) (v:Int) (o1:List Int),Ah v<f→(-9223372036854775808≤v∧v<9223372036854775808)→o1.length≤100→(Ah v≠0→Ah v*1000000000^o1.length≤9223372036854775808)→At zW o1→Sp.val zW o1+(zW:Int)^o1.length*Ah v=D→Ends bQ (L2 v o1.length neg o1) Q
 |0,v,o1,hf,hv,ho,hb,hd,he=>by
  have:=AD v;omega
 |f+1,v,o1,hf,hv,ho,hb,hd,he=>by
  obtain⟨q,d,s1,s2,s3,s4⟩:=MC hv;by_cases h0:v=0
  ·subst h0;have e0:Ah 0=0:=rfl;rw[e0,Int.mul_zero,Int.add_zero]at he;refine zk (AN ..) (zl rfl ?_);rw[yb];exact zc (by simp;omega) (zg (hq _ _ hd he))
  ·have hne:Ah v≠0:=by rw[Ar];omega
   have hbb:=hb hne;have ho10:o1.length≤10:=by
    rcases Nat.lt_or_ge 10 o1.length with g|g
    ·exfalso;have x1:(1000000000:Int)^11≤1000000000^o1.length:=AT (by decide) g;have x2:(9223372036854775808:Int)<1000000000^11:=by decide
     have x3:=zq (show 1≤Ah v by have:=AD v;omega) (show(0:Int)≤1000000000^o1.length by omega);omega
    ·exact g
   have eq:Ah (if v<0 then -(q:Int)else q)=q:=by rw[Ar];split<;>omega
   have go:Ends bQ (L2 (if v<0 then -(q:Int)else q) (yp o1.length 1) neg (o1++[(d:Int)])) Q:=by
    have:=AL neg D hq f (if v<0 then -(q:Int)else q) (o1++[(d:Int)]) (by rw[eq];omega) (by have:=Ar v;split<;>omega) (by simp;omega) (fun _=>by
     rw[eq,zm];show(q:Int)*1000000000^(o1.length+1)≤_;rw[yn, ←Int.mul_assoc,Int.mul_right_comm];have x1:=zq (show(q:Int)*1000000000≤Ah v by omega) (show(0:Int)≤1000000000^o1.length from zX (AP (by decide) _));omega) (Fb hd (by omega)) (by
     rw[eq,CB,zm];show Sp.val zW o1+(zW:Int)^o1.length*(d:Int)+(zW:Int)^(o1.length+1)*(q:Int)=D;rw[NG,Int.add_assoc, ←Int.mul_add, ←he,s1])
    rw[zm]at this;exact this
   refine zk (AN ..) (zc (by simpa using h0) (zc rfl ?_));rw[s3,s4];refine zj (fun c=>zc (by simp;omega) (zc rfl ?_)) (fun c=>zc (by simp;omega) (zc rfl ?_))
   ·have c:=of_decide_eq_true c;have hn:v<0:=by split at c<;>omega
    rw[if_pos hn]at c;rw[if_pos hn,if_pos hn];rw[if_pos hn]at go;have e5:zd .i64 (0 - -(d:Int))=(d:Int):=by rw[wr _ (by omega) (by omega)];omega
    rw[e5];exact go
   ·have c:=of_decide_eq_false c;have e5:(if v<0 then -(d:Int)else(d:Int))=(d:Int):=by split at c<;>split<;>omega
    rw[e5];exact go
theorem ok:Ad AR 208 I1:=by
 refine Av (X:=bQ) rfl cV (d:=9) (by kernel_rfl) (by kernel_rfl) (by kernel_rfl) (fun(v:Int) hv=>?_) (Ab (by kernel_rfl));have hv:=E6 (n:=v) hv;have fin:∀(w:List Int) ob,At zW w→Sp.val zW w=Ah v→Ae I1 v (.agg [.dat .bool (Ew (decide (v<0)) w),.dat li (Az w)]) ob:=by
  intro w ob hd hw;refine zD rfl rfl ?_;have:=OA (neg:=decide (v<0)) hd hw;have e:(if decide (v<0)=true then -Ah v else Ah v)=v:=by
   rw[Ar];by_cases h:v<0
   ·rw[if_pos (decide_eq_true h)];omega
   ·rw[if_neg (by simpa using h)];omega
  rw[e]at this;exact this
 obtain⟨q,d,s1,s2,s3,s4⟩:=MC hv;have hn:=AD v;refine zt (Ap v) ?_;conv=>zeta
 by_cases h0:v=0
 ·subst h0;exact zk (Ai ..) (zl rfl (zc rfl (zg (fin [] _ (fun x hx=>by cases hx) rfl))))
 ·have eq:Ah (if v<0 then -(q:Int)else q)=q:=by rw[Ar];split<;>omega
  have go:Ends bQ (L2 (if v<0 then -(q:Int)else q) 1 (decide (v<0)) [(d:Int)]) (Ae I1 v):=by
   refine AL (decide (v<0)) (Ah v) fin (q+1) _ [(d:Int)] (by rw[eq];omega) (by have:=Ar v;split<;>omega) (by simp) (fun _=>?_) (fun x hx=>by rw[List.mem_singleton]at hx;subst hx;show 0≤_∧_<(1000000000:Int);omega) ?_
   ·rw[eq];show(q:Int)*1000000000^1≤_;have:=Ar v;omega
   ·rw[eq,DP,s1];show(d:Int)+(1000000000:Int)^1*(q:Int)=_;omega
  refine zk (Ai ..) (zc (by simpa using h0) (zc rfl ?_));rw[s3,s4];refine zj (fun c=>zc rfl (zc rfl ?_)) (fun c=>zc rfl (zc rfl ?_))
  ·have c:=of_decide_eq_true c;have hn:v<0:=by split at c<;>omega
   rw[if_pos hn]at c;rw[if_pos hn,if_pos hn];rw[if_pos hn]at go;have e5:zd .i64 (0 - -(d:Int))=(d:Int):=by rw[wr _ (by omega) (by omega)];omega
   rw[e5];exact go
  ·have c:=of_decide_eq_false c;have e5:(if v<0 then -(d:Int)else(d:Int))=(d:Int):=by split at c<;>split<;>omega
   rw[e5];exact go
end T208
theorem aX:∀g sp,nG.sp g=some sp→Ad AR g sp:=Ac T167.ok (Ac T207.ok (Ac T208.ok (fun g sp h=>by cases h)))
theorem BX:∀(s:List UInt8),Ay s=s.take (Ay s).length∧(Bz s=true→(Ay s).length<s.length∧zo s=s.drop ((Ay s).length+1))∧(Bz s=false→Ay s=s∧zo s=[])
 |[]=>⟨rfl,(fun h=>(by cases h)),fun _=>⟨rfl,rfl⟩⟩
 |c::r=>by
  obtain⟨h1,h2,h3⟩:=BX r;have hB:zo (c::r)=if c=47 then r else zo r:=by
   unfold zo;rw[z5];by_cases h:c=47
   ·subst h;rfl
   ·rw[if_neg (by simpa using h),if_neg h];cases r.findIdx? (fun x=>x==47)<;>rfl
  have hC:Bz (c::r)=(decide (c=47)||Bz r):=by
   unfold Bz;rw[List.any_cons];congr 1
  rw[ED,hB,hC];by_cases h:c=47
  ·rw[if_pos h,if_pos h,decide_eq_true h];exact⟨rfl,(fun _=>⟨by simp,rfl⟩),fun h=>by cases h⟩
  ·rw[if_neg h,if_neg h,decide_eq_false h];refine⟨?_,fun g=>?_,fun g=>?_⟩
   ·rw[zn,List.take_succ_cons, ←h1]
   ·obtain⟨k1,k2⟩:=h2 g;refine⟨by simp;omega,?_⟩;rw[zn,List.drop_succ_cons];exact k2
   ·obtain⟨k1,k2⟩:=h3 g;exact⟨by rw[k1],k2⟩
theorem T169.ok:Ad AR 169 Pj:=by
 refine Av (X:=nG) rfl aX (d:=9) (by kernel_rfl) (by kernel_rfl) (by kernel_rfl) (fun(a:List UInt8) ha=>?_) (Ab (by kernel_rfl));have ha:(DA (Ay a)&&DA (zo a)&&decide (a.length≤1499))=true:=ha;rw[ze,ze,decide_eq_true_eq]at ha;obtain⟨⟨ra,rb⟩,hl⟩:=ha;obtain⟨c1,c2,c3⟩:=BX a;have es:AS a=((Ay a).length:Int):=rfl;have hle:(Ay a).length≤a.length:=(zY a).1;refine zt (T169.Ap a) (zc (decide_eq_true (by omega)) (zj (fun c=>?_) (fun c=>?_)))
 ·have c:(Ay a).length=a.length:=by
   have:((Ay a).length:Int)=(a.length:Int):=by simpa [es]using c
   omega
  have hc:Bz a=false:=by
   cases h:Bz a with
   |false=>rfl
   |true=>have:=(c2 h).1;omega
  obtain⟨k1,k2⟩:=c3 hc;rw[k1]at ra;refine zc ra (zc rfl (zg (zD rfl rfl ?_)));show((Ep a,Eo a),(false,Sp.rW 1))=((G0 a,FA a),(G3 a,Fs a));unfold G0 FA G3 Fs Hc GH Ep Eo;rw[k1,hc];rfl
 ·have hlt:(Ay a).length<a.length:=by
   have:((Ay a).length:Int)≠(a.length:Int):=by simpa [es]using c
   omega
  have hc:Bz a=true:=by
   cases h:Bz a with
   |true=>rfl
   |false=>have:=(c3 h).1;rw[this]at hlt;omega
  obtain⟨k1,k2⟩:=c2 hc;have e1:zd .i64 (((Ay a).length:Int)+1)=(((Ay a).length+1:Nat):Int):=by rw[wr _ (by omega) (by omega)];omega
  have e2:(a.drop ((Ay a).length+1)).take (zZ a.length ((Ay a).length+1))=a.drop ((Ay a).length+1):=zp (by rw[zu];exact zT _);rw[es,e1,zh,zh,e2, ←c1, ←k2];refine zc (by simp;omega) (zc (by simp;omega) (zc ra (zc rb (zg (zD rfl rfl ?_)))));show((Ep (Ay a),Eo (Ay a)),(Ep (zo a),Eo (zo a)))=((G0 a,FA a),(G3 a,Fs a));unfold G0 FA G3 Fs Hc GH Ep Eo;rw[hc];rfl
theorem Zp:∀g sp,QH.sp g=some sp→Ad AR g sp:=Ac T167.ok (Ac T168.ok (Ac T169.ok (Ac T170.ok (fun g sp h=>by cases h))))
namespace T128
variable {Q:PV→Ob→Prop}
theorem aZ{g:Int}(h0:0≤g):CJ g=[1]↔g=1:=by
 constructor
 ·intro h;have:=Dv (b:=zW) (by decide) h0;have h:Sp.dg zW g=[1]:=h;rw[h]at this;rw[←this];rfl
 ·rintro rfl;rfl
theorem A1(s:List UInt8)(hA:Am (Ay s)=true)(hB:Bz s=true→Am (zo s)=true)(lA:(Ay s).length≤600)(lB:(zo s).length≤600)(hl:s.length≤1499)
  (hq:∀ob,Q (.dat i64 (if Bz s=true∧zx (AA 0 (Ay s)) (AA 0 (zo s))≠1 then 1 else 0)) ob):Ends QH (L4 s (AS s)) Q:=by
 obtain⟨c1,c2,c3⟩:=BX s;have es:AS s=((Ay s).length:Int):=rfl;refine zk (BA ..) ?_;conv=>zeta
 rw[es];refine zj (fun c=>?_) (fun c=>?_)
 ·have c:=of_decide_eq_true c;have hc:Bz s=true:=by
   cases h:Bz s with
   |true=>rfl
   |false=>have:=(c3 h).1;rw[this]at c;omega
  have hB:=hB hc;obtain⟨r1,r2⟩:=G6 hA (by omega);obtain⟨r3,r4⟩:=G6 hB (by omega);have bA:=Bo hA;have bB:=Bo hB;have tR:∀k:Nat,(10:Int)^k≤(zW:Int)^k:=by
   intro k;induction k with
   |zero=>exact Int.le_refl _
   |succ k ih=>
    rw[yn,yn];have h1:=zq ih (show(0:Int)≤10 by decide);have h2:=zU (show(10:Int)≤(zW:Int)by decide) (zX (AP (b:=zW) (by decide) k));exact yo h1 h2
  have uA:AA 0 (Ay s)<(zW:Int)^600:=z7 bA.2 (yo (tR _) (AT (by decide) lA));have uB:AA 0 (zo s)<(zW:Int)^600:=z7 bB.2 (yo (tR _) (AT (by decide) lB));have e1:FA s=CJ (AA 0 (Ay s)):=by
   unfold FA Hc Sp.rW;rw[r2,show Ah (AA 0 (Ay s))=AA 0 (Ay s)by rw[Ar];omega]
  have e2:Fs s=CJ (AA 0 (zo s)):=by
   unfold Fs GH Sp.rW;rw[if_pos hc,r4,show Ah (AA 0 (zo s))=AA 0 (zo s)by rw[Ar];omega]
  obtain⟨n1,_,v1,l1⟩:=Ke (k:=600) bA.1 uA (by decide);obtain⟨n2,_,v2,l2⟩:=Ke (k:=600) bB.1 uB (by decide);have rat:Jg s=true:=by
   unfold Jg;rw[r1,r3];exact decide_eq_true hl
  rw[e1,e2];refine zc rat (zk (CF ..) (zc (Ak (Ak (Ak n1 n2) (decide_eq_true (by omega))) (decide_eq_true (by omega))) ?_));have ec:Ly (CJ (AA 0 (Ay s))) (CJ (AA 0 (zo s)))=CJ (zx (AA 0 (Ay s)) (AA 0 (zo s))):=by
   unfold Ly;rw[v1,v2]
  rw[ec];obtain⟨g0,_⟩:=eF bA.1 bB.1 uA uB;generalize zx (AA 0 (Ay s)) (AA 0 (zo s))=g at*;have h1:=aZ g0;by_cases h:g=1
  ·rw[if_neg (fun x=>x.2 h)]at hq;rw[h1.2 h];exact zk (C2 ..) (zl rfl (zc rfl (zl rfl (zg (hq _)))))
  ·rw[if_pos ⟨hc,h⟩]at hq;have hne:CJ g≠[1]:=fun x=>h (h1.1 x)
   refine zk (C2 ..) (zj (fun d=>zg (hq _)) (fun d=>?_));have d:(CJ g).length=1:=by
    have:((CJ g).length:Int)=1:=by simpa using d
    omega
   obtain⟨x,hx⟩:=List.length_eq_one_iff.1 d;rw[hx]at hne ⊢;have hx1:x≠1:=fun e=>hne (by rw[e])
   exact zc rfl (zc (by simpa using hx1) (zg (hq _)))
 ·have c:=of_decide_eq_false c;have hc:Bz s=false:=by
   cases h:Bz s with
   |false=>rfl
   |true=>have:=(c2 h).1;omega
  rw[if_neg (fun x=>by rw[hc]at x;cases x.1)]at hq;exact zg (hq _)
theorem AL(s:List UInt8)(hA:Am (Ay s)=true)(hl:s.length≤1000000)(hq:∀ob,Q (.dat i64 (T136.E (Ay s) (zo s) (Bz s) (!Bz s||(AU (zo s)&&decide (zo s≠[48])&&decide (zo s≠[49]))))) ob):Ends QH (L2 s (AS s)) Q:=by
 obtain⟨c1,c2,c3⟩:=BX s;have es:AS s=((Ay s).length:Int):=rfl;have hle:=zY s;have big:(Bz s=true→Am (zo s)=true)→(∀ob,Q (.dat i64 (T136.E (Ay s) (zo s) (Bz s) true)) ob)→Ends QH (L3 s (AS s)) Q:=by
  intro hB hq;unfold T136.E at hq;rw[if_neg (by decide)]at hq;have hlen:s.length=(Ay s).length+(if Bz s=true then 1+(zo s).length else 0):=by
   cases h:Bz s with
   |true=>obtain⟨k1,k2⟩:=c2 h;rw[if_pos rfl,k2,zu];omega
   |false=>obtain⟨k1,k2⟩:=c3 h;rw[if_neg (by decide),k1];rfl
  have hB0:Bz s=false→(zo s).length=0:=fun h=>by rw[(c3 h).2];rfl
  refine zk (Bk ..) ?_;conv=>zeta
  rw[es,wr ((s.length:Int)-((Ay s).length:Int)) (by omega) (by omega),wr _ (by omega) (by omega)];refine zj (fun c=>?_) (fun c=>zj (fun d=>?_) (fun d=>?_))
  ·have c:=of_decide_eq_true c;rw[if_pos (.inl (by omega))]at hq;exact zg (hq _)
  ·have c:=of_decide_eq_false c;have d:=of_decide_eq_true d;have:600<(zo s).length:=by split at hlen<;>omega
   rw[if_pos (.inr this)]at hq;exact zg (hq _)
  ·have c:=of_decide_eq_false c;have d:=of_decide_eq_false d;have hb:(zo s).length≤600:=by
    cases h:Bz s with
    |true=>rw[h,if_pos rfl]at hlen;omega
    |false=>have:=hB0 h;omega
   rw[if_neg (by omega)]at hq;exact A1 s hA hB (by omega) hb (by split at hlen<;>omega) hq
 refine zk (AN ..) ?_;conv=>zeta
 cases hc:Bz s with
 |false=>
  rw[hc]at hq;have hn:¬(AS s<(s.length:Int)):=by rw[es,(c3 hc).1];omega
  exact zl (decide_eq_false hn) (big (fun h=>by rw[hc]at h;cases h) (by rw[hc];exact hq))
 |true=>
  rw[hc]at hq;obtain⟨k1,k2⟩:=c2 hc;have e1:zd .i64 (((Ay s).length:Int)+1)=(((Ay s).length+1:Nat):Int):=by rw[wr _ (by omega) (by omega)];omega
  have e2:(s.drop ((Ay s).length+1)).take (zZ s.length ((Ay s).length+1))=s.drop ((Ay s).length+1):=zp (by rw[zu];exact zT _);rw[es,e1,zh,e2, ←k2];rw[es]at big;have bad:(!true||(AU (zo s)&&decide (zo s≠[48])&&decide (zo s≠[49])))=false→∀ob,Q (.dat i64 1) ob:=by
   intro h ob;have:=hq ob;rw[h]at this;exact this
  refine zc (by simp;omega) (zc (by simp;omega) (zc (decide_eq_true (by omega)) (zj (fun d=>zg (bad ?_ _)) (fun d=>zc (by simp;omega) (zj (fun e=>zg (bad ?_ _)) (fun e=>zc (by simp;omega) (zj (fun f=>zg (bad ?_ _)) (fun f=>?_))))))))
  ·have d:AU (zo s)=false:=by simpa using d
   rw[d];rfl
  ·have e:zo s=[48]:=by simpa using e
   rw[decide_eq_false (p:=zo s≠[48]) (fun h=>h e)];simp
  ·have f:zo s=[49]:=by simpa using f
   rw[decide_eq_false (p:=zo s≠[49]) (fun h=>h f)];simp
  ·have d:AU (zo s)=true:=by simpa using d
   have e:zo s≠[48]:=by simpa using e
   have f:zo s≠[49]:=by simpa using f
   rw[d,decide_eq_true e,decide_eq_true f]at hq;exact big (fun _=>(Gx d).2) (by rw[hc];exact hq)
theorem Aj(a s:List UInt8)(hs:s=A3 a)(hl:a.length≤1000000)(hq:∀ob,Q (.dat i64 (Bm a)) ob):Ends QH (L1 a s) Q:=by
 obtain⟨c1,c2,c3⟩:=BX s;have es:AS s=((Ay s).length:Int):=rfl;have hsl:s.length≤a.length:=by rw[hs];exact T136.U4 a
 have hle:=zY s;have hE:Bm a=T136.E (Ay s) (zo s) (Bz s) (AU (Ay s)&&(!z9 a||decide (Ay s≠[48]))&&(!Bz s||(AU (zo s)&&decide (zo s≠[48])&&decide (zo s≠[49])))):=by rw[hs];rfl
 rw[hE]at hq;have tk:s.take (Ay s).length=Ay s:=c1.symm;refine zk (Ai ..) ?_;conv=>zeta
 rw[show AS s=((Ay s).length:Int)from rfl,zh,tk];refine zc (decide_eq_true (by omega)) (zc (by simp;omega) (zc (decide_eq_true (by omega)) (zj (fun d=>?_) (fun d=>?_))))
 ·have d:AU (Ay s)=false:=by simpa using d
  rw[d]at hq;exact zg (hq _)
 ·have d:AU (Ay s)=true:=by simpa using d
  have hA:=(Gx d).2;have hne:a.length≠0:=by
   intro h;have h:=ya.1 h;have:s=[]:=by rw[hs,h];rfl
   rw[this]at d;exact absurd d (by decide)
  rw[d,zM]at hq;refine zc (decide_eq_true (by omega)) (zj (fun e=>zc (by simp;omega) (zj (fun f=>?_) (fun f=>?_))) (fun e=>?_))
  ·have hp:z9 a=true:=by
    unfold z9;refine decide_eq_true (zz.1 ?_);have:((a.getD 0 0).toNat:Int)=45:=by simpa using e
    show _=45;omega
   have f:Ay s=[48]:=by simpa using f
   rw[hp,decide_eq_false (p:=Ay s≠[48]) (fun h=>h f)]at hq;exact zg (hq _)
  ·have f:Ay s≠[48]:=by simpa using f
   rw[decide_eq_true f,Bool.or_true,zM]at hq;exact AL s hA (by omega) hq
  ·have hp:z9 a=false:=by
    unfold z9;refine decide_eq_false (fun h=>?_);rw[h]at e;exact absurd e (by decide)
   rw[hp,Bool.not_false,Bool.true_or,zM]at hq;exact AL s hA (by omega) hq
theorem ok:Ad AR 128 E5:=by
 refine Av (X:=QH) rfl Zp (d:=9) (by kernel_rfl) (by kernel_rfl) (by kernel_rfl) (fun(a:List UInt8) hl=>?_) (Ab (by kernel_rfl));have hl:a.length≤1000000:=of_decide_eq_true hl;have hq:∀ob,Ae E5 a (.dat i64 (Bm a)) ob:=fun ob=>zD rfl rfl rfl
 refine zt (Ap a) ?_;conv=>zeta
 cases a with
 |nil=>exact zl rfl (Aj [] [] rfl hl hq)
 |cons c r=>
  have g0:(c::r).getD 0 0=c:=rfl;rw[g0];refine zc (by simp) (zc (by simp) (zj (fun d=>zc (by simp) ?_) (fun d=>?_)))
  ·have hc:c=45:=by
    have:(c.toNat:Int)=45:=by simpa using d
    exact zz.1 (by show _=45;omega)
   have e:(yc 1 (c::r)).take (zZ (c::r).length 1)=r:=by show r.take ((r.length+1)-1)=r;rw[Nat.add_sub_cancel];exact yb
   rw[e];exact Aj (c::r) r (by unfold A3;rw[g0,if_pos hc];rfl) hl hq
  ·have hc:c≠45:=by rintro rfl;exact absurd d (by decide)
   exact Aj (c::r) (c::r) (by unfold A3;rw[g0,if_neg hc]) hl hq
end T128
end Go.Pe
end
section
namespace Go.Pe
open Sp
open Go.Det
theorem cG:∀g sp,oI.sp g=some sp→Ad AR g sp:=Ac T177.ok (Ac T182.ok (Ac T184n.ok (fun g sp h=>by cases h)))
theorem T137.ok:Ad AR 137 Xy:=by
 refine Av (X:=oI) rfl cG (d:=9) (by kernel_rfl) (by kernel_rfl) (by kernel_rfl) (fun(a:List UInt8) ha=>?_) (Ab (by kernel_rfl));have ha:(DA (Ay a)&&DA (zo a)&&decide (a.length≤1499))=true:=ha;rw[ze,ze,decide_eq_true_eq]at ha;obtain⟨⟨ra,rb⟩,hl⟩:=ha;refine zt (T137.Ap a) (zc (Ak (decide_eq_true rfl) (decide_eq_true (by omega))) (zj (fun c=>zc ra (zc rfl (zg (zD rfl rfl ?_)))) (fun c=>zc ra (zc rb (zg (zD rfl rfl ?_))))))
 ·have c:Bz a=false:=by simpa using c
  show((CN (Ay a),CV (Ay a)),((1:Int),DE 1))=((M8 a,MX a),(Kf a,Kl a));unfold Kf Kl GH;rw[c,UP];rfl
 ·have c:Bz a=true:=by simpa using c
  show((CN (Ay a),CV (Ay a)),(CN (zo a),CV (zo a)))=((M8 a,MX a),(Kf a,Kl a));unfold Kf Kl GH;rw[c];rfl
theorem cC:∀g sp,nJ.sp g=some sp→Ad AR g sp:=Ac T186.ok (Ac T183.ok (fun g sp h=>by cases h))
theorem Lh{a:Bl}(h:NZ a=true):BR a=true∧Ah (Sp.vI a)<(An:Int)^4000:=by
 unfold NZ at h;rw[ze,decide_eq_true_eq]at h;refine⟨?_,Hv h.1 h.2 (by decide)⟩;unfold BR;exact Ak h.1 (decide_eq_true (by omega))
theorem UY{x y:Int}(hx:Ah x<(An:Int)^4000)(hy:Ah y<(An:Int)^4000):BR (Cr (x*y))=true:=by
 refine F7 ?_;rw[I8];have h0:=AD x;have h1:=AD y;have hp:=AP (b:=An) (by decide) 4000;have a1:=zU (zX hy) h0;have a2:=Int.mul_lt_mul_of_pos_right hx hp;have a3:(An:Int)^4000*(An:Int)^4000=(An:Int)^8000:=(Int.pow_add _ 4000 4000).symm;have a4:(An:Int)^8000≤(An:Int)^9000:=AT (by decide) (by decide);rw[a3]at a2;exact Int.lt_of_le_of_lt a1 (z7 a2 a4)
theorem T138.ok:Ad AR 138 Wr:=by
 refine Av (X:=nJ) rfl cC (d:=9) (by kernel_rfl) (by kernel_rfl) (by kernel_rfl) (fun(i:((Int×List Int)×(Int×List Int))×((Int×List Int)×(Int×List Int))) hi=>?_) (Ab (by kernel_rfl));obtain⟨a,b⟩:=i;have hi:((NZ a.1&&NZ a.2)&&(NZ b.1&&NZ b.2))=true:=hi;rw[ze,ze,ze]at hi;obtain⟨⟨a1,a2⟩,b1,b2⟩:=hi;obtain⟨a1,la1⟩:=Lh a1;obtain⟨a2,la2⟩:=Lh a2;obtain⟨b1,lb1⟩:=Lh b1;obtain⟨b2,lb2⟩:=Lh b2;refine zt (T138.Ap a b) (zc (Ak a1 b2) (zc (Ak b1 a2) (zc (Ak (UY la1 lb2) (UY lb1 la2)) (zg (zD rfl rfl ?_)))));show BB (Sp.vI (Tv a.1 b.2)) (Sp.vI (Tv b.1 a.2))=BB _ _;rw[SX,SX]
theorem UZ:∀g sp,lJ.sp g=some sp→Ad AR g sp:=Ac T167.ok (fun g sp h=>by cases h)
theorem T203.ok:Ad AR 203 YX:=by
 refine Av (X:=Ib) rfl Es (d:=9) (by kernel_rfl) (by kernel_rfl) (by kernel_rfl) (fun(a:List UInt8) hl=>?_) (Ab (by kernel_rfl));have hl:a.length≤1000000:=of_decide_eq_true hl;have hq:∀s ob,s=A3 a→Ae YX a (.dat .str s) ob:=fun s ob h=>zD rfl rfl h
 refine zt (T203.Ap a) (zj (fun c=>zl rfl (zg (hq _ _ ?_))) (fun c=>?_))
 ·have c:a=[48]:=by simpa using c
  subst c;rfl
 ·cases a with
  |nil=>exact zl rfl (zl rfl (zg (hq _ _ rfl)))
  |cons x r=>
   have g0:(x::r).getD 0 0=x:=rfl;have e:(yc 1 (x::r)).take (zZ (x::r).length 1)=r:=by show r.take ((r.length+1)-1)=r;rw[Nat.add_sub_cancel];exact yb
   rw[g0,e];refine zc (by simp) (zc (by simp) (zj (fun d=>zc rfl (zc (by simp) (zg (hq _ _ ?_)))) (fun d=>zl rfl (zg (hq _ _ ?_)))))
   ·have hc:x=45:=by
     have:(x.toNat:Int)=45:=by simpa using d
     exact zz.1 (by show _=45;omega)
    unfold A3;rw[g0,if_pos hc];rfl
   ·have hc:x≠45:=by rintro rfl;exact absurd d (by decide)
    unfold A3;rw[g0,if_neg hc]
theorem T204.ok:Ad AR 204 eK:=by
 refine Av (X:=lJ) rfl UZ (d:=9) (by kernel_rfl) (by kernel_rfl) (by kernel_rfl) (fun(a:List UInt8) hl=>?_) (Ab (by kernel_rfl));have hle:=(zY a).1;refine zt (T204.Ap a) (zc hl ?_);rw[show AS a=((Ay a).length:Int)from rfl,zh];exact zc (by simp;omega) (zg (zD rfl rfl (BX a).1.symm))
theorem T205.ok:Ad AR 205 Yv:=by
 refine Av (X:=lJ) rfl UZ (d:=9) (by kernel_rfl) (by kernel_rfl) (by kernel_rfl) (fun(a:List UInt8) hl=>?_) (Ab (by kernel_rfl));have hl':a.length≤1000000:=of_decide_eq_true hl;obtain⟨c1,c2,c3⟩:=BX a;have hq:∀s ob,s=SU a→Ae Yv a (.dat .str s) ob:=fun s ob h=>zD rfl rfl h
 have hle:=(zY a).1;have es:AS a=((Ay a).length:Int):=rfl;refine zt (T205.Ap a) (zc hl ?_);rw[es];cases hc:Bz a with
 |false=>
  refine zc (by rw[(c3 hc).1];simp) (zg (hq _ _ ?_));unfold SU;rw[hc];rfl
 |true=>
  obtain⟨k1,k2⟩:=c2 hc;have e1:zd .i64 (((Ay a).length:Int)+1)=(((Ay a).length+1:Nat):Int):=by rw[wr _ (by omega) (by omega)];omega
  have e2:(a.drop ((Ay a).length+1)).take (zZ a.length ((Ay a).length+1))=a.drop ((Ay a).length+1):=zp (by rw[zu];exact zT _);rw[e1,zh,e2];refine zl (by simp;omega) (zc (by simp;omega) (zg (hq _ _ ?_)));unfold SU;rw[hc,k2];rfl
theorem Zq:∀g sp,nZ.sp g=some sp→Ad AR g sp:=Ac T128.ok (Ac T203.ok (Ac T204.ok (Ac T205.ok (fun g sp h=>by cases h))))
theorem T166.ok:Ad AR 166 Ya:=by
 refine Av (X:=nZ) rfl Zq (d:=9) (by kernel_rfl) (by kernel_rfl) (by kernel_rfl) (fun(i:List UInt8×Int) hi=>?_) (Ab (by kernel_rfl));obtain⟨a,n⟩:=i;have hi:(decide (a.length≤1000000)&&decide (0≤n)&&decide (n≤1000))=true:=hi;rw[ze,ze,decide_eq_true_eq,decide_eq_true_eq,decide_eq_true_eq]at hi;obtain⟨⟨hl,h0⟩,h1⟩:=hi;have hq:∀v b ob,v=.bl b∨v=.dat .bool b→b=N1 a n→Ae Ya (a,n) v ob:=by
  rintro v b ob (rfl|rfl) hb
  ·exact zD rfl rfl hb
  ·exact zD rfl rfl hb
 have e1:zd .i64 (zd .i64 (2*n)+2)=2*n+2:=by rw[wr (2*n) (by omega) (by omega)];exact wr _ (by omega) (by omega)
 have hle:=(zY a).1;refine zt (T166.Ap a n) ?_;conv=>zeta
 rw[e1];refine zj (fun c=>zc (decide_eq_true hl) (zj (fun d=>zc (decide_eq_true hl) (zc (decide_eq_true (by omega)) (zj (fun e=>zc (decide_eq_true hl) (zg (hq _ _ _ (.inr rfl) ?_))) (fun e=>zg (hq _ _ _ (.inl rfl) ?_))))) (fun d=>zg (hq _ _ _ (.inl rfl) ?_)))) (fun c=>zg (hq _ _ _ (.inl rfl) ?_))
 ·have d:Bm a=0:=by simpa using d
  unfold N1;rw[c,e,decide_eq_true d];rfl
 ·unfold N1;rw[e];simp
 ·have d:Bm a≠0:=by simpa using d
  unfold N1;rw[decide_eq_false d];simp
 ·unfold N1;rw[c];rfl
theorem Zb:∀g sp,oN.sp g=some sp→Ad AR g sp:=Ac T128.ok (Ac T166.ok (fun g sp h=>by cases h))
theorem T126.ok:Ad AR 126 J5:=by
 refine Av (X:=oN) rfl Zb (d:=9) (by kernel_rfl) (by kernel_rfl) (by kernel_rfl) (fun(i:List UInt8×Int) hi=>?_) (Ab (by kernel_rfl));obtain⟨a,n⟩:=i;have hi':(decide (0≤n)&&decide (n≤1000))=true:=hi;rw[ze,decide_eq_true_eq,decide_eq_true_eq]at hi';obtain⟨h0,h1⟩:=hi';have hq:∀v b ob,v=.bl b∨v=.dat .bool b→b=Br a n→Ae J5 (a,n) v ob:=by
  rintro v b ob (rfl|rfl) hb
  ·exact zD rfl rfl hb
  ·exact zD rfl rfl hb
 refine zt (T126.Ap a n) (zj (fun c=>zc (decide_eq_true (by have:=of_decide_eq_true c;omega)) (zj (fun d=>zg (hq _ _ _ (.inl rfl) ?_)) (fun d=>zc (Ak (Ak (decide_eq_true (by have:=of_decide_eq_true c;omega)) (decide_eq_true h0)) (decide_eq_true h1)) (zg (hq _ _ _ (.inr rfl) ?_))))) (fun c=>zg (hq _ _ _ (.inl rfl) ?_)))
 ·have c:=of_decide_eq_true c;have d:Bm a≠0:=by simpa using d
  unfold Br;rw[decide_eq_true (p:=a.length≤40) (by omega),decide_eq_true d];rfl
 ·have c:=of_decide_eq_true c;have d:Bm a=0:=by simpa using d
  unfold Br;rw[decide_eq_true (p:=a.length≤40) (by omega),decide_eq_false (fun h=>h d)];rfl
 ·have c:=of_decide_eq_false c;unfold Br;rw[decide_eq_false (p:=a.length≤40) (by omega)];rfl
end Go.Pe
end
section
namespace Go.Pe
open Sp
open Go.Det
namespace T272
variable {Q:PV→Ob→Prop}
theorem Aj(g:Nat)(hq:∀ob,Q (.dat i64 (g:Int)) ob):∀(f x y:Nat),y<f→Nat.gcd x y=g→Ends Ib (L1 (x:Int) (y:Int)) Q
 |0,x,y,h,_=>by omega
 |f+1,x,y,hy,hg=>by
  refine zk (Ai ..) ?_;conv=>zeta
  by_cases h0:y=0
  ·subst h0;rw[Nat.gcd_zero_right]at hg;subst hg;exact zl rfl (zg (hq _))
  ·have e:ym (x:Int) (y:Int)=((x % y:Nat):Int):=by rw[zC (zO x)];rfl
   rw[e];have hlt:x % y<y:=Nat.mod_lt _ (by omega);exact zc (by simp;omega) (zc (by simp;omega) (Aj g hq f y (x % y) (by omega) (by rw[Nat.gcd_comm, ←Nat.gcd_rec,Nat.gcd_comm];exact hg)))
theorem ok:Ad AR 272 dJ:=by
 refine Av (X:=Ib) rfl Es (d:=9) (by kernel_rfl) (by kernel_rfl) (by kernel_rfl) (fun(i:Int×Int) hi=>?_) (Ab (by kernel_rfl));obtain⟨a,b⟩:=i;have hi:(decide (0≤a)&&decide (a<9223372036854775808)&&decide (0≤b)&&decide (b<9223372036854775808))=true:=hi;rw[ze,ze,ze,decide_eq_true_eq,decide_eq_true_eq,decide_eq_true_eq,decide_eq_true_eq]at hi;obtain⟨⟨⟨a0,_⟩,b0⟩,_⟩:=hi;obtain⟨x,rfl⟩:=zG a0;obtain⟨y,rfl⟩:=zG b0;refine zt (Ap x y) (Aj (Nat.gcd x y) (fun ob=>zD rfl rfl ?_) (y+1) x y (Nat.lt_succ_self _) rfl);show((Nat.gcd x y:Nat):Int)=zx (x:Int) (y:Int);rw[Iu];rfl
end T272
namespace T130
theorem ok:Ad AR 130 PZ:=by
 refine Av (X:=Ib) rfl Es (d:=9) (by kernel_rfl) (by kernel_rfl) (by kernel_rfl) (fun(s:List UInt8) hl=>?_) (Ab (by kernel_rfl));have hq:∀v ob,v=FR s→Ae PZ s (.dat i64 v) ob:=fun v ob hb=>zD rfl rfl hb
 refine zt (Ap s) (zj (fun c=>zg (hq _ _ ?_)) (fun c=>?_))
 ·have c:s=[48]:=by simpa using c
  unfold FR;rw[if_pos c]
 ·have c:¬s=[48]:=by simpa using c
  cases s with
  |nil=>exact zl rfl (zg (hq _ _ rfl))
  |cons x r=>
   have g0:(x::r).getD 0 0=x:=rfl;rw[g0];refine zc (by simp) (zc (by simp) (zj (fun d=>zg (hq _ _ ?_)) (fun d=>zg (hq _ _ ?_))))
   ·have hx:x=45:=by
     have:(x.toNat:Int)=45:=by simpa using d
     exact zz.1 (by show _=45;omega)
    unfold FR;rw[if_neg c,g0,if_pos hx]
   ·have hx:x≠45:=by rintro rfl;exact absurd d (by decide)
    unfold FR;rw[if_neg c,g0,if_neg hx]
end T130
theorem cD:∀g sp,nN.sp g=some sp→Ad AR g sp:=Ac T130.ok (fun g sp h=>by cases h)
theorem T174.ok:Ad AR 174 Wu:=by
 refine Av (X:=nN) rfl cD (d:=9) (by kernel_rfl) (by kernel_rfl) (by kernel_rfl) (fun(s:List UInt8) hl=>?_) (Ab (by kernel_rfl));have hl:s.length≤1000000:=of_decide_eq_true hl;have hq:∀v ob,v=Ju s→Ae Wu s (.dat .str v) ob:=fun v ob hb=>zD rfl rfl hb
 refine zt (T174.Ap s) (zc (decide_eq_true hl) ?_);unfold Ju at hq;unfold FR;by_cases c:s=[48]
 ·rw[if_pos c];rw[if_pos c]at hq;exact zl rfl (zc (decide_eq_true hl) (zc rfl (zg (hq _ _ rfl))))
 ·rw[if_neg c];rw[if_neg c]at hq;by_cases d:s.getD 0 0=45
  ·rw[if_pos d];rw[if_pos d]at hq;have hn:s≠[]:=by rintro rfl;exact absurd d (by decide)
   have hp:1≤s.length:=List.length_pos_iff.2 hn;refine zc rfl (zc (by simp;omega) (zg (hq _ _ ?_)));exact zp (by rw[zu];exact zT _)
  ·rw[if_neg d];rw[if_neg d]at hq;exact zl rfl (zc (decide_eq_true hl) (zl rfl (zc (by simp;omega) (zg (hq _ _ rfl)))))
namespace T273
theorem V9:∀k:Fin 10,zS (zZ (k.1+1) k.1) (yc k.1 [(48:UInt8),49,50,51,52,53,54,55,56,57])=[zE (48+k.1)]:=by decide
theorem Aj{Q:PV→Ob→Prop}(l:Nat)(hl:l≤20):∀(f n:Nat) (acc:List UInt8),n<9223372036854775808→n<10^f→l≤acc.length+f→acc.length+f≤64→(∀ob,Q (.dat .str (IY (f+1) n l acc)) ob)→Ends Ib (L1 (n:Int) (l:Int) acc) Q:=by
 intro f;induction f with
 |zero=>
  intro n acc hn hf hle h64 hq;have h0:n=0:=by rw[Nat.pow_zero]at hf;omega
  subst h0;unfold IY at hq;rw[if_pos ⟨rfl,by omega⟩]at hq;exact zk (Ai ..) (zl rfl (zl (by simp;omega) (zg (hq _))))
 |succ f ih=>
  intro n acc hn hf hle h64 hq;have e1:ym (n:Int) 10=((n % 10:Nat):Int):=by rw[zC (zO n)];rfl
  have e2:zd .i64 (((n % 10:Nat):Int)+1)=((n % 10+1:Nat):Int):=by rw[wr _ (by omega) (by omega)];omega
  have e3:zd .i64 (zi (n:Int) 10)=((n/10:Nat):Int):=by rw[zB (zO n),wr _ (by omega) (by omega)];rfl
  have hd:=V9 ⟨n % 10,Nat.mod_lt _ (by decide)⟩;have hd:zS (zZ (n % 10+1) (n % 10)) (yc (n % 10) [(48:UInt8),49,50,51,52,53,54,55,56,57])=[zE (48+n % 10)]:=hd;have hm:n % 10<10:=Nat.mod_lt _ (by decide);rw[Nat.pow_succ]at hf;refine zk (Ai ..) ?_;conv=>zeta
  rw[e1,e2,e3,zh,zh,hd];by_cases hz:n=0∧l≤acc.length
  ·obtain⟨z1,z2⟩:=hz;subst z1;unfold IY at hq;rw[if_pos ⟨rfl,z2⟩]at hq;exact zl rfl (zl (by simp;omega) (zg (hq _)))
  ·have hq2:∀ob,Q (.dat .str (IY (f+1) (n/10) l (zE (48+n % 10)::acc))) ob:=by
    intro ob;have:=hq ob;unfold IY at this;rw[if_neg hz]at this;exact this
   have go:Ends Ib (L1 ((n/10:Nat):Int) (l:Int) ([zE (48+n % 10)]++acc)) Q:=ih (n/10) (zE (48+n % 10)::acc) (by omega) (by omega) (by rw[zn];omega) (by rw[zn];omega) hq2;refine zj (fun _=>?_) (fun c=>zc ?_ ?_)
   ·exact zc rfl (zc rfl (zc (by simp;omega) (zc (by simp;omega) (zc rfl go))))
   ·have c:=of_decide_eq_false c;exact decide_eq_true (by omega)
   ·exact zc rfl (zc rfl (zc (by simp;omega) (zc (by simp;omega) (zc rfl go))))
theorem ok:Ad AR 273 RU:=by
 refine Av (X:=Ib) rfl Es (d:=9) (by kernel_rfl) (by kernel_rfl) (by kernel_rfl) (fun(i:Int×Int) hi=>?_) (Ab (by kernel_rfl));obtain⟨a,b⟩:=i;have hi:(decide (0≤a)&&decide (a<9223372036854775808)&&decide (0≤b)&&decide (b≤20))=true:=hi;rw[ze,ze,ze,decide_eq_true_eq,decide_eq_true_eq,decide_eq_true_eq,decide_eq_true_eq]at hi;obtain⟨⟨⟨a0,a1⟩,b0⟩,b1⟩:=hi;obtain⟨x,rfl⟩:=zG a0;obtain⟨y,rfl⟩:=zG b0;refine zt (Ap x y) (Aj y (by omega) 63 x [] (by omega) (by omega) (by show y≤0+63;omega) (by decide) (fun ob=>zD rfl rfl ?_));show IY 64 x y []=IY 64 (x:Int).toNat (y:Int).toNat [];rw[zh,zh]
end T273
theorem aF:∀g sp,Mf.sp g=some sp→Ad AR g sp:=Ac T263.ok (Ac T167.ok (fun g sp h=>by cases h))
namespace T211
variable {Q:PV→Ob→Prop}
theorem BN(neg:Bool)(n d:Int)(h0:0≤n)(h1:n<1000000000)(hq:∀ob,Q (.tup [.dat i64 (if neg=true then -n else n),.dat i64 d,.bl true]) ob):Ends Mf (L7 neg n d) Q:=by
 refine zk (Db ..) ?_;conv=>zeta
 cases neg with
 |true=>
  refine zc rfl (zg ?_);rw[wr _ (by omega) (by omega),Int.zero_sub];exact hq _
 |false=>exact zl rfl (zg (hq _))
theorem BF(s:List UInt8)(neg:Bool)(n:Int)(h0:0≤n)(h1:n<1000000000)(hl:s.length≤20)(lb:(zo s).length≤9)(db:Am (zo s)=true)(hq:∀ob,Q (.tup [.dat i64 (if neg=true then -n else n),.dat i64 (if Bz s=true then AA 0 (zo s)else 1),.bl true]) ob):Ends Mf (L5 s neg (AS s) n 1) Q:=by
 obtain⟨c1,c2,c3⟩:=BX s;refine zk (CF ..) ?_;conv=>zeta
 have es:AS s=((Ay s).length:Int):=rfl;have hle:=(zY s).1;cases hc:Bz s with
 |true=>
  rw[hc]at hq;obtain⟨k1,k2⟩:=c2 hc;have e3:zd .i64 (AS s+1)=(((Ay s).length+1:Nat):Int):=by rw[es,wr _ (by omega) (by omega)];omega
  have hl2:(zo s).length=s.length-((Ay s).length+1):=by rw[k2,zu]
  have et:(zo s).take (zZ s.length ((Ay s).length+1))=zo s:=zp (by show _≤s.length-_;omega);rw[e3,zh, ←k2,et];exact zc (by simp[es];omega) (zc (by simp;omega) (zc (T207.BM db (by omega)) (BN neg n _ h0 h1 hq)))
 |false=>
  obtain⟨k1,k2⟩:=c3 hc;rw[hc]at hq;exact zl (by simp[es,k1]) (BN neg n 1 h0 h1 hq)
theorem Bb(s:List UInt8)(neg:Bool)(hl:s.length≤20)(la:(Ay s).length≤9)(lb:(zo s).length≤9)(da:Am (Ay s)=true)(db:Am (zo s)=true)(hq:∀n ob,n=AA 0 (Ay s)→Q (.tup [.dat i64 (if neg=true then -n else n),.dat i64 (if Bz s=true then AA 0 (zo s)else 1),.bl true]) ob):Ends Mf (L3 s neg ) Q:=by
 obtain⟨c1,c2,c3⟩:=BX s;have es:AS s=((Ay s).length:Int):=rfl;have hle:=(zY s).1;have hlen:s.length-(Ay s).length≤10:=by
  cases hc:Bz s with
  |true=>
   obtain⟨k1,k2⟩:=c2 hc;have:(zo s).length=s.length-((Ay s).length+1):=by rw[k2,zu]
   omega
  |false=>rw[(c3 hc).1];omega
 have et:zS (yd (AS s)) s=Ay s:=by rw[es,zh];exact c1.symm
 obtain⟨v0,v1⟩:=T207.BO da la;refine zk (Bk ..) ?_;conv=>zeta
 rw[et];refine zc (by simp;omega) (zl (by simp[es];omega) (zl ?_ (zc (by simp[es];omega) (zc (T207.BM da (by omega)) ?_))))
 ·rw[es,wr _ (by omega) (by omega)];exact decide_eq_false (by omega)
 ·exact BF s neg (AA 0 (Ay s)) v0 v1 hl lb db (fun ob=>hq _ ob rfl)
theorem GF(n d:Int)(hq:∀ob,Q (.tup [.dat i64 n,.dat i64 d,.bl true]) ob):Ends Mf (L8 n d) Q:=by
 refine zk (EF ..) ?_;conv=>zeta
 exact zg (hq _)
theorem HS(s:List UInt8)(n:Int)(hl:s.length≤20)(lb:(zo s).length≤9)(db:Am (zo s)=true)(hq:∀ob,Q (.tup [.dat i64 n,.dat i64 (if Bz s=true then AA 0 (zo s)else 1),.bl true]) ob):Ends Mf (L6 s (AS s) n 1) Q:=by
 obtain⟨c1,c2,c3⟩:=BX s;refine zk (C2 ..) ?_;conv=>zeta
 have es:AS s=((Ay s).length:Int):=rfl;have hle:=(zY s).1;cases hc:Bz s with
 |true=>
  rw[hc]at hq;obtain⟨k1,k2⟩:=c2 hc;have e3:zd .i64 (AS s+1)=(((Ay s).length+1:Nat):Int):=by rw[es,wr _ (by omega) (by omega)];omega
  have hl2:(zo s).length=s.length-((Ay s).length+1):=by rw[k2,zu]
  have et:(zo s).take (zZ s.length ((Ay s).length+1))=zo s:=zp (by show _≤s.length-_;omega);rw[e3,zh, ←k2,et];exact zc (by simp[es];omega) (zc (by simp;omega) (zc (T207.BM db (by omega)) (GF n _ hq)))
 |false=>
  obtain⟨k1,k2⟩:=c3 hc;rw[hc]at hq;exact zl (by simp[es,k1]) (GF n 1 hq)
theorem A1(s:List UInt8)(hl:s.length≤20)(la:(Ay s).length≤9)(lb:(zo s).length≤9)(da:Am (Ay s)=true)(db:Am (zo s)=true)(hq:∀n ob,n=AA 0 (Ay s)→Q (.tup [.dat i64 n,.dat i64 (if Bz s=true then AA 0 (zo s)else 1),.bl true]) ob):Ends Mf (L4 s ) Q:=by
 obtain⟨c1,c2,c3⟩:=BX s;have es:AS s=((Ay s).length:Int):=rfl;have hle:=(zY s).1;have hlen:s.length-(Ay s).length≤10:=by
  cases hc:Bz s with
  |true=>
   obtain⟨k1,k2⟩:=c2 hc;have:(zo s).length=s.length-((Ay s).length+1):=by rw[k2,zu]
   omega
  |false=>rw[(c3 hc).1];omega
 have et:zS (yd (AS s)) s=Ay s:=by rw[es,zh];exact c1.symm
 obtain⟨v0,v1⟩:=T207.BO da la;refine zk (BA ..) ?_;conv=>zeta
 rw[et];refine zc (by simp;omega) (zl (by simp[es];omega) (zl ?_ (zc (by simp[es];omega) (zc (T207.BM da (by omega)) ?_))))
 ·rw[es,wr _ (by omega) (by omega)];exact decide_eq_false (by omega)
 ·exact HS s (AA 0 (Ay s)) hl lb db (fun ob=>hq _ ob rfl)
theorem ok:Ad AR 211 TH:=by
 refine Av (X:=Mf) rfl aF (d:=9) (by kernel_rfl) (by kernel_rfl) (by kernel_rfl) (fun(a:List UInt8) ha=>?_) (Ab (by kernel_rfl));have ha:(decide (a.length≤20)&&decide ((Ay (A3 a)).length≤9)&&decide ((zo (A3 a)).length≤9)&&Am (Ay (A3 a))&&Am (zo (A3 a)))=true:=ha;rw[ze,ze,ze,ze,decide_eq_true_eq,decide_eq_true_eq,decide_eq_true_eq]at ha;obtain⟨⟨⟨⟨hl,la⟩,lb⟩,da⟩,db⟩:=ha;have hq:∀n ob,n=A0 a→Ae TH a (.tup [.dat i64 n,.dat i64 (if Bz (A3 a)=true then AA 0 (zo (A3 a))else 1),.bl true]) ob:=fun n ob h=>zD rfl rfl (by rw[h];rfl)
 refine zt (Ap a) (zl (by simp;omega) ?_);cases a with
 |nil=>exact zl rfl (zk (AN ..) (A1 [] hl la lb da db (fun n ob h=>hq n ob (by rw[h];rfl))))
 |cons c r=>
  have g0:(c::r).getD 0 0=c:=rfl;rw[g0];refine zc (by simp) (zc (by simp) (zk (Ai ..) (zj (fun d=>zc (by simp) ?_) (fun d=>?_))))
  ·have hc:c=45:=by
    have:(c.toNat:Int)=45:=by simpa using d
    exact zz.1 (by show _=45;omega)
   have ep:A3 (c::r)=r:=by unfold A3;rw[g0,if_pos hc];rfl
   have eb:z9 (c::r)=true:=by unfold z9;rw[g0];exact decide_eq_true hc
   have et:zS (zZ (c::r).length 1) (yc 1 (c::r))=r:=zp (zT _);unfold A0 at hq;rw[ep]at la lb da db hq;rw[eb]at hq;rw[et,d];exact Bb r true (by rw[zn]at hl;omega) la lb da db (fun n ob h=>hq _ ob (by rw[h];try rfl))
  ·have hc:c≠45:=by rintro rfl;exact absurd d (by decide)
   have ep:A3 (c::r)=c::r:=by unfold A3;rw[g0,if_neg hc]
   have eb:z9 (c::r)=false:=by unfold z9;rw[g0];exact decide_eq_false hc
   unfold A0 at hq;rw[ep]at la lb da db hq;rw[eb]at hq;rw[d];exact Bb (c::r) false hl la lb da db (fun n ob h=>hq _ ob (by rw[h];try rfl))
end T211
end Go.Pe
end
section
namespace Go.Sp
theorem RH:∀(f n l:Nat) (acc:List UInt8),(IY f n l acc).length≤acc.length+f
 |0,_,_,acc=>zT _
 |f+1,n,l,acc=>by
  unfold IY;split
  ·omega
  ·have:=RH f (n/10) l (zE (48+n % 10)::acc);rw[zn]at this;omega
theorem Jw(n l:Int):(B4 n l).length≤64:=by
 have:=RH 64 n.toNat l.toNat [];rw[yg,yf]at this;exact this
theorem PU{n:Int}(h:n<0):fA n=[45]:=by unfold fA;rw[if_pos h]
theorem Px{n:Int}(h:¬n<0):fA n=[]:=by unfold fA;rw[if_neg h]
theorem Uk{n:Int}(h:1<n):iJ n=47::B4 n 1:=by unfold iJ;rw[if_pos h]
theorem TQ{n:Int}(h:¬1<n):iJ n=[]:=by unfold iJ;rw[if_neg h]
theorem YO{a b:Int}(h:0<b):0<gI a b:=by
 rw[Iu];have:0<Int.gcd a b:=Nat.gcd_pos_of_pos_right _ (by omega);omega
end Go.Sp
namespace Go.Pe
open Sp
open Go.Det
namespace T212
theorem Ra{n:Int}(h1: -9000000000000000000≤n)(h2:n≤9000000000000000000):imax n (zd .i64 (0-n))=Ah n:=by
 rw[wr _ (by omega) (by omega)];unfold imax Ah;split<;>split<;>omega
theorem WV{n g:Int}(h:0<g):(0≤n→0≤zi n g∧zi n g≤n)∧(n≤0→n≤zi n g∧zi n g≤0):=by
 have pos:∀m:Int,0≤m→0≤zi m g∧zi m g≤m:=fun m hm=>by
  rw[zB hm];exact⟨Int.ediv_nonneg hm (by omega),Int.ediv_le_self _ hm⟩
 refine⟨pos n,fun hn=>?_⟩;have:=pos (-n) (by omega);rw[Int.neg_tdiv]at this;omega
theorem half{Q:PV→Ob→Prop}(N D:Int)(n1: -4000000000000000000≤N)(n2:N≤4000000000000000000)(d1:0<D)(d2:D≤4000000000000000000)(hq:∀ob,Q (.dat .str (dG N D)) ob):Ends nA
 (zP (V1 (imax N (zd zf ((0:Int)-N))) D)
   (zP (decide (zx (imax N (zd zf ((0:Int)-N))) D≠(0:Int)))
    (zP (decide (zx (imax N (zd zf ((0:Int)-N))) D≠(0:Int)))
    (zP (decide (zd zf (zi N (zx (imax N (zd zf ((0:Int)-N))) D))<(0:Int)))
     (zP (decide ((0:Int)≤imax (zd zf (zi N (zx (imax N (zd zf ((0:Int)-N))) D))) (zd zf ((0:Int)-zd zf (zi N (zx (imax N (zd zf ((0:Int)-N))) D)))))&&decide (imax (zd zf (zi N (zx (imax N (zd zf ((0:Int)-N))) D))) (zd zf ((0:Int)-zd zf (zi N (zx (imax N (zd zf ((0:Int)-N))) D))))<(9223372036854775808:Int))&&decide ((0:Int)≤(1:Int))&&decide ((1:Int)≤(20:Int)))
     (zP (decide ((1:Nat)+zA (B4 (imax (zd zf (zi N (zx (imax N (zd zf ((0:Int)-N))) D))) (zd zf ((0:Int)-zd zf (zi N (zx (imax N (zd zf ((0:Int)-N))) D))))) (1:Int))≤(4611686018427387904:Nat)))
      (zP (decide (zd zf (zi D (zx (imax N (zd zf ((0:Int)-N))) D))>(1:Int)))
      (zP (decide (zA ([(45:UInt8)]++B4 (imax (zd zf (zi N (zx (imax N (zd zf ((0:Int)-N))) D))) (zd zf ((0:Int)-zd zf (zi N (zx (imax N (zd zf ((0:Int)-N))) D))))) (1:Int))+(1:Nat)≤(4611686018427387904:Nat)))
       (zP (decide ((0:Int)≤zd zf (zi D (zx (imax N (zd zf ((0:Int)-N))) D)))&&decide (zd zf (zi D (zx (imax N (zd zf ((0:Int)-N))) D))<(9223372036854775808:Int))&&decide ((0:Int)≤(1:Int))&&decide ((1:Int)≤(20:Int)))
       (zP (decide (zA ([(45:UInt8)]++B4 (imax (zd zf (zi N (zx (imax N (zd zf ((0:Int)-N))) D))) (zd zf ((0:Int)-zd zf (zi N (zx (imax N (zd zf ((0:Int)-N))) D))))) (1:Int)++[(47:UInt8)])+zA (B4 (zd zf (zi D (zx (imax N (zd zf ((0:Int)-N))) D))) (1:Int))≤(4611686018427387904:Nat)))
        (Tr.leaf (PV.dat Sh.str ([(45:UInt8)]++B4 (imax (zd zf (zi N (zx (imax N (zd zf ((0:Int)-N))) D))) (zd zf ((0:Int)-zd zf (zi N (zx (imax N (zd zf ((0:Int)-N))) D))))) (1:Int)++[(47:UInt8)]++B4 (zd zf (zi D (zx (imax N (zd zf ((0:Int)-N))) D))) (1:Int))) ([]))
        (zN))
       (zN))
       (zN))
      (Tr.leaf (PV.dat Sh.str ([(45:UInt8)]++B4 (imax (zd zf (zi N (zx (imax N (zd zf ((0:Int)-N))) D))) (zd zf ((0:Int)-zd zf (zi N (zx (imax N (zd zf ((0:Int)-N))) D))))) (1:Int))) ([])))
      (zN))
     (zN))
     (zP (decide ((0:Int)≤imax (zd zf (zi N (zx (imax N (zd zf ((0:Int)-N))) D))) (zd zf ((0:Int)-zd zf (zi N (zx (imax N (zd zf ((0:Int)-N))) D)))))&&decide (imax (zd zf (zi N (zx (imax N (zd zf ((0:Int)-N))) D))) (zd zf ((0:Int)-zd zf (zi N (zx (imax N (zd zf ((0:Int)-N))) D))))<(9223372036854775808:Int))&&decide ((0:Int)≤(1:Int))&&decide ((1:Int)≤(20:Int)))
     (zP (decide ((0:Nat)+zA (B4 (imax (zd zf (zi N (zx (imax N (zd zf ((0:Int)-N))) D))) (zd zf ((0:Int)-zd zf (zi N (zx (imax N (zd zf ((0:Int)-N))) D))))) (1:Int))≤(4611686018427387904:Nat)))
      (zP (decide (zd zf (zi D (zx (imax N (zd zf ((0:Int)-N))) D))>(1:Int)))
      (zP (decide (zA ([]++B4 (imax (zd zf (zi N (zx (imax N (zd zf ((0:Int)-N))) D))) (zd zf ((0:Int)-zd zf (zi N (zx (imax N (zd zf ((0:Int)-N))) D))))) (1:Int))+(1:Nat)≤(4611686018427387904:Nat)))
       (zP (decide ((0:Int)≤zd zf (zi D (zx (imax N (zd zf ((0:Int)-N))) D)))&&decide (zd zf (zi D (zx (imax N (zd zf ((0:Int)-N))) D))<(9223372036854775808:Int))&&decide ((0:Int)≤(1:Int))&&decide ((1:Int)≤(20:Int)))
       (zP (decide (zA ([]++B4 (imax (zd zf (zi N (zx (imax N (zd zf ((0:Int)-N))) D))) (zd zf ((0:Int)-zd zf (zi N (zx (imax N (zd zf ((0:Int)-N))) D))))) (1:Int)++[(47:UInt8)])+zA (B4 (zd zf (zi D (zx (imax N (zd zf ((0:Int)-N))) D))) (1:Int))≤(4611686018427387904:Nat)))
        (Tr.leaf (PV.dat Sh.str ([]++B4 (imax (zd zf (zi N (zx (imax N (zd zf ((0:Int)-N))) D))) (zd zf ((0:Int)-zd zf (zi N (zx (imax N (zd zf ((0:Int)-N))) D))))) (1:Int)++[(47:UInt8)]++B4 (zd zf (zi D (zx (imax N (zd zf ((0:Int)-N))) D))) (1:Int))) ([]))
        (zN))
       (zN))
       (zN))
      (Tr.leaf (PV.dat Sh.str ([]++B4 (imax (zd zf (zi N (zx (imax N (zd zf ((0:Int)-N))) D))) (zd zf ((0:Int)-zd zf (zi N (zx (imax N (zd zf ((0:Int)-N))) D))))) (1:Int))) ([])))
      (zN))
     (zN)))
    (zN))
    (zN))
   (zN)) Q:=by
 rw[Ra (n:=N) (by omega) (by omega)];have ha:=Ar N;have gp:=YO (a:=Ah N) d1;have hgP:V1 (Ah N) D=true:=by
  unfold V1;rw[decide_eq_true (by omega),decide_eq_true (by omega),decide_eq_true (by omega),decide_eq_true (by omega)];rfl
 unfold dG at hq;generalize zx (Ah N) D=g at*;obtain⟨q1,q2⟩:=WV (n:=N) gp;obtain⟨q3,_⟩:=WV (n:=D) gp;have q3:=q3 (by omega);have w1: -4000000000000000000≤zi N g∧zi N g≤4000000000000000000:=by
  rcases Int.le_total 0 N with h|h
  ·have:=q1 h;omega
  ·have:=q2 h;omega
 rw[wr (zi N g) (by omega) (by omega),wr (zi D g) (by omega) (by omega),Ra (n:=zi N g) (by omega) (by omega)];generalize zi N g=n at*;generalize zi D g=d at*;have hn:=Ar n;have l1:=Jw (Ah n) 1;have l2:=Jw d 1;have p1:(decide ((0:Int)≤Ah n)&&decide (Ah n<(9223372036854775808:Int))&&decide ((0:Int)≤(1:Int))&&decide ((1:Int)≤(20:Int)))=true:=by
  rw[decide_eq_true (by omega),decide_eq_true (by omega)];rfl
 have p2:(decide ((0:Int)≤d)&&decide (d<(9223372036854775808:Int))&&decide ((0:Int)≤(1:Int))&&decide ((1:Int)≤(20:Int)))=true:=by
  rw[decide_eq_true (by omega),decide_eq_true (by omega)];rfl
 have g0:decide (g≠0)=true:=decide_eq_true (by omega);refine zc hgP (zc g0 (zc g0 (zj (fun c=>zc p1 (zc (decide_eq_true (by omega)) (zj (fun e=>?_) (fun e=>zg ?_)))) (fun c=>zc p1 (zc (decide_eq_true (by omega)) (zj (fun e=>?_) (fun e=>zg ?_)))))))
 ·refine zc (decide_eq_true (by rw[zm,zI];omega)) (zc p2 (zc (decide_eq_true (by rw[zm,zm,zI,zI];omega)) (zg ?_)));rw[PU (of_decide_eq_true c),Uk (of_decide_eq_true e)]at hq;rw[zy _ [47]];exact hq _
 ·rw[PU (of_decide_eq_true c),TQ (of_decide_eq_false e),zH]at hq;exact hq _
 ·refine zc (decide_eq_true (by rw[zm,yg];omega)) (zc p2 (zc (decide_eq_true (by rw[zm,zm,zI,yg];omega)) (zg ?_)));rw[Px (of_decide_eq_false c),Uk (of_decide_eq_true e)]at hq;rw[zy _ [47]];exact hq _
 ·rw[Px (of_decide_eq_false c),TQ (of_decide_eq_false e),zH]at hq;exact hq _
theorem Z7:∀g sp,nA.sp g=some sp→Ad AR g sp:=Ac T272.ok (Ac T273.ok (Ac T208.ok (Ac (CR (by kernel_rfl) (Ab (by kernel_rfl))) (fun g sp h=>by cases h))))
theorem ok:Ad AR 212 gE:=by
 refine Av (X:=nA) rfl Z7 (d:=9) (by kernel_rfl) (by kernel_rfl) (by kernel_rfl) (fun(i:Int×Int) hi=>?_) (Ab (by kernel_rfl));obtain⟨n,d⟩:=i;have hi:mM n d=true:=hi;unfold mM at hi;rw[ze,ze,ze,ze,decide_eq_true_eq,decide_eq_true_eq,decide_eq_true_eq,decide_eq_true_eq,decide_eq_true_eq]at hi;obtain⟨⟨⟨⟨h1,h2⟩,h3⟩,h4⟩,h5⟩:=hi;have hq:∀s ob,s=jZ n d→Ae gE (n,d) (.dat .str s) ob:=fun s ob h=>zD rfl rfl h
 unfold jZ at hq;refine zt (Ap n d) (zl (decide_eq_false (by omega)) (zl (decide_eq_false (by omega)) (zl (decide_eq_false (by omega)) (zl (decide_eq_false (by omega)) (zj (fun c=>?_) (fun c=>?_))))))
 ·have c:=of_decide_eq_true c;rw[if_pos c]at hq;have e1:zd .i64 (0-n)= -n:=by rw[wr _ (by omega) (by omega)];omega
  have e2:zd .i64 (0-d)= -d:=by rw[wr _ (by omega) (by omega)];omega
  rw[e1,e2];exact half (-n) (-d) (by omega) (by omega) (by omega) (by omega) (fun ob=>hq _ ob rfl)
 ·have c:=of_decide_eq_false c;rw[if_neg c]at hq;exact half n d h1 h2 (by omega) h4 (fun ob=>hq _ ob rfl)
end T212
end Go.Pe
end
section
namespace Go.Sp
theorem FY{a:List UInt8}(h:AX a=true):Gy a=true∧AJ a≠0:=by
 unfold AX at h;rw[ze,decide_eq_true_eq]at h;exact h
theorem J7{a:List UInt8}(h:Gy a=true):a.length≤20∧(Ay (A3 a)).length≤9∧(AG (A3 a)).length≤9∧Am (Ay (A3 a))=true∧Am (AG (A3 a))=true:=by
 unfold Gy TG at h;rw[ze,ze,ze,ze,decide_eq_true_eq,decide_eq_true_eq,decide_eq_true_eq]at h;obtain⟨⟨⟨⟨h1,h2⟩,h3⟩,h4⟩,h5⟩:=h;exact⟨h1,h2,h3,h4,h5⟩
theorem J1{a:List UInt8}(h1:a.length≤20)(h2:(Ay (A3 a)).length≤9)(h3:(AG (A3 a)).length≤9)(h4:Am (Ay (A3 a))=true)(h5:Am (AG (A3 a))=true):Gy a=true:=by
 unfold Gy TG;rw[decide_eq_true h1,decide_eq_true h2,decide_eq_true h3,h4,h5];rfl
theorem GB{a:List UInt8}(h:AX a=true): -1000000000<A0 a∧A0 a<1000000000∧0<AJ a∧AJ a<1000000000:=by
 obtain⟨hp,hd⟩:=FY h;obtain⟨_,h2,h3,h4,h5⟩:=J7 hp;obtain⟨a1,a2⟩:=Go.Pe.T207.BO h4 h2;obtain⟨b1,b2⟩:=Go.Pe.T207.BO h5 h3;have e: -1000000000<A0 a∧A0 a<1000000000:=by unfold A0;split<;>omega
 have f:0≤AJ a∧AJ a<1000000000:=by unfold AJ;split<;>omega
 omega
theorem Kc{x y:Int}(h1: -1000000000<x)(h2:x<1000000000)(h3:0<y)(h4:y<1000000000): -1000000000000000000≤x*y∧x*y≤1000000000000000000:=by
 have a:=zq (show x≤1000000000 by omega) (show 0≤y by omega);have b:=zq (show -1000000000≤x by omega) (show 0≤y by omega);omega
theorem WJ{x y:Int}(h1:0<x)(h2:x<1000000000)(h3:0<y)(h4:y<1000000000):0<x*y∧x*y≤1000000000000000000:=⟨Int.mul_pos h1 h3,(Kc (by omega) h2 h3 h4).2⟩
theorem Om{b:List UInt8}(h:AX b=true):AX (Ju b)=true∧A0 (Ju b)= -A0 b∧AJ (Ju b)=AJ b:=by
 obtain⟨hp,hd⟩:=FY h;obtain⟨h1,h2,h3,h4,h5⟩:=J7 hp;unfold Ju;by_cases h0:b=[48]
 ·subst h0;exact⟨h,rfl,rfl⟩
 ·rw[if_neg h0];by_cases hm:b.getD 0 0=45
  ·rw[if_pos hm];have e1:A3 b=b.drop 1:=by unfold A3;rw[if_pos hm]
   have eb:preB b=true:=decide_eq_true hm;have ed:¬(b.drop 1).getD 0 0=45:=by
    intro hh;rw[e1]at h4;cases hr:b.drop 1 with
    |nil=>rw[hr]at hh;exact absurd hh (by decide)
    |cons c r=>
     rw[hr]at hh h4;have hc:c=45:=hh;subst hc;rw[Go.Pe.ED,if_neg (by decide)]at h4;have:(BK 45&&Am (Ay r))=true:=h4;rw[ze]at this;exact absurd this.1 (by decide)
   have e2:A3 (b.drop 1)=b.drop 1:=by unfold A3;rw[if_neg ed]
   have eb2:preB (b.drop 1)=false:=decide_eq_false ed;have k1:A0 (b.drop 1)= -A0 b:=by unfold A0;rw[e1,e2,eb,eb2];exact(Int.neg_neg _).symm
   have k2:AJ (b.drop 1)=AJ b:=by unfold AJ;rw[e1,e2]
   refine⟨?_,k1,k2⟩;unfold AX;rw[k2,decide_eq_true hd,yj];rw[e1]at h2 h3 h4 h5;exact J1 (by rw[zu];omega) (by rw[e2];exact h2) (by rw[e2];exact h3) (by rw[e2];exact h4) (by rw[e2];exact h5)
  ·rw[if_neg hm];have e1:A3 b=b:=by unfold A3;rw[if_neg hm]
   have eb:preB b=false:=decide_eq_false hm;have e2:A3 (45::b)=b:=rfl;have eb2:preB (45::b)=true:=rfl;have k1:A0 (45::b)= -A0 b:=by unfold A0;rw[e1,e2,eb,eb2];rfl
   have k2:AJ (45::b)=AJ b:=by unfold AJ;rw[e1,e2]
   refine⟨?_,k1,k2⟩;unfold AX;rw[k2,decide_eq_true hd,yj];rw[e1]at h2 h3 h4 h5;have hlen:b.length≤19:=by
    obtain⟨c1,c2,c3⟩:=Go.Pe.BX b;have:=congrArg zA c1;cases hc:Bz b with
    |true=>
     obtain⟨m1,m2⟩:=c2 hc;have:=congrArg zA m2;rw[zu]at this;omega
    |false=>
     have:=congrArg zA (c3 hc).1;omega
   exact J1 (by rw[zn];omega) (by rw[e2];exact h2) (by rw[e2];exact h3) (by rw[e2];exact h4) (by rw[e2];exact h5)
theorem Oz:∀(f n:Nat) (acc:List UInt8),0<n→n<10^f→∃(k:Nat) (r:List UInt8),1≤k∧k≤9∧IY f n 1 acc=zE (48+k)::r
 |0,n,acc,h0,h1=>by rw[Nat.pow_zero]at h1;omega
 |f+1,n,acc,h0,h1=>by
  rw[Nat.pow_succ]at h1;unfold IY;rw[if_neg (by omega)];by_cases h:n/10=0
  ·refine⟨n % 10,acc,by omega,by omega,?_⟩;rw[h];cases f with
   |zero=>rfl
   |succ f=>unfold IY;rw[if_pos ⟨rfl,by rw[zn];omega⟩]
  ·exact Oz f (n/10) _ (by omega) (by omega)
theorem TM:∀k:Fin 10,1≤k.1→zE (48+k.1)≠45∧zE (48+k.1)≠48:=by decide
theorem Y9(n d:Int):(dG n d).length≤200:=by
 unfold dG;rw[zm,zm];have a:=Jw (Ah (zi n (gI (Ah n) d))) 1;have b:∀x,(fA x).length≤1:=fun x=>by unfold fA;split<;>simp
 have c:∀x,(iJ x).length≤65:=fun x=>by
  unfold iJ;split
  ·rw[zn];have:=Jw x 1;omega
  ·simp
 have:=b (zi n (gI (Ah n) d));have:=c (zi d (gI (Ah n) d));omega
theorem Yr{n d:Int}(h1: -4000000000000000000≤n)(h2:n≤4000000000000000000)(h3:0<d):FR (dG n d)=BB n 0:=by
 unfold dG;have gp:=YO (a:=Ah n) h3;have gd:∃k:Int,n=gI (Ah n) d*k:=by
  obtain⟨k,hk⟩:(Int.gcd (Ah n) d:Int)∣n:=by
   have:=Int.gcd_dvd_left (a:=Ah n) (b:=d);rw[Ar]at this;rw[Ar];exact Int.dvd_natAbs.1 this
  exact⟨k,by rw[Iu];exact hk⟩
 have hz:n=0→gI (Ah n) d=d:=by
  intro h;subst h;rw[Iu,Ar];show((Int.gcd 0 d:Nat):Int)=d;rw[Int.gcd_zero_left];omega
 obtain⟨k,hk⟩:=gd;generalize hg:gI (Ah n) d=g at*;have et:zi n g=k:=by rw[hk,Int.mul_tdiv_cancel_left _ (by omega)]
 rw[et];rcases Int.lt_trichotomy n 0 with hn|hn|hn
 ·have hkn:k<0:=by
   rcases Int.lt_or_le k 0 with x|x
   ·exact x
   ·have:=Int.mul_nonneg (zX gp) x;omega
  rw[PU hkn];unfold BB;rw[if_pos hn];unfold FR;rw[if_neg (by intro h;exact absurd (congrArg (fun l=>ye l 0 0) h) (by show ¬(45:UInt8)=48;decide))];exact if_pos rfl
 ·have hk0:k=0:=by
   have:g*k=0:=by omega
   rcases Int.mul_eq_zero.1 this with x|x
   ·omega
   ·exact x
  rw[hz hn,Int.tdiv_self (by omega),hk0,hn];rfl
 ·have hkp:0<k:=by
   rcases Int.lt_or_le 0 k with x|x
   ·exact x
   ·have:=Int.mul_nonpos_of_nonneg_of_nonpos (zX gp) x;omega
  have hkn:k≤n:=by
   have:=zq (show 1≤g by omega) (show 0≤k by omega);omega
  rw[Px (by omega)];unfold BB;rw[if_neg (by omega),if_pos hn];obtain⟨j,r,j1,j9,hj⟩:=Oz 64 (Ah k).toNat [] (by have:=Ar k;omega) (by have:=Ar k;omega);have hj:B4 (Ah k) 1=zE (48+j)::r:=hj;rw[hj];obtain⟨f1,f2⟩:=TM ⟨j,by omega⟩ j1;unfold FR;rw[if_neg (by intro h;exact f2 (congrArg (fun l=>ye l 0 0) h)),if_neg (by intro h;exact f1 h)]
theorem Yy(a b:Int):BB (a-b) 0=BB a b:=by unfold BB;split<;>split<;>(try split)<;>(try split)<;>omega
theorem J6{a b:List UInt8}(ha:AX a=true)(hb:AX b=true):(-1000000000000000000≤A0 a*AJ b∧A0 a*AJ b≤1000000000000000000)∧(-1000000000000000000≤A0 b*AJ a∧A0 b*AJ a≤1000000000000000000)∧(0<AJ a*AJ b∧AJ a*AJ b≤1000000000000000000):=by
 obtain⟨a1,a2,a3,a4⟩:=GB ha;obtain⟨b1,b2,b3,b4⟩:=GB hb;exact⟨Kc a1 a2 b3 b4,Kc b1 b2 a3 a4,WJ a3 a4 b3 b4⟩
theorem bJ{a b:List UInt8}(ha:AX a=true)(hb:AX b=true):Pc a b=dG (A0 a*AJ b+A0 b*AJ a) (AJ a*AJ b):=by
 obtain⟨_,_,h,_⟩:=J6 ha hb;unfold Pc jZ;rw[if_neg (by omega)]
theorem Zz{a b:List UInt8}(ha:AX a=true)(hb:AX b=true):FR (Pc a (Ju b))=CI a b∧(Pc a (Ju b)).length≤1000000:=by
 obtain⟨hn,n1,n2⟩:=Om hb;obtain⟨s1,s2,s3⟩:=J6 ha hb;rw[bJ ha hn,n1,n2,Int.neg_mul];refine⟨?_,Nat.le_trans (Y9 _ _) (by decide)⟩;rw[Yr (by omega) (by omega) (by omega)];exact Yy _ _
end Go.Sp
namespace Go.Pe
open Sp
open Go.Det
theorem Zv:∀g sp,nX.sp g=some sp→Ad AR g sp:=Ac T211.ok (Ac T212.ok (Ac T169.ok (Ac (CR (by kernel_rfl) (Ab (by kernel_rfl))) (Ac (CR (by kernel_rfl) (Ab (by kernel_rfl))) (Ac (CR (by kernel_rfl) (Ab (by kernel_rfl))) (fun g sp h=>by cases h))))))
theorem T173.ok:Ad AR 173 eJ:=by
 refine Av (X:=nX) rfl Zv (d:=9) (by kernel_rfl) (by kernel_rfl) (by kernel_rfl) (fun(i:List UInt8×List UInt8) hi=>?_) (Ab (by kernel_rfl));obtain⟨a,b⟩:=i;have hi:(AX a&&AX b)=true:=hi;rw[ze]at hi;obtain⟨ha,hb⟩:=hi;obtain⟨s1,s2,s3⟩:=J6 ha hb;refine zt (T173.Ap a b) (zc (FY ha).1 (zc (FY hb).1 (zc rfl (zc rfl ?_))));rw[wr (A0 a*AJ b) (by omega) (by omega),wr (A0 b*AJ a) (by omega) (by omega),wr (_+_) (by omega) (by omega),wr (AJ a*AJ b) (by omega) (by omega)];refine zc ?_ (zg (zD rfl rfl rfl));unfold mM;rw[decide_eq_true (by omega),decide_eq_true (by omega),decide_eq_true (by omega),decide_eq_true (by omega),decide_eq_true (by omega)];rfl
theorem cY:∀g sp,oO.sp g=some sp→Ad AR g sp:=Ac T173.ok (Ac T174.ok (fun g sp h=>by cases h))
theorem T131.ok:Ad AR 131 eN:=by
 refine Av (X:=oO) rfl cY (d:=9) (by kernel_rfl) (by kernel_rfl) (by kernel_rfl) (fun(i:List UInt8×List UInt8) hi=>?_) (Ab (by kernel_rfl));obtain⟨a,b⟩:=i;have hi:(AX a&&AX b)=true:=hi;rw[ze]at hi;obtain⟨ha,hb⟩:=hi;have hl:=(J7 (FY hb).1).1;exact zt (T131.Ap a b) (zc (decide_eq_true (by omega)) (zc (Ak ha (Om hb).1) (zg (zD rfl rfl rfl))))
theorem Zx:∀g sp,oE.sp g=some sp→Ad AR g sp:=Ac T131.ok (Ac T130.ok (fun g sp h=>by cases h))
theorem T55.ok:Ad AR 55 Uj:=by
 refine Av (X:=oE) rfl Zx (d:=9) (by kernel_rfl) (by kernel_rfl) (by kernel_rfl) (fun(i:List UInt8×List UInt8) hi=>?_) (Ab (by kernel_rfl));obtain⟨a,b⟩:=i;have hi:(AX a&&AX b)=true:=hi;rw[ze]at hi;obtain⟨ha,hb⟩:=hi;obtain⟨e,hl⟩:=Zz ha hb;exact zt (T55.Ap a b) (zc (Ak ha hb) (zc (decide_eq_true hl) (zg (zD rfl rfl e))))
end Go.Pe
end
section
namespace Go.Sp
theorem ZF(a:List UInt8):Ay (A3 a)=A3 (Ay a)∧AG (A3 a)=AG a∧Bz (A3 a)=Bz a∧preB (Ay a)=preB a:=by
 unfold A3 preB;cases a with
 |nil=>exact⟨rfl,rfl,rfl,rfl⟩
 |cons c r=>
  have g0:(c::r).getD 0 0=c:=rfl;rw[g0,Go.Pe.ED];by_cases hc:c=45
  ·subst hc;have e:AG (45::r)=AG r:=by
    unfold AG;rw[z5];cases r.findIdx? (fun x=>x==47)<;>rfl
   exact⟨rfl,e.symm,rfl,rfl⟩
  ·rw[if_neg hc];by_cases h7:c=47
   ·subst h7;exact⟨(Go.Pe.ED _ _),rfl,rfl,rfl⟩
   ·rw[if_neg h7];have g1:(c::Ay r).getD 0 0=c:=rfl;rw[g1,if_neg hc];exact⟨by rw[Go.Pe.ED,if_neg h7],rfl,rfl,rfl⟩
theorem Iz{s:List UInt8}(h:AU s=true):s≠[]∧Am s=true∧(s.getD 0 0≠48∨s=[48]):=by
 unfold AU at h;rw[ze,ze,decide_eq_true_eq,Bool.or_eq_true,decide_eq_true_eq,decide_eq_true_eq]at h;exact⟨h.1.1,h.1.2,h.2⟩
theorem Q9{s:List UInt8}(h:AU s=true)(h0:s≠[48]):0<AA 0 s:=by
 obtain⟨h1,h2,h3⟩:=Iz h;cases s with
 |nil=>exact absurd rfl h1
 |cons c r=>
  have g0:(c::r).getD 0 0=c:=rfl;rw[g0]at h3;have hc:c≠48:=by
   rcases h3 with x|x
   ·exact x
   ·exact absurd x h0
  unfold Am at h2;rw[List.all_cons,ze]at h2;have hd:=De h2.1;have hr:Am r=true:=h2.2;have hb:=Bo hr;show 0<AA (10*0+NJ c) r;rw[DZ];have hp:(0:Int)<10^r.length:=Int.pow_pos (by decide);have hn:c.toNat≠48:=fun x=>hc (zz.1 x)
  have hg:0<10*0+NJ c:=by show 0<10*0+((c.toNat:Int)-48);have hd2:0≤((c.toNat:Int)-48):=hd.1;omega
  have:=Int.mul_pos hg hp;omega
theorem Si{a:List UInt8}(h:Bm a=0):GP a=true:=by
 unfold Bm at h;cases hf:GP a with
 |true=>rfl
 |false=>rw[if_pos hf]at h;exact absurd h (by decide)
theorem We{a:List UInt8}{n:Int}(h:N1 a n=true)(hn:n≤9):AX a=true∧Jg a=true∧Hc a=A0 a∧GH a=AJ a:=by
 unfold N1 at h;rw[ze,ze,ze,decide_eq_true_eq,decide_eq_true_eq,decide_eq_true_eq,decide_eq_true_eq]at h;obtain⟨⟨⟨f1,f2⟩,f3⟩,f4⟩:=h;have ff:=Si f2;obtain⟨p1,p2,p3,p4⟩:=ZF a;unfold GP at ff;rw[ze,ze]at ff;obtain⟨⟨ga,gm⟩,gb⟩:=ff;rw[p1]at ga;rw[p2,p3]at gb;have da:=(Iz ga).2.1;have hA:DA (Ay a)=true∧Hc a=A0 a:=by
  unfold Hc A0;rw[p1, ←p4];unfold A3 at da f3 ⊢;unfold DA CG preB;have hl:(Ay a).length≤a.length:=(Go.Pe.T136.Dl a).1;by_cases hc:(Ay a).getD 0 0=45
  ·rw[if_pos hc]at da f3 ⊢;rw[if_pos hc,if_pos hc,if_pos (decide_eq_true hc)];exact⟨by rw[da,decide_eq_true (by omega)];rfl,rfl⟩
  ·rw[if_neg hc]at da f3 ⊢;rw[if_neg hc,if_neg hc,if_neg (by rw[decide_eq_false hc];exact Bool.false_ne_true)];exact⟨by rw[da,decide_eq_true (by omega)];rfl,rfl⟩
 have hB:Am (AG a)=true∧(AG a).length≤9∧AJ a≠0:=by
  unfold AJ;rw[p2,p3];unfold SU at f4;cases hc:Bz a with
  |true=>
   rw[hc]at gb f4;rw[if_pos rfl]at f4;have gb:(AU (AG a)&&decide (AG a≠[48])&&decide (AG a≠[49]))=true:=gb;rw[ze,ze,decide_eq_true_eq]at gb;have:=Q9 gb.1.1 gb.1.2;exact⟨(Iz gb.1.1).2.1,by omega,by rw[if_pos rfl];omega⟩
  |false=>
   rw[((Go.Pe.BX a).2.2 hc).2];exact⟨rfl,by decide,by rw[if_neg Bool.false_ne_true];decide⟩
 obtain⟨b1,b2,b3⟩:=hB;obtain⟨r1,r2⟩:=Go.Pe.G6 b1 (by omega);refine⟨?_,?_,hA.2,?_⟩
 ·unfold AX;rw[decide_eq_true b3,yj];exact J1 (by omega) (by rw[p1];omega) (by rw[p2];omega) (by rw[p1];exact da) (by rw[p2];exact b1)
 ·unfold Jg;rw[hA.1,r1,decide_eq_true (by omega)];rfl
 ·unfold GH AJ;rw[p2,p3,r2]
end Go.Sp
end
section
namespace Go.Pe
open Sp
open Go.Det
theorem T5:∀g sp,Wj.sp g=some sp→Ad AR g sp:=Ac T126.ok (fun g sp h=>by cases h)
theorem Ex{l:List AK}(h:E2 l=true):l.length≤205∧∀x∈l,GJ x=true:=by
 unfold E2 at h;rw[ze,decide_eq_true_eq,zK]at h;exact h
theorem IQ{x:AK}(h:GJ x=true):x.1.length≤40∧Br x.2.1 6=true∧x.2.1.length≤40:=by
 unfold GJ at h;rw[ze,decide_eq_true_eq]at h;refine⟨h.1,h.2,?_⟩;have:=h.2;unfold Br at this;rw[ze,decide_eq_true_eq]at this;exact this.1
theorem Ee{a:List UInt8}(h:Br a 6=true)(h0:Bm a=0):AX a=true∧Jg a=true∧Hc a=A0 a∧GH a=AJ a:=by
 unfold Br at h;rw[ze,decide_eq_false (p:=Bm a≠0) (fun x=>x h0),Bool.false_or]at h;exact We h.2 (by decide)
namespace T50
variable {Q:PV→Ob→Prop}
theorem Aj(l:List AK)(hl:l.length≤205):∀(r:List AK) (i:Nat),l.drop i=r→i≤l.length→Q (.bl (r.all GJ)) []→Ends Wj (L1 l i) Q
 |[],i,h,hi,hq=>by
  have:=drop_nil h hi;exact zk (Ai ..) (zl (by simp;omega) (zg hq))
 |x::r,i,h,hi,hq=>by
  obtain⟨h1,h2,h3⟩:=drop_cons (d:=([],[],false)) h;refine zk (Ai ..) (zc (by simp<;>omega) (zc (by simp<;>omega) ?_));simp only[zh,h2];rw[wr ((i:Int)+1) (by omega) (by omega)];rw[List.all_cons]at hq;have no:GJ x=false→Q (.bl false) []:=fun e=>by rw[e]at hq;exact hq
  refine zj (fun c=>zg (no ?_)) (fun c=>zc (by simp;omega) (zc rfl (zj (fun c2=>zg (no ?_)) (fun c2=>?_))))
  ·have:=of_decide_eq_true c;unfold GJ;rw[decide_eq_false (show ¬x.1.length≤40 by omega)];rfl
  ·have c2:Br x.2.1 6=false:=by simpa using c2
   unfold GJ;rw[c2,z6]
  ·have e1:=of_decide_eq_false c;have c2:Br x.2.1 6=true:=by simpa using c2
   have:GJ x=true:=by unfold GJ;rw[decide_eq_true (show x.1.length≤40 by omega),c2];rfl
   exact Aj l hl r (i+1) h3 h1 (by rw[this]at hq;exact hq)
theorem ok:Ad AR 50 JG:=by
 refine Av (X:=Wj) rfl T5 (d:=9) (by kernel_rfl) (by kernel_rfl) (by kernel_rfl) (fun(i:List AK×Int) _=>?_) (Ab (by kernel_rfl));obtain⟨l,n⟩:=i;have hQ:∀b,D6 l n=b→Ae JG (l,n) (.bl b) []:=fun b hb=>zD rfl rfl hb.symm
 have go:l.length≤205→((l.length:Int)≤n∨200<l.length)→Ends Wj (L1 l 0) (Ae JG (l,n)):=fun h1 h2=>
  Aj l h1 l 0 rfl (zQ _) (hQ _ (by
   unfold D6;rw[decide_eq_false (show ¬205<l.length by omega)];have:(decide ((l.length:Int)>n)&&decide (l.length≤200))=false:=by
    rcases h2 with h|h
    ·rw[decide_eq_false (show ¬(l.length:Int)>n by omega)];rfl
    ·rw[decide_eq_false (show ¬l.length≤200 by omega),z6]
   rw[this];rfl))
 refine zt (Ap l n) (zj (fun c=>zj (fun c2=>zg (hQ _ ?_)) (fun c2=>zj (fun c3=>zg (hQ _ ?_)) (fun c3=>go ?_ ?_))) (fun c=>zj (fun c3=>zg (hQ _ ?_)) (fun c3=>go ?_ ?_)))
 ·have e1:=of_decide_eq_true c;have e2:=of_decide_eq_true c2;unfold D6;rw[decide_eq_true e1,decide_eq_true (show l.length≤200 by omega)];rfl
 ·have e2:=of_decide_eq_true c3;unfold D6;rw[decide_eq_true (show 205<l.length by omega)];simp
 ·have:=of_decide_eq_false c3;omega
 ·have:=of_decide_eq_false c2;omega
 ·have e2:=of_decide_eq_true c3;unfold D6;rw[decide_eq_true (show 205<l.length by omega)];simp
 ·have:=of_decide_eq_false c3;omega
 ·have:=of_decide_eq_false c;omega
end T50
namespace T127
variable {Q:PV→Ob→Prop}
theorem AL(l:List AK)(h205:l.length≤205)(hq:∀ob tail,ob=(0,Obj.arr false 9 .str (B8 l))::tail→Q (.sl 0 1 0 (B8 l).length none) ob):∀(r:List AK) (i:Nat) (acc:List (List UInt8)),l.drop i=r→i≤l.length→acc.length≤i→acc++B8 r=B8 l→
  Ends Wj (L2 l acc.length i acc) Q
 |[],i,acc,h,hi,ha,he=>by
  have:=drop_nil h hi;have he:acc=B8 l:=by simpa [B8]using he
  subst he;exact zk (AN ..) (zl (by simp;omega) (zg (hq _ [] rfl)))
 |x::r,i,acc,h,hi,ha,he=>by
  obtain⟨h1,h2,h3⟩:=drop_cons (d:=([],[],false)) h;refine zk (AN ..) (zc (by simp<;>omega) (zc (by simp<;>omega) (zc (by simp;omega) ?_)));simp only[zh,h2];rw[wr ((i:Int)+1) (by omega) (by omega)];have e:yp acc.length 1=(acc++[x.1]).length:=by simp
  rw[e];exact AL l h205 hq r (i+1) (acc++[x.1]) h3 h1 (by simp;omega) (by rw[zy];exact he)
theorem ok:Ad AR 127 Ui:=by
 refine Av (X:=Wj) rfl T5 (d:=9) (by kernel_rfl) (by kernel_rfl) (by kernel_rfl) (fun(l:List AK) hl=>?_) (Ab (by kernel_rfl));obtain⟨h205,hok⟩:=Ex (l:=l) hl;refine zt (Ap l) ?_;conv=>zeta
 cases l with
 |nil=>exact zk (Ai ..) (zl (by simp) (zg ⟨[],rfl,rfl⟩))
 |cons x r=>
  refine zk (Ai ..) (zc (by simp<;>omega) (zc (by simp<;>omega) (zc (by simp) ?_)));have e0:(x::r).getD (0:Int).toNat ([],[],false)=x:=rfl;simp only[e0];rw[wr ((0:Int)+1) (by omega) (by omega)];refine AL (x::r) h205 ?_ r 1 [x.1] rfl (by simp) (by simp) rfl;rintro ob tail rfl;exact⟨B8 (x::r),UT rfl rfl,rfl⟩
end T127
theorem ZE:∀g sp,kM.sp g=some sp→Ad AR g sp:=Ac T112.ok (Ac T128.ok (Ac T55.ok (Ac T127.ok (fun g sp h=>by cases h))))
theorem Te{l:List AK}(h:E2 l=true):Y3 (B8 l)=true:=by
 obtain⟨h1,h2⟩:=Ex h;unfold Y3 B8;rw[ze,decide_eq_true_eq,zK,List.length_map];refine⟨by omega,fun s hs=>?_⟩;obtain⟨x,hx,rfl⟩:=List.mem_map.1 hs;exact decide_eq_true (IQ (h2 x hx)).1
theorem KJ{l r:List AK}{x:AK}{i:Nat}(h:l.drop i=x::r):(B8 l).drop i=x.1::B8 r:=by
 unfold B8;rw[←List.map_drop,h];rfl
namespace T51
variable {Q:PV→Ob→Prop}
theorem Aj(l:List AK)(hl:E2 l=true):∀(r:List AK) (i:Nat),l.drop i=r→i≤l.length→(∀ob,Q (.dat i64 (I6 ((B8 l).take i) r)) ob)→Ends kM (L1 l (B8 l) i) Q
 |[],i,h,hi,hq=>by
  have:=drop_nil h hi;exact zk (Ai ..) (zl (by simp;omega) (zg (hq _)))
 |x::r,i,h,hi,hq=>by
  obtain⟨h1,h2,h3⟩:=drop_cons (d:=([],[],false)) h;obtain⟨n1,n2,n3⟩:=drop_cons (d:=[]) (KJ h);have hm:x∈l:=CO h;have hlen:=(Ex hl).1;obtain⟨x1,x2,x3⟩:=IQ ((Ex hl).2 x hm);have hc:(decide ((0:Int)≤(i:Int))&&decide ((i:Int)<(l.length:Int)))=true:=by simp;omega
  refine zk (Ai ..) (zc (by simp;omega) (zc (by rw[Te hl];simp;omega) ?_));simp only[zh,h2,n2];rw[wr ((i:Int)+1) (by omega) (by omega)];have et:(B8 l).take (i+1)=(B8 l).take i++[x.1]:=Bt (KJ h);have go:NX ((B8 l).take i) x=0→Ends kM (L1 l (B8 l) ((i:Int)+1)) Q:=fun e=>Aj l hl r (i+1) h3 h1 (fun ob=>by
   have:=hq ob;unfold I6 at this;rw[e,Vk]at this;rw[et];exact this)
  have no:∀e ob,NX ((B8 l).take i) x=e→e≠0→Q (.dat i64 e) ob:=fun e ob h1 h2=>by
   have:=hq ob;unfold I6 at this;rw[h1,J2 _ h2]at this;exact this
  unfold NX at go no;generalize C1 ((B8 l).take i) x.1=e1 at*;by_cases c1:e1=0
  ·subst c1;rw[Vk]at go no;refine zc rfl (zc hc (zc (decide_eq_true (by omega)) ?_));by_cases c2:Bm x.2.1=0
   ·obtain⟨q1,_⟩:=Ee x2 c2;rw[c2,Vk]at go no;rw[c2];unfold S2 at go no;refine zc rfl (zc hc (zc (Ak q1 (by decide)) (zj (fun d=>zc rfl (zg (no 3 _ ?_ (by decide)))) (fun d=>zc hc (zc (Ak q1 (by decide)) (zj (fun f=>zc rfl (zg (no 3 _ ?_ (by decide)))) (fun f=>zl rfl (go ?_))))))))
    ·rw[show decide (CI x.2.1 bO<0)=true from d];rfl
    ·rw[show decide (CI x.2.1 R1>0)=true from f,Bool.or_true];rfl
    ·rw[show decide (CI x.2.1 bO<0)=false from d,show decide (CI x.2.1 R1>0)=false from f];rfl
   ·rw[J2 _ c2]at no;exact zl (by simpa using c2) (zc (by simpa using c2) (zg (no _ _ rfl c2)))
  ·rw[J2 _ c1]at no;exact zl (by simpa using c1) (zl (by simpa using c1) (zc (by simpa using c1) (zg (no _ _ rfl c1))))
theorem ok:Ad AR 51 EC:=by
 refine Av (X:=kM) rfl ZE (d:=9) (by kernel_rfl) (by kernel_rfl) (by kernel_rfl) (fun(l:List AK) hl=>?_) (Ab (by kernel_rfl));have hl:E2 l=true:=hl;have hq:∀v ob,v=A6 l→Ae EC l (.dat i64 v) ob:=fun v ob h=>zD rfl rfl h
 unfold A6 at hq;refine zt (Ap l) (zj (fun c=>zg (hq _ _ ?_)) (fun c=>zc hl (Aj l hl l 0 rfl (zQ _) (fun ob=>hq _ ob ?_))))
 ·have:=of_decide_eq_true c;rw[if_pos (show 200<l.length by omega)]
 ·have:=of_decide_eq_false c;rw[if_neg (show ¬200<l.length by omega)];rfl
end T51
theorem ZH:∀g sp,oC.sp g=some sp→Ad AR g sp:=Ac T184n.ok (fun g sp h=>by cases h)
theorem T139.ok:Ad AR 139 cF:=by
 refine Av (X:=oC) rfl ZH (d:=9) (by kernel_rfl) (by kernel_rfl) (by kernel_rfl) (fun(n:Int) hn=>?_) (Ab (by kernel_rfl));exact zt (T139.Ap n) (zc rfl (zc rfl (zg (zD rfl rfl rfl))))
end Go.Pe
end
section
namespace Go.Pe
open Sp
open Go.Det
theorem Eg{n:Int}(h1: -1000000000<n)(h2:n<1000000000):Ch n=n∧Cf n=[]:=by
 unfold Ch Cf Cr;rw[if_pos (by omega)];exact⟨rfl,rfl⟩
theorem F8{n d:Int}(h1: -1000000000<n)(h2:n<1000000000)(h3: -1000000000<d)(h4:d<1000000000):LN (((n,[]),(d,[])):L0)=true:=by
 have e:∀k:Int,-1000000000<k→k<1000000000→NZ (k,[])=true:=fun k a b=>by
  unfold NZ EY;rw[Fl (n:=k) (by omega) (by omega)];rfl
 unfold LN;rw[e n h1 h2,e d h3 h4];rfl
theorem aY(a b:Int):Sp.first [a,b]=NS a b:=by
 unfold NS;simp only[Sp.first];by_cases h1:a=0<;>by_cases h2:b=0<;>simp[h1,h2]
theorem aR:∀g sp,dH.sp g=some sp→Ad AR g sp:=Ac T136.ok (Ac T137.ok (Ac T138.ok (Ac T139.ok (Ac T184n.ok T7))))
namespace T60
variable {Q:PV→Ob→Prop}
theorem AL(l:List AK)(i:Nat)(hi:i≤300)(o0:List (List UInt8×Bool))(x:AK)(a b:List UInt8)(c:Bool)(m:List (List UInt8×Bool))(seen:List (List UInt8))(hm:IE m (fun y=>y∈seen))(hx:GJ x=true)
  (hq:NX seen x≠0→∀ob,Q (.dat i64 (NX seen x)) ob) (hgo:NX seen x=0→Ends dH (L1 l l l.length ((i:Int)+1) (E4 .str .bool x.1 true m)) Q):Ends dH (L2 l l l.length i o0 x a b c m) Q:=by
 obtain⟨x1,x2,x3⟩:=IQ hx;refine zk (AN ..) ?_;conv=>zeta
 rw[wr ((i:Int)+1) (by omega) (by omega),N8 hm,aY];unfold NX at hq hgo;generalize C1 seen x.1=e1 at*;refine zc (decide_eq_true (by omega)) (zc rfl (zc rfl (zc rfl (zc (decide_eq_true (by omega)) (zc rfl ?_)))));by_cases c1:e1=0
 ·subst c1;rw[Vk]at hq hgo ⊢;by_cases c2:Bm x.2.1=0
  ·obtain⟨q1,q2,q3,q4⟩:=Ee x2 c2;rw[c2,Vk]at hq hgo;rw[c2];obtain⟨s1,s2,s3,s4⟩:=GB q1;have f1:M8 x.2.1=A0 x.2.1:=by unfold M8;rw[q3];exact(Eg s1 s2).1
   have f2:MX x.2.1=[]:=by unfold MX;rw[q3];exact(Eg s1 s2).2
   have f3:Kf x.2.1=AJ x.2.1:=by unfold Kf;rw[q4];exact(Eg (by omega) s4).1
   have f4:Kl x.2.1=[]:=by unfold Kl;rw[q4];exact(Eg (by omega) s4).2
   rw[f1,f2,f3,f4,CH,CH,CH];have k1:TA ((A0 x.2.1,[]),(AJ x.2.1,[])) ((-10,[]),(1,[]))=CI x.2.1 bO:=rfl;have k2:TA ((A0 x.2.1,[]),(AJ x.2.1,[])) ((54,[]),(1,[]))=CI x.2.1 R1:=rfl;rw[k1,k2];have o1:=F8 s1 s2 (show -1000000000<AJ x.2.1 by omega) s4;unfold S2 at hq hgo;refine zl rfl (zc q2 (zc rfl (zc (Ak o1 (F8 (by decide) (by decide) (by decide) (by decide))) (zj (fun d=>zc rfl (zc rfl (zg ?_))) (fun d=>zc rfl (zc (Ak o1 (F8 (by decide) (by decide) (by decide) (by decide))) (zc rfl ?_)))))))
   ·rw[d,Bool.true_or,if_pos rfl]at hq;exact hq (by decide) _
   ·rw[d]at hq hgo;rw[Bool.false_or]at hq hgo;refine zj (fun f=>zg ?_) (fun f=>hgo ?_)
    ·have f':decide (CI x.2.1 R1>0)=true:=by
      cases h:decide (CI x.2.1 R1>0)with
      |true=>rfl
      |false=>rw[h]at f;exact absurd f (by decide)
     rw[f']at hq ⊢;exact hq (by decide) _
    ·have f':decide (CI x.2.1 R1>0)=false:=by
      cases h:decide (CI x.2.1 R1>0)with
      |false=>rfl
      |true=>rw[h]at f;exact absurd f (by decide)
     rw[f'];rfl
  ·rw[J2 _ c2]at hq;exact zc (by simpa using c2) (zc (by simpa using c2) (zg (hq c2 _)))
 ·rw[J2 _ c1]at hq ⊢;exact zc (by simpa using c1) (zc (by simpa using c1) (zg (hq c1 _)))
theorem Aj(l:List AK)(hok:E2 l=true)(w:Int)(hq:∀ob,Q (.dat i64 w) ob):∀(s:List AK) (i:Nat) (m:List (List UInt8×Bool)) (seen:List (List UInt8)),l.drop i=s→i≤l.length→IE m (fun y=>y∈seen)→I6 seen s=w→Ends dH (L1 l l l.length i m) Q
 |[],i,m,seen,h,hi,hm,hw=>by
  have:=drop_nil h hi;have hw:w=0:=by rw[←hw];rfl
  subst hw;exact zk (Ai ..) (zl (by simp;omega) (zg (hq _)))
 |x::s,i,m,seen,h,hi,hm,hw=>by
  obtain⟨h205,hall⟩:=Ex hok;obtain⟨h1,h2,h3⟩:=drop_cons (d:=(([],[],false):AK)) h;have hx:=hall x (CO h);have h2':l.getD i ([],[],false)=x:=h2;unfold I6 at hw;refine zk (Ai ..) (zc (by simp<;>omega) (zc (by simp<;>omega) ?_));simp only[zh,h2'];refine AL l i (by omega) m x _ _ _ m seen hm hx (fun he ob=>?_) (fun he=>?_)
  ·have:w=NX seen x:=by rw[←hw];exact J2 _ he
   rw[←this];exact hq ob
  ·refine Aj l hok w hq s (i+1) _ (seen++[x.1]) h3 h1 (hm.next x.1) ?_;rw[←hw,he,Vk]
theorem ok:Ad AR 60 EC:=by
 refine Av (X:=dH) rfl aR (d:=9) (by kernel_rfl) (by kernel_rfl) (by kernel_rfl) (fun(l:List AK) hl=>?_) (Ab (by kernel_rfl));have hok:E2 l=true:=hl;refine zt (Ap l) (zj (fun c=>zg (zD rfl rfl ?_)) (fun c=>?_))
 ·have c:200<l.length:=by simp at c;omega
  show _=A6 l;unfold A6;rw[if_pos c]
 ·have c:¬200<l.length:=by simp at c;omega
  refine Aj l hok (A6 l) (fun ob=>zD rfl rfl rfl) l 0 [] [] rfl (zQ _) (IE.nil.congr (by simp)) ?_;unfold A6;rw[if_neg c]
end T60
end Go.Pe
end
section
namespace Go.Sp
theorem OJ(l:List AK)(x:Int):∀(r o:List Int),(DN l o x r).length=r.length+o.length+1
 |[],o=>by simp[DN]
 |y::r,o=>by
  unfold DN;split
  ·rw[OJ l x r (y::o)];simp;omega
  ·simp;omega
theorem I3(l:List AK)(o:List Int)(x:Int):(He l o x).length=o.length+1:=by unfold He;rw[OJ];simp
theorem OI(l:List AK)(x z:Int):∀(r o:List Int),z∈DN l o x r↔z=x∨z∈r∨z∈o
 |[],o=>by simp[DN]
 |y::r,o=>by
  unfold DN;split
  ·rw[OI l x z r (y::o)];simp;grind
  ·simp;grind
theorem Q0(l:List AK)(o:List Int)(x z:Int):z∈He l o x↔z=x∨z∈o:=by unfold He;rw[OI];simp
end Go.Sp
namespace Go.Pe
open Sp
open Go.Det
theorem cU:∀g sp,VY.sp g=some sp→Ad AR g sp:=Ac T55.ok (fun g sp h=>by cases h)
def U9(l:List AK)(y:Int):Prop:=0≤y∧y<(l.length:Int)∧AX (zF l y)=true
theorem cK{l:List AK}{a:List Int}(h:gM l a=true):l.length≤205∧a.length≤205∧∀y∈a,U9 l y:=by
 unfold gM at h;rw[ze,ze,decide_eq_true_eq,decide_eq_true_eq,zK]at h;refine⟨h.1.1,h.1.2,fun y hy=>?_⟩;have:=h.2 y hy;rw[ze,ze,decide_eq_true_eq,decide_eq_true_eq]at this;exact⟨this.1.1,this.1.2,this.2⟩
namespace T140
variable {Q:PV→Ob→Prop}
theorem TZ{k:Nat}{o P R:List Int}(ho:R++P=o)(hk:R.length=k):zS k o=R∧yc k o=P∧k+P.length=o.length:=by
 subst ho hk;exact⟨by simp,by simp,by simp⟩
theorem A1(l:List AK)(a:List Int)(ha:a.length≤205)(i:Nat)(hi:i<a.length)(x:Int)(hx:a.getD i 0=x)(hox:U9 l x)(o:List Int)(hall:∀y∈o,U9 l y)(hn:o.length≤205)
  (hgo:∀(n:Nat) (ob:List Int),n=o.length+1→ob=He l o x→Ends VY (L3 l a n ((i:Int)+1) ob) Q):∀(rev P:List Int) (k:Nat),rev.reverse++P=o→rev.length=k→DN l P x rev=He l o x→Ends VY (L4 l a o.length i k o) Q
 |[],P,k,h,hk,he=>by
  obtain⟨t1,t2,t3⟩:=TZ (k:=k) h (by simpa using hk);have hii:(decide ((0:Int)≤(i:Int))&&decide ((i:Int)<(a.length:Int)))=true:=by simp<;>omega
  have hk0:k=0:=by simpa using hk.symm
  refine zk (BA ..) (zl (by simp<;>omega) ?_);simp only[zh,hx,t1,Nat.add_eq,Nat.sub_eq,yf,t2,List.nil_append];rw[wr ((i:Int)+1) (by omega) (by omega)];have e1:zS (o.length-k) P=P:=zp (by omega);rw[e1];refine zc (by simp<;>omega) (zc hii (zc (by simp<;>omega) (zc (by simp<;>omega) (zc (by simp<;>omega) (zc (by simp<;>omega) (hgo _ _ ?_ ?_))))))
  ·simp;omega
  ·rw[←he];simp[DN]
 |y::r,P,k,h,hk,he=>by
  obtain⟨t1,t2,t3⟩:=TZ (k:=k) h (by simpa using hk);have hii:(decide ((0:Int)≤(i:Int))&&decide ((i:Int)<(a.length:Int)))=true:=by simp<;>omega
  have hk1:k=r.length+1:=by simpa using hk.symm
  have hy:U9 l y:=hall y (by rw[←h];simp);have hg:o.getD r.length 0=y:=by
   rw[←h,show(y::r).reverse++P=r.reverse++y::P by simp];exact Cp _ _ _ _ (by simp)
  refine zk (BA ..) (zc (by simp<;>omega) ?_);rw[wr ((k:Int)-1) (by omega) (by omega),wr ((i:Int)+1) (by omega) (by omega),show(k:Int)-1=(r.length:Int)by omega];simp only[zh,hx,t1,Nat.add_eq,Nat.sub_eq,yf,t2,List.nil_append,hg];have e1:zS (o.length-k) P=P:=zp (by omega);rw[e1];obtain⟨y1,y2,y3⟩:=hy;obtain⟨x1,x2,x3⟩:=hox;have hq:(AX (Prod.fst (Prod.snd (ye l (yd y) ([],[],false))))&&AX (Prod.fst (Prod.snd (ye l (yd x) ([],[],false)))))=true:=Ak y3 x3;refine zc (by simp<;>omega) (zc (decide_eq_true (by omega)) (zc (by simp<;>omega) (zc hii (zc (by simp<;>omega) (zc hq (zj (fun c=>?_) (fun c=>?_)))))))
  ·refine A1 l a ha i hi x hx ⟨x1,x2,x3⟩ o hall hn hgo r (y::P) r.length (by rw[←h];simp) rfl ?_;rw[←he];conv=>rhs;unfold DN
   rw[if_pos (show CI (zF l y) (zF l x)>0 from of_decide_eq_true c)]
  ·refine zc (by simp<;>omega) (zc hii (zc (by simp<;>omega) (zc (by simp<;>omega) (zc (by simp<;>omega) (zc (by simp<;>omega) (hgo _ _ ?_ ?_))))))
   ·simp;omega
   ·rw[←he];conv=>rhs;unfold DN
    rw[if_neg (show ¬CI (zF l y) (zF l x)>0 from of_decide_eq_false c)];simp
theorem Bb(l:List AK)(a:List Int)(ha:a.length≤205)(hok:∀y∈a,U9 l y)(w:List Int)(hq:∀ob tail,ob=(0,Obj.arr false 3 (Sh.int zf) w)::tail→Q (.sl 0 1 0 w.length none) ob):∀(s:List Int) (i:Nat) (o:List Int) (n:Nat) (j:Int),a.drop i=s→i≤a.length→n=o.length→j=(i:Int)→o.length≤i→(∀y∈o,U9 l y)→s.foldl (He l) o=w→Ends VY (L3 l a n j o) Q
 |[],i,o,n,j,h,hi,hn,hj,ho,hall,hw=>by
  have:=drop_nil h hi;have hw:o=w:=hw;subst hw hn hj;exact zk (Bk ..) (zl (by simp<;>omega) (zg (hq _ [] rfl)))
 |x::s,i,o,n,j,h,hi,hn,hj,ho,hall,hw=>by
  obtain⟨h1,h2,h3⟩:=drop_cons (d:=0) h;have hox:=hok x (CO h);subst hn hj;refine zk (Bk ..) (zc (by simp<;>omega) ?_);refine A1 l a ha i h1 x h2 hox o hall (by omega) (fun n ob hn hob=>?_) o.reverse [] o.length (by simp) (by simp) rfl;subst hob;refine Bb l a ha hok w hq s (i+1) (He l o x) n _ h3 h1 (by rw[hn,I3]) (by omega) (by rw[I3];omega) (fun y hy=>?_) hw;rcases(Q0 l o x y).1 hy with rfl|h
  ·exact hox
  ·exact hall y h
theorem ok:Ad AR 140 W9:=by
 refine Av (X:=VY) rfl cU (d:=9) (by kernel_rfl) (by kernel_rfl) (by kernel_rfl) (fun(i:List AK×List Int) hi=>?_) (Ab (by kernel_rfl));obtain⟨l,a⟩:=i;obtain⟨hl,ha,hok⟩:=cK (l:=l) (a:=a) hi;refine zt (Ap l a) ?_;conv=>zeta
 cases a with
 |nil=>exact zk (Ai ..) (zl (by simp) (zg ⟨[],rfl,rfl⟩))
 |cons x s=>
  have hx:=hok x (by simp);refine zk (Ai ..) (zc (by simp) ?_);have e0:(x::s).getD (0:Int).toNat 0=x:=rfl;refine zk (AN ..) (zl rfl (zc rfl (zc (by simp) (zc rfl (zc rfl (zc (by simp) (zc (by simp) ?_)))))));rw[wr ((0:Int)+1) (by omega) (by omega)];simp only[e0];refine Bb l (x::s) ha hok (D7 l (x::s)) ?_ s 1 [x] 1 _ rfl (by simp) rfl rfl (by simp) (by simpa using hx) rfl;rintro ob tail rfl;exact⟨D7 l (x::s),UT rfl rfl,rfl⟩
end T140
end Go.Pe
end
section
namespace Go.Sp
def OX(i n:Nat):List Int:=(List.range' i n).map Int.ofNat
theorem TU(n:Nat):iota n=OX 0 n:=by unfold iota OX;rw[List.range_eq_range']
theorem Ty(i n:Nat):OX i (n+1)=(i:Int)::OX (i+1) n:=by unfold OX;rw[List.range'_succ];rfl
theorem Ce(n:Nat):(iota n).length=n:=by unfold iota;simp
theorem EH(n:Nat):(iota n).Nodup:=by
 unfold iota;exact List.pairwise_map.2 ((List.nodup_range (n:=n)).imp (fun h e=>h (Int.ofNat.inj e)))
theorem Ha{n:Nat}{x:Int}:x∈iota n↔0≤x∧x<(n:Int):=by
 unfold iota;rw[List.mem_map];constructor
 ·rintro⟨k,hk,rfl⟩;have:=List.mem_range.1 hk;exact⟨zO k,by show(k:Int)<n;omega⟩
 ·rintro⟨h1,h2⟩;exact⟨x.toNat,List.mem_range.2 (by omega),by show((x.toNat:Nat):Int)=x;omega⟩
theorem Pn:∀(l:List AK) (i:Nat),(Sg i l++OQ i l).Perm (OX i l.length)
 |[],i=>List.Perm.nil
 |x::r,i=>by
  have ih:=Pn r (i+1);rw[zn,Ty];unfold Sg OQ;by_cases h:x.2.2=true
  ·rw[if_pos h,if_pos h];exact ih.cons _
  ·rw[if_neg h,if_neg h];exact zL.trans (ih.cons _)
theorem Sa{l:List Int}{i:Nat}(h:i<l.length):l.getD i 0=l[i]:=by simp[h]
theorem XB{l:List Int}{i k:Nat}(hi:i<l.length)(hk:k<l.length):(dT l i k).Perm l:=by
 unfold dT;rw[Sa hi,Sa hk];exact List.set_set_perm hi hk
theorem JM:∀(i:Nat) (key:Int) (l:List Int),i<l.length→(C0 i key l).Perm l
 |0,key,l,h=>z8 l
 |i+1,key,l,h=>by
  have hk:(ym (Ia key) (i+2)).toNat<l.length:=by
   have:=Int.tmod_lt_of_pos (Ia key) (show(0:Int)<(i:Int)+2 by omega);omega
  have hs:=XB h hk;show(C0 i (Ia key) (dT l (i+1) (ym (Ia key) (i+2)).toNat)).Perm l;exact(JM i (Ia key) _ (by rw[hs.length_eq];omega)).trans hs
theorem Fc(n:Nat)(key:Int):(Cg n key).Perm (iota n):=by
 unfold Cg;rw[zh];cases n with
 |zero=>exact z8 _
 |succ n=>exact JM _ _ _ (by rw[Ce];omega)
theorem VE(o:List Int):pick o (iota o.length)=o:=by
 unfold pick iota;rw[List.map_map];refine List.ext_getElem (by simp) (fun i h1 h2=>?_);simp[h2]
theorem Va{o b:List Int}(h:b.Perm (iota o.length)):(pick o b).Perm o:=by
 have:=h.map (fun k:Int=>o.getD k.toNat 0);have e:=VE o;unfold pick at e ⊢;rw[e]at this;exact this
theorem EU(l:List AK)(key:Int):(EX l key).Perm (OQ 0 l):=Va (Fc _ _)
theorem Ms(l:List AK)(x:Int):∀r o:List Int,(DN l o x r).Perm (x::(r++o))
 |[],o=>z8 _
 |y::r,o=>by
  unfold DN;split
  ·exact(Ms l x r (y::o)).trans (yi _ zL)
  ·have h1:(r.reverse++y::x::o).Perm (r++y::x::o):=(List.reverse_perm r).append_right _;have h2:(r++y::x::o).Perm (y::(r++x::o)):=zL;have h3:(y::(r++x::o)).Perm (y::x::(r++o)):=yi _ zL;exact h1.trans (h2.trans (h3.trans (List.Perm.swap _ _ _)))
theorem VX(l:List AK)(o:List Int)(x:Int):(He l o x).Perm (x::o):=by
 unfold He;refine(Ms l x o.reverse []).trans (yi _ ?_);rw[zH];exact List.reverse_perm o
theorem LF(l:List AK):∀a o:List Int,(a.foldl (He l) o).Perm (a++o)
 |[],o=>z8 _
 |x::a,o=>by
  show(a.foldl (He l) (He l o x)).Perm (x::(a++o));exact(LF l a _).trans ((List.Perm.append_left a (VX l o x)).trans zL)
theorem IF(l:List AK)(a:List Int):(D7 l a).Perm a:=by
 have:=LF l a [];rw[zH]at this;exact this
theorem J4(l:List AK)(a:List Int):(D7 l a).length=a.length:=(IF l a).length_eq
theorem II(l:List AK)(rule:List UInt8)(key:Int):(D0 l rule key).Perm (iota l.length):=by
 rw[TU];refine List.Perm.trans ?_ (Pn l 0);unfold D0;refine List.Perm.append_left _ ?_;split
 ·exact(IF l _).trans (EU l key)
 ·exact EU l key
theorem OG(l:List AK)(rule:List UInt8)(key:Int):(D0 l rule key).length=l.length:=by rw[(II l rule key).length_eq,Ce]
def Rd(R:Int→Int→Prop):List Int→Prop
 |[]=>True
 |a::w=>(∀b,w.head?=some b→R a b)∧Rd R w
theorem U5{R:Int→Int→Prop}{x y:Int}{o:List Int}(h1:R y x)(h2:∀z,o.head?=some z→R x z):∀A:List Int,Rd R (A++y::o)→Rd R (A++y::x::o)
 |[],h=>⟨fun b e=>by cases e;exact h1,h2,h.2⟩
 |a::A,h=>by
  refine⟨fun b e=>h.1 b ?_,U5 h1 h2 A h.2⟩;rw[←e];cases A<;>rfl
theorem O1{a b:List UInt8}(h:CI a b>0):¬CI b a>0:=by
 unfold CI BB at*;split at h<;>(try split at h)<;>split<;>(try split)<;>omega
def dP(l:List AK)(a b:Int):Prop:=¬CI (ix l a) (ix l b)>0
theorem OH(l:List AK)(x:Int):∀r o:List Int,Rd (dP l) (r.reverse++o)→(∀z,o.head?=some z→CI (ix l z) (ix l x)>0)→Rd (dP l) (DN l o x r)
 |[],o,h,hz=>⟨fun z e=>O1 (hz z e),h⟩
 |y::r,o,h,hz=>by
  have h:Rd (dP l) (r.reverse++y::o):=by simpa using h
  unfold DN;split
  ·rename_i c;exact OH l x r (y::o) h (fun z e=>by cases e;exact c)
  ·rename_i c;exact U5 c (fun z e=>O1 (hz z e)) _ h
theorem OC(l:List AK):∀a o:List Int,Rd (dP l) o→Rd (dP l) (a.foldl (He l) o)
 |[],o,h=>h
 |x::a,o,h=>OC l a _ (OH l x o.reverse [] (by simpa using h) (fun z e=>by cases e))
theorem VG(l:List AK)(a:List Int):Rd (dP l) (D7 l a):=OC l a [] trivial
def YZ(l:List AK)(a:Int):Bool:=(l.getD a.toNat ([],[],false)).2.2
def JY(l:List AK)(a b:Int):Prop:=YZ l a=true∨(YZ l b=false∧dP l a b)
theorem Pv:∀(l r:List AK) (i:Nat),l.drop i=r→∀a∈Sg i r,YZ l a=true
 |l,[],i,h,a,ha=>by cases ha
 |l,x::r,i,h,a,ha=>by
  obtain⟨h1,h2,h3⟩:=Go.Pe.drop_cons (d:=([],[],false)) h;unfold Sg at ha;by_cases hx:x.2.2=true
  ·rw[if_pos hx]at ha;rcases yk.1 ha with rfl|ha
   ·unfold YZ;rw[zh,h2];exact hx
   ·exact Pv l r (i+1) h3 a ha
  ·rw[if_neg hx]at ha;exact Pv l r (i+1) h3 a ha
theorem PY:∀(l r:List AK) (i:Nat),l.drop i=r→∀a∈OQ i r,YZ l a=false
 |l,[],i,h,a,ha=>by cases ha
 |l,x::r,i,h,a,ha=>by
  obtain⟨h1,h2,h3⟩:=Go.Pe.drop_cons (d:=([],[],false)) h;unfold OQ at ha;by_cases hx:x.2.2=true
  ·rw[if_pos hx]at ha;exact PY l r (i+1) h3 a ha
  ·rw[if_neg hx]at ha;rcases yk.1 ha with rfl|ha
   ·unfold YZ;rw[zh,h2];simpa using hx
   ·exact PY l r (i+1) h3 a ha
theorem Oh(l:List AK):∀b:List Int,Rd (dP l) b→(∀x∈b,YZ l x=false)→Rd (JY l) b
 |[],_,_=>trivial
 |a::w,h,hb=>⟨fun b e=>.inr ⟨hb b (zr _ (List.mem_of_mem_head? (by rw[e];exact rfl))),h.1 b e⟩,Oh l w h.2 (fun x hx=>hb x (zr _ hx))⟩
theorem OE(l:List AK)(b:List Int)(hb:Rd (JY l) b):∀a:List Int,(∀x∈a,YZ l x=true)→Rd (JY l) (a++b)
 |[],_=>hb
 |x::a,ha=>⟨fun _ _=>.inl (ha x zw),OE l b hb a (fun y hy=>ha y (zr _ hy))⟩
theorem Ry(l:List AK)(key:Int):Rd (JY l) (D0 l MO key):=by
 unfold D0;rw[if_pos rfl];refine OE l _ (Oh l _ (VG l _) (fun x hx=>?_)) _ (fun x hx=>Pv l l 0 rfl x hx);exact PY l l 0 rfl x ((EU l key).mem_iff.1 ((IF l _).mem_iff.1 hx))
theorem UU{R:Int→Int→Prop}:∀(w:List Int) (i:Nat),Rd R w→i+1<w.length→R (w.getD i 0) (w.getD (i+1) 0)
 |[],i,_,h=>by cases h
 |[a],i,_,h=>by simp at h
 |a::b::w,0,hc,_=>hc.1 b rfl
 |a::b::w,i+1,hc,h=>by
  have:=UU (b::w) i hc.2 (by simpa using h);simpa using this
theorem Ky(n:Nat):∀(xs:List Int) (seen:List Bool),seen.length=n→xs.Nodup→(∀x∈xs,0≤x∧x<(n:Int)∧seen.getD x.toNat false=false)→Kg n xs seen=true
 |[],_,_,_,_=>rfl
 |k::r,seen,hs,hd,h=>by
  obtain⟨h1,h2,h3⟩:=h k zw;have hd:=List.nodup_cons.1 hd;unfold Kg;rw[if_neg (by omega),if_neg (by omega),if_neg (by rw[h3];decide)];refine Ky n r _ (by rw[yh,hs]) hd.2 (fun x hx=>?_);obtain⟨x1,x2,x3⟩:=h x (zr _ hx);refine⟨x1,x2,?_⟩;have hne:k.toNat≠x.toNat:=fun e=>by
   have:k=x:=by omega
   exact hd.1 (this▸hx)
  rw[zJ,List.getElem?_set_ne hne, ←zJ];exact x3
theorem IL{a b:List Int}{n:Nat}(h:(a++b).Perm (iota n)):Gb a b n=true:=by
 unfold Gb;have hl:=h.length_eq;rw[Ce,zm]at hl;rw[decide_eq_true (by omega),zM,zh];refine Ky n _ _ (by simp) (h.nodup_iff.2 (EH n)) (fun x hx=>?_);obtain⟨x1,x2⟩:=Ha.1 (h.mem_iff.1 hx);refine⟨x1,x2,?_⟩;simp[zJ,List.getElem?_replicate];split<;>rfl
theorem IB:∀(l seen:List Int),(seen++l).Nodup→(∀x∈l,0≤x)→ET seen l=0
 |[],_,_,_=>rfl
 |x::r,seen,hd,h0=>by
  have hx:=h0 x zw;have hn:x∉seen:=fun hm=>(zR.1 hd).2.2 x hm x zw rfl
  unfold ET;rw[if_neg (by omega),if_neg hn];exact IB r _ (by simpa using hd) (fun y hy=>h0 y (zr _ hy))
theorem NK(known:List Int):∀(l seen:List Int),(seen++l).Nodup→(∀x∈l,x∈known)→My known seen l=0
 |[],_,_,_=>rfl
 |x::r,seen,hd,h0=>by
  have hx:=h0 x zw;have hn:x∉seen:=fun hm=>(zR.1 hd).2.2 x hm x zw rfl
  unfold My;rw[if_neg (fun h=>h hx),if_neg hn];exact NK known r _ (by simpa using hd) (fun y hy=>h0 y (zr _ hy))
theorem V8{a b g:List Int}{n:Nat}(hn:n≤200)(h:(a++b).Perm (iota n))(hg:g.Nodup)(hm:∀x∈g,x∈iota n)(hgl:g.length≤200):P1 a b g=0:=by
 have hl:=h.length_eq;rw[Ce,zm]at hl;have hd:=h.nodup_iff.2 (EH n);have h0:∀x∈a++b,0≤x:=fun x hx=>(Ha.1 (h.mem_iff.1 hx)).1
 have i1:ET [] a=0:=IB a [] (zR.1 hd).1 (fun x hx=>h0 x (zV.2 (.inl hx)));have i2:ET a b=0:=IB b a hd (fun x hx=>h0 x (zV.2 (.inr hx)));unfold P1;rw[if_neg (by omega),i1,if_neg (by simp),if_neg (by omega),i2,if_neg (by simp),if_neg (by omega)];exact NK _ g [] hg (fun x hx=>h.mem_iff.2 (hm x hx))
theorem KO(g a b:List Int):stay g (a++b)=stay g a++stay g b:=by unfold stay;rw[List.filter_append]
theorem Km{all g:List Int}{n:Nat}(h:all.Perm (iota n))(hg:g.Nodup)(hm:∀x∈g,x∈iota n):(stay g all++g).Perm (iota n):=by
 have hd:=h.nodup_iff.2 (EH n);have mem:∀x,x∈stay g all↔x∈all∧x∉g:=fun x=>by unfold stay;rw[List.mem_filter];simp
 refine(List.perm_ext_iff_of_nodup ?_ (EH n)).2 (fun x=>?_)
 ·refine zR.2 ⟨List.Pairwise.filter _ hd,hg,fun x hx y hy e=>?_⟩;subst e;exact((mem x).1 hx).2 hy
 ·rw[zV,mem, ←h.mem_iff];constructor
  ·rintro(h1|h1)
   ·exact h1.1
   ·exact h.mem_iff.2 (hm x h1)
  ·intro hx;by_cases e:x∈g
   ·exact .inr e
   ·exact .inl ⟨hx,e⟩
theorem XY(a b g:List Int):Ja a b g++Mz a b g=stay g (a++b):=by
 unfold Ja Mz;rw[zy,List.take_append_drop,KO]
theorem Zl{a b g:List Int}{n:Nat}(h:(a++b).Perm (iota n))(hg:g.Nodup)(hm:∀x∈g,x∈iota n):(Ja a b g).length=min a.length (n-g.length):=by
 have h1:=(Km h hg hm).length_eq;have h2:(stay g a).length≤a.length:=by unfold stay;exact List.length_filter_le _ _
 rw[Ce,zm,KO,zm]at h1;unfold Ja;rw[zm,List.length_take];omega
theorem RB(a b g:List Int):List.Sublist (Ja a b g) (a++b):=by
 unfold Ja;refine List.Sublist.append ?_ ((List.take_sublist _ _).trans ?_)
 ·unfold stay;exact List.filter_sublist
 ·unfold stay;exact List.filter_sublist
end Go.Sp
end
section
namespace Go.Sp
theorem UB(a b:List UInt8):CI a b<0↔CI b a>0:=by
 unfold CI BB;split<;>(try split)<;>(try split)<;>(try split)<;>omega
end Go.Sp
namespace Go.Pe
open Sp
open Go.Det
section gen
variable {X:AW}{Q:PV→Ob→Prop}
theorem O6(ok:Int→Prop)(l:List AK)(n i:Nat)(F:List Int→Tr)(G:Int→List Int→Tr)
  (hG:∀(j:Nat) (arr:List Int) (x y:Int),j+1<n→arr.length=n→arr.getD (j+1) 0=x→arr.getD j 0=y→ok x→ok y→(CI (zF l x) (zF l y)<0→Ends X (G j ((arr.set (j+1) y).set j x)) Q)→(¬CI (zF l x) (zF l y)<0→Ends X (F arr) Q)→Ends X (G ((j:Int)+1) arr) Q)
  (hG0:∀arr:List Int,arr.length=n→Ends X (F arr) Q→Ends X (G 0 arr) Q) (x:Int) (hx:ok x) (S:List Int):
  ∀(rev P:List Int),(∀y∈rev,ok y)→rev.length+1+P.length+S.length=n→(∀arr,arr=DN l P x rev++S→Ends X (F arr) Q)→∀k:Int,k=(rev.length:Int)→Ends X (G k (rev.reverse++x::(P++S))) Q
 |[],P,_,hl,hq,k,hk=>by
  have hk:k=0:=hk;subst hk;exact hG0 _ (by simp at hl ⊢;omega) (hq _ rfl)
 |y::r,P,hok,hl,hq,k,hk=>by
  have hk:k=(r.length:Int)+1:=by rw[hk];simp
  subst hk;have hl':r.length+1+1+P.length+S.length=n:=by simpa using hl
  have e2:(y::r).reverse++x::(P++S)=r.reverse++y::x::(P++S):=by simp
  have e3:r.reverse++y::x::(P++S)=(r.reverse++[y])++x::(P++S):=by simp
  rw[e2];refine hG r.length _ x y (by omega) (by simp;omega) ?_ (Cp _ _ _ _ (by simp)) hx (hok y zw) (fun c=>?_) (fun c=>hq _ ?_)
  ·rw[e3];exact Cp _ _ _ _ (by simp)
  ·have s1:((r.reverse++y::x::(P++S)).set (r.length+1) y).set r.length x=r.reverse++x::((y::P)++S):=by
    rw[e3,Cw (r.reverse++[y]) (P++S) x y (by simp)];rw[show(r.reverse++[y])++y::(P++S)=r.reverse++y::y::(P++S)by simp];exact Cw _ _ _ _ (by simp)
   rw[s1];refine O6 ok l n i F G hG hG0 x hx S r (y::P) (fun z hz=>hok z (zr _ hz)) (by simp;omega) (fun arr ha=>hq arr ?_) _ rfl;rw[ha];conv=>rhs;unfold DN
   rw[if_pos ((UB _ _).1 c)]
  ·conv=>rhs;unfold DN
   rw[if_neg (fun h=>c ((UB _ _).2 h))];simp
theorem O7(ok:Int→Prop)(l:List AK)(n:Nat)(F:Int→List Int→Tr)(G:Int→Int→List Int→Tr)
  (hG:∀(i j:Nat) (arr:List Int) (x y:Int),i<n→j+1<n→arr.length=n→arr.getD (j+1) 0=x→arr.getD j 0=y→ok x→ok y→(CI (zF l x) (zF l y)<0→Ends X (G i j ((arr.set (j+1) y).set j x)) Q)→(¬CI (zF l x) (zF l y)<0→Ends X (F ((i:Int)+1) arr) Q)→Ends X (G i ((j:Int)+1) arr) Q)
  (hG0:∀(i:Nat) (arr:List Int),i<n→arr.length=n→Ends X (F ((i:Int)+1) arr) Q→Ends X (G i 0 arr) Q)
  (hF:∀(i:Nat) (arr:List Int),i<n→arr.length=n→Ends X (G i i arr) Q→Ends X (F i arr) Q) (w:List Int) (hw:Ends X (F n w) Q):
  ∀(s:List Int) (o:List Int) (k:Int),o.length+s.length=n→k=(o.length:Int)→(∀y∈o,ok y)→(∀y∈s,ok y)→s.foldl (He l) o=w→Ends X (F k (o++s)) Q
 |[],o,k,hn,hk,_,_,he=>by
  have he:o=w:=he;subst he hk;rw[zH];have:o.length=n:=by simpa using hn
  rw[this];exact hw
 |x::s,o,k,hn,hk,ho,hs,he=>by
  subst hk;have hn':o.length+(s.length+1)=n:=by simpa using hn
  refine hF o.length _ (by omega) (by simp;omega) ?_;have:=O6 (X:=X) (Q:=Q) ok l n o.length (F ((o.length:Int)+1)) (G o.length) (fun j arr x y h1 h2 h3 h4 h5 h6 h7 h8=>hG o.length j arr x y (by omega) h1 h2 h3 h4 h5 h6 h7 h8) (fun arr h1 h2=>hG0 o.length arr (by omega) h1 h2) x (hs x zw) s o.reverse [] (fun y hy=>ho y (List.mem_reverse.1 hy)) (by simp;omega)
   (fun arr ha=>?_) (o.length:Int) (by simp)
  ·simpa using this
  ·subst ha;refine O7 ok l n F G hG hG0 hF w hw s (He l o x) _ (by rw[I3];omega) (by rw[I3];omega) (fun y hy=>?_) (fun y hy=>hs y (zr _ hy)) he;rcases(Q0 l o x y).1 hy with rfl|h
   ·exact hs y zw
   ·exact ho y h
end gen
end Go.Pe
end
section
namespace Go.Pe
open Sp
open Go.Det
theorem ZN:∀g sp,K2.sp g=some sp→Ad AR g sp:=Ac T137.ok (Ac T138.ok (Ac (CR (by kernel_rfl) (Ab (by kernel_rfl))) (fun g sp h=>by cases h)))
theorem jL{X:AW}(hX:X.C=AR)(hall:∀g sp,X.sp g=some sp→Ad AR g sp){f:FuncId}{w:Fi}{d:Nat}(hsp:AR.spec f=none)(hprim:AR.prim f=none)(hno:X.sp f=none)
  (hlen:∀i l,w.pre i l=true→(w.g i l).length=l.length) (hev:∀i l,w.pre i l=true→Ends X (TR X d f w i l) (TK w i l)) (hev0:∀i,w.pre i []=true→Ends X (PH X d f w i) (fun v _=>v=.tup []))
  (hfn:∃i,AR.fn f=some i) (hws:∀g w,X.ws g=some w→Dm AR g w:=by intro _ _ h;cases h):Dm AR f w:=by
 have hmg:X.C.mg=false:=by rw[hX];rfl
 rw[←hX]at*;exact Sx hmg hall hws hsp hprim hno hlen hev hev0 hfn
theorem Rm{a:List UInt8}(h1:Br a 6=true)(h2:Bm a=0):Jg a=true∧(M8 a=A0 a∧MX a=[]∧Kf a=AJ a∧Kl a=[])∧LN ((A0 a,[]),(AJ a,[]))=true:=by
 obtain⟨q1,q2,q3,q4⟩:=Ee h1 h2;obtain⟨s1,s2,s3,s4⟩:=GB q1;refine⟨q2,⟨?_,?_,?_,?_⟩,F8 s1 s2 (show -1000000000<AJ a by omega) s4⟩
 ·unfold M8;rw[q3];exact(Eg s1 s2).1
 ·unfold MX;rw[q3];exact(Eg s1 s2).2
 ·unfold Kf;rw[q4];exact(Eg (by omega) s4).1
 ·unfold Kl;rw[q4];exact(Eg (by omega) s4).2
def cM(l:List AK)(y:Int):Prop:=0≤y∧y<(l.length:Int)∧Br (zF l y) 6=true∧Bm (zF l y)=0
theorem Zs{l:List AK}{a:List Int}(h:NY l a=true):l.length≤205∧a.length≤19∧∀y∈a,cM l y:=by
 unfold NY at h;rw[ze,ze,decide_eq_true_eq,decide_eq_true_eq,zK]at h;refine⟨h.1.1,h.1.2,fun y hy=>?_⟩;have:=h.2 y hy;rw[ze,ze,ze,decide_eq_true_eq,decide_eq_true_eq,decide_eq_true_eq]at this;exact⟨this.1.1.1,this.1.1.2,this.1.2,this.2⟩
namespace T129
variable {Q:PV→Ob→Prop}
theorem BF(l:List AK)(a:List Int)(n:Nat)(hn:n≤19)(i j:Nat)(arr:List Int)(x y:Int)(hi:i<n)(hj:j+1<n)(hl:arr.length=n)(hx:arr.getD (j+1) 0=x)(hy:arr.getD j 0=y)(px:cM l x)(py:cM l y)
  (h1:CI (zF l x) (zF l y)<0→Ends K2 (L5 l a n n 20 0 20 l a n 0 n i j l ((arr.set (j+1) y).set j x)) Q) (h2:¬CI (zF l x) (zF l y)<0→Ends K2 (L3 l a n n 20 0 20 l a n 0 n ((i:Int)+1) l arr) Q):
  Ends K2 (L5 l a n n 20 0 20 l a n 0 n i ((j:Int)+1) l arr) Q:=by
 obtain⟨x1,x2,x3,x4⟩:=px;obtain⟨y1,y2,y3,y4⟩:=py;obtain⟨rx,⟨a1,a2,a3,a4⟩,ox⟩:=Rm x3 x4;obtain⟨ry,⟨b1,b2,b3,b4⟩,oy⟩:=Rm y3 y4;have e1:zd .i64 ((j:Int)+1-1)=j:=by rw[wr _ (by omega) (by omega)];omega
 have t1:((j:Int)+1).toNat=j+1:=by omega
 have ex:(ye l (yd x) ([],[],false)).2.1=zF l x:=rfl;have ey:(ye l (yd y) ([],[],false)).2.1=zF l y:=rfl;have k1:TA ((A0 (zF l x),[]),(AJ (zF l x),[])) ((A0 (zF l y),[]),(AJ (zF l y),[]))=CI (zF l x) (zF l y):=rfl;refine zk (CF ..) ?_;conv=>zeta
 simp only[e1,t1,zh,hx,hy,ex,ey,a1,a2,a3,a4,b1,b2,b3,b4,k1,yh];rw[wr ((i:Int)+1) (by omega) (by omega)];have c1:(decide ((0:Int)≤(j:Int)+1)&&decide ((j:Int)+1<(n:Int)))=true:=by simp;omega
 have c2:decide (j+1<arr.length)=true:=decide_eq_true (by omega);have c3:(decide ((0:Int)≤(j:Int))&&decide ((j:Int)<(n:Int)))=true:=by simp;omega
 have c4:decide (j<arr.length)=true:=decide_eq_true (by omega);refine zc (decide_eq_true (by omega)) (zc c1 (zc c2 (zc c3 (zc c4 (zc (by simp;omega) (zc (by simp;omega) (zc rx (zc ry (zc (Ak ox oy) ?_)))))))));exact zj (fun c=>zc c3 (zc c4 (zc c1 (zc c2 (zc c1 (zc c2 (zc c3 (zc c4 (h1 (of_decide_eq_true c)))))))))) (fun c=>h2 (of_decide_eq_false c))
theorem ok:Dm AR 129 O4:=by
 refine jL (X:=K2) rfl ZN (d:=9) (by kernel_rfl) (by kernel_rfl) (by kernel_rfl) (fun(l:List AK) (a:List Int) _=>J4 l a) (fun(l:List AK) (a:List Int) h=>?_) (fun(l:List AK) _=>?_) (Ab (by kernel_rfl))
 ·obtain⟨hl,ha,hok⟩:=Zs (l:=l) (a:=a) h;have fin:∀w,w=D7 l a→Ends K2 (L3 l a a.length a.length 20 0 20 l a a.length 0 a.length a.length l w) (TK O4 l a):=fun w hw=>
   zk (Bk ..) (zl (by simp) (zk (C2 ..) (zl (by simp;omega) (zg ⟨rfl,w,rfl,hw⟩))))
  refine zt (Ap l a) (zk (Ai ..) (zl (by simp;omega) ?_));rw[wr ((0:Int)+1) (by omega) (by omega)];cases a with
  |nil=>exact zk (Bk ..) (zl rfl (zk (C2 ..) (zl rfl (zg ⟨rfl,[],rfl,rfl⟩))))
  |cons x s=>
   generalize hn:(x::s).length=n at*;exact O7 (cM l) l n (fun k arr=>L3 l (x::s) n n 20 0 20 l (x::s) n 0 n k l arr) (fun i j arr=>L5 l (x::s) n n 20 0 20 l (x::s) n 0 n i j l arr)
    (fun i j arr x y h1 h2 h3 h4 h5 h6 h7 h8 h9=>BF l _ n ha i j arr x y h1 h2 h3 h4 h5 h6 h7 h8 h9)
    (fun i arr h1 h2 h3=>zk (CF ..) (zl rfl (by rw[wr ((i:Int)+1) (by omega) (by omega)];exact h3)))
    (fun i arr h1 h2 h3=>zk (Bk ..) (zc (by simp;omega) h3)) (D7 l (x::s)) (fin _ rfl) s [x] _ (by simpa [Nat.add_comm]using hn) rfl (fun y hy=>hok y (by simp at hy;simp[hy])) (fun y hy=>hok y (zr _ hy)) rfl
 ·exact zt (T129z.Ap l) (zk (T129z.Ai ..) (zl rfl (zk (T129z.Bk ..) (zl rfl (zk (T129z.C2 ..) (zl rfl (zg rfl)))))))
end T129
end Go.Pe
end
section
namespace Go.Sp
theorem V4(n:Nat):iota (n+1)=iota n++[(n:Int)]:=by unfold iota;rw[List.range_succ,List.map_append];rfl
end Go.Sp
namespace Go.Pe
open Sp
open Go.Det
theorem UM:∀g sp,WB.sp g=some sp→Ad AR g sp:=Ac T140.ok (Ac T24.ok (fun g sp h=>by cases h))
theorem LQ:∀(l:List AK) (seen:List (List UInt8)),I6 seen l=0→∀x∈l,Bm x.2.1=0
 |[],_,_,x,hx=>by cases hx
 |y::l,seen,h,x,hx=>by
  unfold I6 at h;obtain⟨h1,h2⟩:=F5 h;rcases yk.1 hx with rfl|hx
  ·unfold NX at h1;exact(F5 (F5 h1).2).1
  ·exact LQ l _ h2 x hx
theorem FB{l:List AK}(h:A6 l=0):l.length≤200∧∀x∈l,Bm x.2.1=0:=by
 unfold A6 at h;by_cases e:200<l.length
 ·rw[if_pos e]at h;cases h
 ·rw[if_neg e]at h;exact⟨by omega,LQ l [] h⟩
theorem XZ{l:List AK}{y:Int}(h1:E2 l=true)(h2:A6 l=0)(a:0≤y)(b:y<(l.length:Int)):Br (zF l y) 6=true∧Bm (zF l y)=0:=by
 have hm:l.getD y.toNat ([],[],false)∈l:=by
  have hlt:y.toNat<l.length:=by omega
  have e:l.getD y.toNat ([],[],false)=l[y.toNat]:=by simp[hlt]
  rw[e];exact List.getElem_mem _
 exact⟨(IQ ((Ex h1).2 _ hm)).2.1,(FB h2).2 _ hm⟩
theorem cI{l:List AK}{a:List Int}(h1:E2 l=true)(h2:A6 l=0)(ha:a.length≤19)(hm:∀y∈a,0≤y∧y<(l.length:Int)):NY l a=true:=by
 unfold NY;rw[ze,ze,decide_eq_true_eq,decide_eq_true_eq,zK];refine⟨⟨(Ex h1).1,ha⟩,fun y hy=>?_⟩;obtain⟨a1,a2⟩:=hm y hy;obtain⟨b1,b2⟩:=XZ h1 h2 a1 a2;exact Ak (Ak (Ak (decide_eq_true a1) (decide_eq_true a2)) b1) (decide_eq_true b2)
theorem WH{l:List AK}(h:Zd l=true):E2 l=true∧(l.length≤12∨200<l.length):=by
 unfold Zd at h;rw[ze,Bool.or_eq_true,decide_eq_true_eq,decide_eq_true_eq]at h;exact h
namespace T53
variable {Q:PV→Ob→Prop}
theorem AL(l:List AK)(h205:l.length≤205)(hq:∀ob tail,ob=(0,Obj.arr false 147 G7 l)::tail→Q (.sl 0 3 0 l.length none) ob):∀(r:List AK) (i:Nat) (acc:List AK),l.drop i=r→i≤l.length→acc.length≤i→acc++r=l→
  Ends WB (L2 acc.length l l.length i acc) Q
 |[],i,acc,h,hi,ha,he=>by
  have:=drop_nil h hi;rw[zH]at he;subst he;exact zk (AN ..) (zl (by simp;omega) (zg (hq _ [] rfl)))
 |x::r,i,acc,h,hi,ha,he=>by
  obtain⟨h1,h2,h3⟩:=drop_cons (d:=([],[],false)) h;refine zk (AN ..) (zc (by simp<;>omega) (zc (by simp<;>omega) ?_));simp only[zh,h2];rw[wr ((i:Int)+1) (by omega) (by omega)];refine zc (by simp;omega) ?_;have e:yp acc.length 1=(acc++[x]).length:=by simp
  have ex:(x.1,x.2.1,x.2.2)=x:=rfl;rw[ex,e];exact AL l h205 hq r (i+1) (acc++[x]) h3 h1 (by simp;omega) (by rw[zy];exact he)
theorem ok:Ad AR 53 eL:=by
 refine Av (X:=WB) rfl UM (d:=9) (by kernel_rfl) (by kernel_rfl) (by kernel_rfl) (fun(l:List AK) hl=>?_) (Ab (by kernel_rfl));obtain⟨h205,hok⟩:=Ex (l:=l) hl;refine zt (Ap l) ?_;conv=>zeta
 cases l with
 |nil=>exact zk (Ai ..) (zl (by simp) (zg ⟨[],rfl,rfl⟩))
 |cons x r=>
  refine zk (Ai ..) (zc (by simp<;>omega) (zc (by simp<;>omega) ?_));have e0:(x::r).getD (0:Int).toNat ([],[],false)=x:=rfl;simp only[e0];rw[wr ((0:Int)+1) (by omega) (by omega)];refine zc (by simp) (AL (x::r) h205 ?_ r 1 [x] rfl (by simp) (by simp) rfl);rintro ob tail rfl;exact⟨x::r,WI rfl rfl,rfl⟩
end T53
theorem gL:∀g sp,Pk ((60,EC)::(89,SS)::(90,B2)::(88,GS)::nE) g=some sp→Ad AR g sp:=Ac T60.ok (Ac T89.ok (Ac T90.ok (Ac T88.ok T7)))
theorem gP:∀g w,W6 [(129,O4)] g=some w→Dm AR g w:=UC (fun x hx=>by rw[List.mem_singleton.1 hx];exact T129.ok)
namespace T54
variable {Q:PV→Ob→Prop}
theorem Aj(n:Int)(h0:0≤n)(h3:n≤300)(s:List Int)(hs:s.length≤600)(w:Bool)(hq:∀ob,Q (.bl w) ob):∀(r:List Int) (i:Nat) (seen:List Bool),s.drop i=r→i≤s.length→seen.length=n.toNat→Kg n r seen=w→Ends WB (L1 n n.toNat s.length s.length i s seen) Q
 |[],i,seen,h,hi,hl,hw=>by
  have:=drop_nil h hi;have hw:w=true:=hw.symm;subst hw;exact zk (Ai ..) (zl (by simp;omega) (zg (hq _)))
 |x::r,i,seen,h,hi,hl,hw=>by
  obtain⟨g1,g2,g3⟩:=drop_cons (d:=0) h;refine zk (Ai ..) (zc (by simp;omega) (zc (by simp;omega) (zc (by simp;omega) ?_)));simp only[zh,g2];rw[wr ((i:Int)+1) (by omega) (by omega)];unfold Kg at hw;refine zj (fun c=>?_) (fun c=>zj (fun c2=>?_) (fun c2=>?_))
  ·rw[if_pos (of_decide_eq_true c)]at hw;subst hw;exact zg (hq _)
  ·rw[if_neg (of_decide_eq_false c),if_pos (of_decide_eq_true c2)]at hw;subst hw;exact zg (hq _)
  ·have c:=of_decide_eq_false c;have c2:=of_decide_eq_false c2;rw[if_neg c,if_neg c2]at hw;have d1:(decide ((0:Int)≤x)&&decide (x<((n.toNat:Nat):Int)))=true:=by simp;omega
   have d2:decide (x.toNat<seen.length)=true:=decide_eq_true (by omega);refine zc d1 (zc d2 (zj (fun c3=>?_) (fun c3=>zc d1 (zc d2 ?_))))
   ·rw[if_pos c3]at hw;subst hw;exact zg (hq _)
   ·rw[if_neg (by rw[c3];decide)]at hw;exact Aj n h0 h3 s hs w hq r (i+1) _ g3 g1 (by rw[yh,hl]) hw
theorem ok:Ad AR 54 TD:=by
 refine Av (X:=WB) rfl UM (d:=9) (by kernel_rfl) (by kernel_rfl) (by kernel_rfl) (fun(i:List Int×List Int×Int) hi=>?_) (Ab (by kernel_rfl));obtain⟨a,b,n⟩:=i;have hi:(decide (a.length≤300)&&decide (b.length≤300)&&decide (0≤n)&&decide (n≤300))=true:=hi;rw[ze,ze,ze,decide_eq_true_eq,decide_eq_true_eq,decide_eq_true_eq,decide_eq_true_eq]at hi;obtain⟨⟨⟨ha,hb⟩,h0⟩,h3⟩:=hi;have hq:∀w,w=Gb a b n→∀ob,Ae TD (a,b,n) (.bl w) ob:=fun w hw ob=>zD rfl rfl hw
 unfold Gb at hq;refine zt (Ap a b n) ?_;conv=>zeta
 rw[wr _ (by omega) (by omega)];refine zj (fun c=>zg (hq _ ?_ _)) (fun c=>zc (by simp;omega) (zc (by simp;omega) (zc (by simp;omega) ?_)))
 ·have c:(a.length:Int)+b.length≠n:=by simpa using c
  rw[decide_eq_false c];rfl
 ·have c:(a.length:Int)+b.length=n:=by simpa using c
  have e1:([]:List Int)++a++b=a++b:=by simp
  have e2:yp (yp 0 a.length) b.length=(a++b).length:=by simp
  rw[e1,e2];exact Aj n h0 h3 (a++b) (by simp;omega) _ (hq _ (by rw[decide_eq_true c];rfl)) (a++b) 0 _ rfl (zQ _) (by simp) rfl
end T54
end Go.Pe
end
section
namespace Go.Sp
theorem US:∀(l:List AK) (i:Nat),(Sg i l).length+(OQ i l).length=l.length
 |[],_=>rfl
 |x::r,i=>by
  have:=US r (i+1);unfold Sg OQ;by_cases h:x.2.2=true
  ·rw[if_pos h,if_pos h,zn,zn];omega
  ·rw[if_neg h,if_neg h,zn,zn];omega
theorem ME(n:Nat)(key:Int):(Cg n key).length=n:=by rw[(Fc n key).length_eq,Ce]
theorem SP(l:List AK)(key:Int):(EX l key).length=(OQ 0 l).length:=(EU l key).length_eq
theorem jX{l:List AK}{y:Int}(h:y∈Sg 0 l++OQ 0 l):0≤y∧y<(l.length:Int):=by
 have:=(Pn l 0).mem_iff.1 h;rw[←TU]at this;exact Ha.1 this
theorem VC{l:List AK}{key y:Int}(h:y∈EX l key):0≤y∧y<(l.length:Int):=jX (zV.2 (.inr ((EU l key).mem_iff.1 h)))
end Go.Sp
namespace Go.Pe
open Sp
open Go.Det
section gen
variable {X:AW}{Q:PV→Ob→Prop}
theorem J8(l:List AK)(F:List Int→List Int→Int→Tr)
  (BJ:∀(i:Nat) (x:AK) (E O:List Int),i<l.length→l.getD i ([],[],false)=x→E.length≤i→O.length≤i→(x.2.2=true→Ends X (F (E++[(i:Int)]) O ((i:Int)+1)) Q)→(x.2.2=false→Ends X (F E (O++[(i:Int)]) ((i:Int)+1)) Q)→Ends X (F E O i) Q)
  (E0 O0:List Int) (hend:Ends X (F E0 O0 l.length) Q):∀(r:List AK) (i:Nat) (E O:List Int) (k:Int),l.drop i=r→i≤l.length→k=(i:Int)→E.length≤i→O.length≤i→E++Sg i r=E0→O++OQ i r=O0→Ends X (F E O k) Q
 |[],i,E,O,k,h,hi,hk,hE,hO,h1,h2=>by
  have:=drop_nil h hi;have e1:E=E0:=by rw[←h1];simp[Sg]
  have e2:O=O0:=by rw[←h2];simp[OQ]
  subst hk this;rw[e1,e2];exact hend
 |x::r,i,E,O,k,h,hi,hk,hE,hO,h1,h2=>by
  obtain⟨g1,g2,g3⟩:=drop_cons (d:=(([],[],false):AK)) h;subst hk;unfold Sg at h1;unfold OQ at h2;refine BJ i x E O g1 g2 hE hO (fun c=>?_) (fun c=>?_)
  ·rw[if_pos c]at h1 h2;exact J8 l F BJ E0 O0 hend r (i+1) _ _ _ g3 g1 rfl (by simp;omega) (by omega) (by rw[zy];exact h1) h2
  ·rw[if_neg (by rw[c];decide)]at h1 h2;exact J8 l F BJ E0 O0 hend r (i+1) _ _ _ g3 g1 rfl (by omega) (by simp;omega) h1 (by rw[zy];exact h2)
theorem QR(o b:List Int)(hb:∀x∈b,0≤x∧x<(o.length:Int))(G:List Int→Int→Tr)
  (BJ:∀(j:Nat) (x:Int) (D:List Int),j<b.length→b.getD j 0=x→0≤x∧x<(o.length:Int)→D.length≤j→Ends X (G (D++[o.getD x.toNat 0]) ((j:Int)+1)) Q→Ends X (G D j) Q)
  (hend:Ends X (G (Sp.pick o b) b.length) Q):∀(r:List Int) (j:Nat) (D:List Int) (k:Int),b.drop j=r→j≤b.length→k=(j:Int)→D.length≤j→D++Sp.pick o r=Sp.pick o b→Ends X (G D k) Q
 |[],j,D,k,h,hj,hk,hD,h1=>by
  have:=drop_nil h hj;have e1:D=Sp.pick o b:=by rw[←h1];simp[Sp.pick]
  subst hk this;rw[e1];exact hend
 |x::r,j,D,k,h,hj,hk,hD,h1=>by
  obtain⟨g1,g2,g3⟩:=drop_cons (d:=0) h;subst hk;exact BJ j x D g1 g2 (hb x (CO h)) hD (QR o b hb G BJ hend r (j+1) _ _ g3 g1 rfl (by simp;omega) (by rw[zy];exact h1))
end gen
namespace T62
variable {Q:PV→Ob→Prop}
theorem I4(rule:List UInt8):(rule==[105,110,100,101,120])=decide (rule=MO):=by
 by_cases h:rule=MO
 ·rw[decide_eq_true h,h];rfl
 ·rw[decide_eq_false h];exact beq_eq_false_iff_ne.2 h
theorem ZA{k:Int}(h:Sp.out k 1 2147483646=0):1≤k∧k≤2147483646:=by
 unfold Sp.out at h;split at h
 ·cases h
 ·split at h
  ·cases h
  ·omega
end T62
end Go.Pe
end
