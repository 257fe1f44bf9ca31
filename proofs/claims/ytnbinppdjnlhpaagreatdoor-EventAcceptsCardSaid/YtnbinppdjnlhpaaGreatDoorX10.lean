import Derived.Test.YtnbinppdjnlhpaaGreatDoorX09
import Derived.Test.YtnbinppdjnlhpaaGreatDoorX04
import Derived.Lib.Mul64
/- A part of a proof (no law is stated here). Made by program out of texts by AI agents. -/
open Go.IntKind renaming wrap → zc, u64 → zd, i64 → zG, wrap_i64 → yj
open Bool renaming and_eq_true → ze, true_and → zq, and_eq_false_iff → zK, not_eq_true' → zL, or_eq_true → zQ, false_eq_true → ya
open Go.Pe.Ends renaming tt → zf, leaf → zg, ite → zk, Ag → zy, eq → zz, ff → zD
open Go.Pe.Sh renaming int → zh, list → zr, nlist → zA, pair → zT
open Int renaming toNat_natCast → zi, fdiv → zl, eq_ofNat_of_zero_le → zn, mul_le_mul_of_nonneg_left → zo, lt_or_le → zB, mul_add → zC, lt_of_le_of_lt → zF, pow_succ → zI, mul_nonneg → zS, mul_le_mul_of_nonneg_right → zX, mul_assoc → zZ, natCast_add → z5, add_mul_emod_self_left → z8, mul_sub → yb, mul_one → yc, add_assoc → yg, tdiv → yk, mul_comm → ym
open List renaming replicate → zj, getD_eq_getElem?_getD → zm, take_of_length_le → zt, getElem?_eq_getElem → zw, getLast?_cons_cons → zx, drop_eq_nil_of_le → zH, take_length → zN, drop_eq_getElem_cons → zO, getElem?_eq_none → zV, cons_append → zW, mem_singleton → z7, append_assoc → yd, all_cons → ye, mem_cons → yf, length_cons → yh, headD_cons → yo, getD → yt
open Nat renaming add → zp, zero_le → zR, beq_refl → z6, lt_or_ge → yn, le_refl → yr
open Go.Pe.Ae renaming of → zu
open Go.Sp renaming letter → zE, isName → zJ, mark → zY, first → yi
open UInt8 renaming toNat → zM
open Go.Pe.PV renaming agg → zP, cells → yq
open BitVec renaming ofInt → zU
open Go.Lib renaming half_mul_le → z9
open List.cons renaming injEq → yp
open Min renaming min → yu
section
namespace Go.Pe
open Go.Det
theorem T158.ok:Ad AT 158 DN:=by
 refine Av (X:=BS) rfl Cx (d:=9) (by kernel_rfl) (by kernel_rfl) rfl (fun(s:List UInt8) hl=>?_) (Ab (by kernel_rfl));have hl:s.length≤1000000:=by simpa [DN]using hl
 have hQ:∀v b,v=.bl b∨v=.dat .bool b→b=zJ s→∀ob,Ae DN s v ob:=by
  rintro v b (rfl|rfl) hb ob
  ·exact zu rfl rfl hb
  ·exact zu rfl rfl hb
 refine zz (T158.An s) ?_;conv=>zeta
 refine zy (T158.Ai ..) ?_;conv=>zeta
 cases s with
 |nil=>
  refine zD (by simp) (zD (by simp) ?_);exact zg (hQ _ _ (.inl rfl) rfl _)
 |cons x r=>
  refine zf (by simp) ?_;simp only[AL,Bb,decide_eq_true_eq,zL,decide_eq_false_iff_not,bne_iff_ne,ne_eq,if_true];have step:zE (x.toNat:Int)=true→Ic (x::r) 0=1→Ends BS (T158.L2 (x::r) (x::r) (zp 0 (Ic (x::r) 0))) (Ae DN (x::r)):=by
   intro hm hw;rw[hw];refine T158.loop (x::r) (by simp) r 1 rfl (by simp) (by omega) (fun e=>hQ _ _ (.inl rfl) ?_) (fun e=>hQ _ _ (.inr rfl) ?_)
   ·simp[zJ,e]
   ·simp only[zJ,e,hm,Bool.and_true,yh];congr 1;apply propext;push_cast;omega
  have no:zE (x.toNat:Int)=false→∀ob,Ae DN (x::r) (.bl false) ob:=fun hm=>hQ _ _ (.inl rfl) (by simp[zJ,hm])
  have g0:(x::r).getD 0 0=x:=rfl;by_cases hl:((x::r).getD 0 0).toNat<128
  ·obtain⟨e1,e2⟩:=Ro (s:=x::r) (i:=0) (by simp) hl;rw[e1,g0];have mi:=Iv (x.toNat:Int);generalize ((x.toNat:Nat):Int)=c at mi step no ⊢;by_cases hm:zE c=true
   ·have:=mi.1 hm;repeat' split
    all_goals first|exact step hm e2|(exfalso;omega)
   ·have hm2:zE c=false:=by simpa using hm
    have:¬_:=fun h=>hm (mi.2 h)
    repeat' split
    all_goals first|exact no hm2 _|(exfalso;omega)
  ·have hr:=Oq (s:=x::r) (i:=0) (by simp) (by omega);have hx:zE (x.toNat:Int)=false:=by
    have:¬zE (x.toNat:Int)=true:=fun h=>by
     have:=(Iv _).1 h;rw[g0]at hl;omega
    simpa using this
   repeat' split
   all_goals first|exact no hx _|(exfalso;omega)
namespace T113
variable {Q:PV→Ob→Prop}
theorem loop(s:List UInt8)(hl:s.length≤24):∀(r:List UInt8) (i:Nat),s.drop i=r→i≤s.length→
  (((decide (1≤i)||zE ((r.headD 97).toNat:Int))&&(r.all fun c=>zY (c.toNat:Int)))=false→Q (.bl false) [])→(((decide (1≤i)||zE ((r.headD 97).toNat:Int))&&(r.all fun c=>zY (c.toNat:Int)))=true→Q (.bl true) [])→Ends BS (L1 s i) Q
 |[],i,h,hi,hf,ht=>by
  have:=drop_nil h hi;refine zy (Ai ..) (zD (by simp;omega) ?_);exact zg (ht (by simp;exact .inr (by decide)))
 |x::r,i,h,hi,hf,ht=>by
  obtain⟨g1,g2,g3⟩:=drop_cons (d:=0) h;refine zy (Ai ..) ?_;conv=>zeta
  simp only[zi,g2];rw[wr _ (by omega) (by omega)];have mi:=Nl (x.toNat:Int);have li:=Iv (x.toNat:Int);have step:(1≤i∨zE (x.toNat:Int)=true)→zY (x.toNat:Int)=true→Ends BS (L1 s ((i:Int)+1)) Q:=by
   intro hm hk;have e:((i:Int)+1)=((i+1:Nat):Int):=by push_cast;rfl
   rw[e];refine loop s hl r (i+1) g3 g1 (fun e=>hf ?_) (fun e=>ht ?_)
   ·simp only[ye,hk,zq];have:(r.all fun c=>zY (c.toNat:Int))=false:=by simpa using e
    rw[this,Bool.and_false]
   ·have:(r.all fun c=>zY (c.toNat:Int))=true:=by simpa using e
    simp only[ye,hk,this,Bool.and_true,zQ,decide_eq_true_eq,yo];exact hm
  have no:(¬(1≤i∨zE (x.toNat:Int)=true)∨zY (x.toNat:Int)=false)→Q (.bl false) []:=by
   intro hm;refine hf ?_;simp only[yo,ye];rcases hm with hm|hm
   ·have:(decide (1≤i)||zE (x.toNat:Int))=false:=by
     rw[Bool.eq_false_iff];intro h;apply hm;simpa using h
    rw[this,Bool.false_and]
   ·rw[hm,Bool.false_and,Bool.and_false]
  generalize ((x.toNat:Nat):Int)=c at mi li step no ⊢;by_cases hm:zY c=true
  ·have hm1:=mi.1 hm;by_cases hlt:1≤i∨zE c=true
   ·have hl2:1≤i∨(97≤c∧c≤122)∨(65≤c∧c≤90):=hlt.imp id li.1;repeat' (with_reducible refine zk (fun _=>?_) (fun _=>?_))
    all_goals first|with_reducible exact step hlt hm|(exfalso;simp only[decide_eq_true_eq,decide_eq_false_iff_not,zL,ze,zK,beq_iff_eq,beq_eq_false_iff_ne,ne_eq]at*;omega)
   ·have hl2:¬(1≤i∨(97≤c∧c≤122)∨(65≤c∧c≤90)):=fun h=>hlt (h.imp id li.2)
    repeat' (with_reducible refine zk (fun _=>?_) (fun _=>?_))
    all_goals first|with_reducible exact zg (no (.inl hlt))|(exfalso;simp only[decide_eq_true_eq,decide_eq_false_iff_not,zL,ze,zK,beq_iff_eq,beq_eq_false_iff_ne,ne_eq,Bool.not_eq_false']at*;omega)
  ·have hm2:zY c=false:=by simpa using hm
   have hm1:¬_:=fun h=>hm (mi.2 h)
   repeat' (with_reducible refine zk (fun _=>?_) (fun _=>?_))
   all_goals first|with_reducible exact zg (no (.inr hm2))|(exfalso;simp only[decide_eq_true_eq,decide_eq_false_iff_not,zL,ze,zK,beq_iff_eq,beq_eq_false_iff_ne,ne_eq,Bool.not_eq_false']at*;omega)
theorem ok:Ad AT 113 DN:=by
 refine Av (X:=BS) rfl Cx (d:=9) (by kernel_rfl) (by kernel_rfl) rfl (fun(s:List UInt8) hl=>?_) (Ab (by kernel_rfl));have hQ:∀b,b=zJ s→Ae DN s (.bl b) []:=fun b hb=>zu rfl rfl hb
 refine zz (An s) ?_;conv=>zeta
 rw[AL];cases s with
 |nil=>rw[if_pos (by simp),Bb];exact hQ _ rfl
 |cons x r=>
  rw[if_neg (by simp;omega),AL];by_cases h:(x::r).length≤24
  ·rw[if_neg (by simp at h ⊢;omega)];have h23:decide (r.length≤23)=true:=by simp at h ⊢;omega
   have key:zJ (x::r)=((decide (1≤0)||zE (((x::r).headD 97).toNat:Int))&&((x::r).all fun c=>zY (c.toNat:Int))):=by
    simp only[zJ,h23,yo,ye,zq];cases hlx:zE (x.toNat:Int)with
    |false=>simp
    |true=>
     have:zY (x.toNat:Int)=true:=by unfold zY;rw[hlx];rfl
     simp[this]
   exact loop (x::r) h (x::r) 0 rfl (by simp) (fun e=>hQ _ (by rw[key];exact e.symm)) (fun e=>hQ _ (by rw[key];exact e.symm))
  ·rw[if_pos (by simp at h ⊢;omega),Bb];exact hQ _ (by simp only[zJ];rw[decide_eq_false (by simp at h;omega)];rfl)
end T113
namespace T84
theorem loop{Q:PV→Ob→Prop}(l:List (List UInt8))(s:List UInt8)(hl:l.length≤1000000):∀(r:List (List UInt8)) (i:Nat),l.drop i=r→i≤l.length→Q (.bl (Sp.has r s)) []→Ends BS (L1 l s i) Q
 |[],i,h,hi,hq=>by
  have:=drop_nil h hi;exact zy (Ai ..) (zD (by simp;omega) (zg (by simpa [Sp.has]using hq)))
 |x::r,i,h,hi,hq=>by
  obtain⟨h1,h2,h3⟩:=drop_cons (d:=[]) h;refine zy (Ai ..) (zf (by simp<;>omega) (zf (by simp<;>omega) ?_));simp only[zi,h2,AL,Bb,beq_iff_eq];rw[wr _ (by omega) (by omega)];split
  ·rename_i e;subst e;simpa [Sp.has]using hq
  ·rename_i e;exact loop l s hl r (i+1) h3 h1 (by simpa [Sp.has,Ne.symm e]using hq)
theorem ok:Ad AT 84 YT:=by
 refine Av (X:=BS) rfl Cx (d:=9) (by kernel_rfl) (by kernel_rfl) rfl (fun⟨l,s⟩ hl=>?_) (Ab (by kernel_rfl));exact zz (An l s) (loop l s (by simpa [YT]using hl) l 0 rfl (zR _) (zu rfl rfl rfl))
end T84
namespace T42
theorem loop{Q:PV→Ob→Prop}(a b:List (List UInt8))(hl:a.length≤1000000)(he:a.length=b.length):∀(r q:List (List UInt8)) (i:Nat),a.drop i=r→b.drop i=q→i≤a.length→Q (.bl (decide (r=q))) []→Ends BS (L1 a b i) Q
 |[],q,i,h,h',hi,hq=>by
  have:=drop_nil h hi;have hq0:q=[]:=by rw[←h'];exact zH (by omega)
  subst hq0;exact zy (Ai ..) (zD (by simp;omega) (zg (by simpa using hq)))
 |x::r,q,i,h,h',hi,hq=>by
  obtain⟨h1,h2,h3⟩:=drop_cons (d:=[]) h;cases q with
  |nil=>
   have:=congrArg List.length h';simp at this;omega
  |cons y q=>
   obtain⟨g1,g2,g3⟩:=drop_cons (d:=[]) h';refine zy (Ai ..) (zf (by simp<;>omega) (zf (by simp<;>omega) (zf (by simp<;>omega) ?_)));simp only[zi,h2,g2,AL,Bb,zL,beq_eq_false_iff_ne,ne_eq];rw[wr _ (by omega) (by omega)];split
   ·rename_i e;simpa [e]using hq
   ·rename_i e;have e:x=y:=by simpa using e
    subst e;exact loop a b hl he r q (i+1) h3 g3 h1 (by simpa using hq)
theorem ok:Ad AT 42 Po:=by
 refine Av (X:=BS) rfl Cx (d:=9) (by kernel_rfl) (by kernel_rfl) rfl (fun⟨a,b⟩ hl=>?_) (Ab (by kernel_rfl));refine zz (An a b) ?_;conv=>zeta
 rw[AL];by_cases h:a.length=b.length
 ·rw[if_neg (by simp[h])];exact loop a b (by simpa [Po]using hl) h a b 0 rfl rfl (zR _) (zu rfl rfl rfl)
 ·rw[if_pos (by simp;omega),Bb];refine zu rfl rfl ?_;have:a≠b:=fun e=>h (by rw[e])
  simp[Po,Sp.cG,this]
end T42
namespace T35
theorem loop{Q:PV→Ob→Prop}(l:List (List UInt8))(hl:l.length≤300):∀(r:List (List UInt8)) (i:Nat),l.drop i=r→i≤l.length→Q (.bl (r.all fun s=>decide (s.length≤40))) []→Ends BS (L1 l i) Q
 |[],i,h,hi,hq=>by
  have:=drop_nil h hi;exact zy (Ai ..) (zD (by simp;omega) (zg (by simpa using hq)))
 |x::r,i,h,hi,hq=>by
  obtain⟨h1,h2,h3⟩:=drop_cons (d:=[]) h;refine zy (Ai ..) (zf (by simp<;>omega) (zf (by simp<;>omega) ?_));simp only[zi,h2,AL,Bb,decide_eq_true_eq];rw[wr _ (by omega) (by omega)];split
  ·rename_i e;have:decide (x.length≤40)=false:=decide_eq_false (by omega);simpa [this]using hq
  ·rename_i e;have:decide (x.length≤40)=true:=decide_eq_true (by omega);exact loop l hl r (i+1) h3 h1 (by simpa [this]using hq)
theorem ok:Ad AT 35 IN:=by
 refine Av (X:=BS) rfl Cx (d:=9) (by kernel_rfl) (by kernel_rfl) rfl (fun(i:List (List UInt8)×Int) _=>?_) (Ab (by kernel_rfl));obtain⟨l,n⟩:=i;refine zz (An l n) ?_;conv=>zeta
 have hQ:∀b,b=Sp.Ga l n→Ae IN (l,n) (.bl b) []:=fun b hb=>zu rfl rfl hb
 have go:¬((l.length:Int)>300)→¬((l.length:Int)>n∧(l.length:Int)≤200)→Ends BS (L1 l 0) (Ae IN (l,n)):=by
  intro h1 h2;refine loop l (by omega) l 0 rfl (zR _) (hQ _ ?_);unfold Sp.Ga;have:((decide ((l.length:Int)>n)&&decide (l.length≤200))||decide (300<l.length))=false:=by
   rw[Bool.or_eq_false_iff,zK];refine⟨?_,decide_eq_false (by omega)⟩;by_cases h:(l.length:Int)>n
   ·exact .inr (decide_eq_false (by omega))
   ·exact .inl (decide_eq_false h)
  rw[this];rfl
 have bad:((l.length:Int)>300)∨((l.length:Int)>n∧(l.length:Int)≤200)→Ae IN (l,n) (.bl false) []:=by
  intro h;refine hQ _ ?_;unfold Sp.Ga;have:((decide ((l.length:Int)>n)&&decide (l.length≤200))||decide (300<l.length))=true:=by
   rw[zQ,ze];rcases h with h|⟨h1,h2⟩
   ·exact .inr (decide_eq_true (by omega))
   ·exact .inl ⟨decide_eq_true h1,decide_eq_true (by omega)⟩
  rw[this];rfl
 simp only[AL,Bb,decide_eq_true_eq];repeat' split
 all_goals first|exact go (by omega) (by omega)|exact bad (by omega)
end T35
end Go.Pe
end
section
namespace Go.Pe
open Sp
open Go.Det
theorem Zr{l:List (List UInt8)}(h:Yg l=true):l.length≤300:=by simp[Yg]at h;exact h.1
theorem ZU{l:List (List UInt8)}(h:Yg l=true){x:List UInt8}(hx:x∈l):x.length≤40:=by simp[Yg]at h;exact h.2 x hx
theorem HY{α:Type}{l r:List α}{x:α}{i:Nat}(h:l.drop i=x::r):l.take (i+1)=l.take i++[x]:=by
 have h1:=(drop_cons (d:=x) h).1;have h2:=(drop_cons (d:=x) h).2.1;rw[List.take_add_one];congr 1;have:l[i]?=some x:=by
  have e:=zw h1;rw[e];simp only[yt,e,Option.getD_some]at h2;rw[h2]
 rw[this];rfl
theorem Z4:∀g sp,gY.sp g=some sp→Ad AT g sp:=OI fun x hx=>by
 simp only[kM,yf,List.mem_nil_iff,or_false]at hx;rcases hx with rfl|rfl|rfl|rfl|rfl|rfl|rfl|rfl|rfl|rfl|rfl|rfl|rfl|rfl|rfl|rfl
 ·exact T158.ok
 ·exact T113.ok
 ·exact T84.ok
 ·exact T42.ok
 ·exact T35.ok
 ·exact T87.ok
 ·exact T88.ok
 ·exact T92.ok
 ·exact T93.ok
 ·exact T95.ok
 ·exact T21.ok
 ·exact T22.ok
 ·exact T94.ok
 ·exact T27.ok
 ·exact T91.ok
 ·exact T25.ok
theorem ND{m:List (List UInt8×Bool)}{seen:List (List UInt8)}(hm:Ij m (fun y=>y∈seen))(x:List UInt8):
  yi [Ew (!zJ x) 8,Ew ((D1 .str .bool x m).getD false) 9]=CX seen x:=by
 unfold CX;have h:=hm x;cases hn:zJ x with
 |false=>simp[yi,Ew]
 |true=>
  cases hg:(D1 .str .bool x m).getD false with
  |false=>rw[hg]at h;simp at h;simp[yi,Ew,h]
  |true=>rw[hg]at h;simp at h;simp[yi,Ew,h]
theorem Ij.next{m:List (List UInt8×Bool)}{seen:List (List UInt8)}(hm:Ij m (fun y=>y∈seen))(x:List UInt8):Ij (H4 .str .bool x true m) (fun y=>y∈seen++[x]):=
 (hm.add x).congr fun y=>by simp[or_comm]
namespace T112
theorem loop{Q:PV→Ob→Prop}(l:List (List UInt8))(n:Nat)(hl:Yg l=true)(hn:n<l.length):∀(r:List (List UInt8)) (i:Nat),(l.take n).drop i=r→i≤n→Q (.dat i64 (if l.getD n []∈r then 9 else 0)) []→Ends gY (L1 l n i) Q
 |[],i,h,hi,hq=>by
  have:=drop_nil h (by simp;omega);simp at this;exact zy (Ai ..) (zD (by simp;omega) (zg (by simpa using hq)))
 |x::r,i,h,hi,hq=>by
  obtain⟨h1,h2,h3⟩:=drop_cons (d:=[]) h;have h1:i<n:=by simp at h1;omega
  have hll:=Zr hl;have e:l.getD i []=x:=by
   rw[←h2];simp[yt,List.getElem?_take_of_lt h1]
  refine zy (Ai ..) (zf (by simp<;>omega) (zf (by simp;omega) (zf (by simp;omega) ?_)));simp only[zi,e,AL,Bb,beq_iff_eq];rw[wr _ (by omega) (by omega)];split
  ·rename_i e2;simpa [e2]using hq
  ·rename_i e2;refine loop l n hl hn r (i+1) h3 (by omega) ?_;have e3:¬l.getD n []=x:=fun h=>e2 h.symm
   simpa only[yf,e3,false_or]using hq
theorem ok:Ad AT 112 EL:=by
 refine Av (X:=gY) rfl Z4 (d:=9) (by kernel_rfl) (by kernel_rfl) (by kernel_rfl) (fun(i:List (List UInt8)×Int) hl=>?_) (Ab (by kernel_rfl));obtain⟨l,k⟩:=i;have hl0:(Yg l&&decide (0≤k)&&decide (k<(l.length:Int)))=true:=hl;clear hl;simp only[ze,decide_eq_true_eq]at hl0;obtain⟨⟨hl,h1⟩,h2⟩:=hl0;obtain⟨n,rfl⟩:=zn h1;have h2:n<l.length:=by omega
 have hmem:l.getD n []∈l:=by
  have:l.getD n []=l[n]:=by simp[yt,h2]
  rw[this];exact List.getElem_mem _
 have hx:=ZU hl hmem;have hQ:∀x,x=CX (l.take n) (l.getD n [])→Ae EL (l,(n:Int)) (.dat i64 x) []:=fun x hx=>zu rfl rfl (by simpa [EL]using hx)
 refine zz (An l n) (zf (by simp;omega) ?_);simp only[zi];refine zf (decide_eq_true (by omega)) ?_;rw[AL,Bb];by_cases hi:zJ (l.getD n [])=true
 ·rw[if_neg (by rw[hi];decide)];refine loop l n hl h2 _ 0 rfl (zR _) (hQ _ ?_);rw[CX,if_pos hi];rfl
 ·rw[if_pos (by rw[Bool.not_eq_true _|>.mp hi];rfl)];exact hQ _ (by rw[CX,if_neg hi])
end T112
theorem W9{s:Sh}(hs:s.sz=1){id n:Nat}{tail:Ob}{fz:Bool}{t:TypeId}{o:List s.T}(hn:n=o.length):DQ ⟨0,.leaf,(id,.arr fz t s o)::tail,0⟩ (.list s) (.sl id 1 0 n none)=some (true,o):=by
 subst hn;have h1:AI ((id,Obj.arr fz t s o)::tail) id=some (.arr fz t s o):=by unfold AI;rw[z6];rfl
 unfold DQ;have h2:Dl ⟨0,.leaf,(id,.arr fz t s o)::tail,0⟩ (yq (.sl id 1 0 o.length none))=some (true,[.dat (.list s) o]):=by
  show(match Ca ⟨0,.leaf,(id,.arr fz t s o)::tail,0⟩ (.sl id 1 0 o.length none),some (true,[])with|some (c,x),some (d,xs)=>some (c&&d,x::xs)|_,_=>none)=_;have:Ca ⟨0,.leaf,(id,.arr fz t s o)::tail,0⟩ (.sl id 1 0 o.length none)=some (true,.dat (.list s) o):=by
   unfold Ca AF.obj;simp only[h1,hs,z6,cond_true];simp
  rw[this];rfl
 simp only[It,Sh.MQ];show(match Dl ⟨0,.leaf,(id,.arr fz t s o)::tail,0⟩ (yq (.sl id 1 0 o.length none))with|some (c,cs)=>_|none=>none)=_;rw[h2];have:Cg (.list s) [PV.dat (.list s) o]=some o:=by
  unfold Cg B3 Yi DR;simp
 simp only[F7,this,zq]
theorem KK{s:Sh}(hs:s.sz=1){id n:Nat}{tail:Ob}{fz:Bool}{t:TypeId}{o:List s.T}(hn:n=o.length):Kb [.list s] (.sl id 1 0 n none) ((id,.arr fz t s o)::tail)=some (true,o):=W9 hs hn
theorem YH{s:Sh}(hs:s.sz=1){id n:Nat}{tail:Ob}{fz:Bool}{t:TypeId}{o:List s.T}{e:Int}(hn:n=o.length):Kb [.list s,i64] (.tup [.sl id 1 0 n none,.dat i64 e]) ((id,.arr fz t s o)::tail)=some (true,(o,e)):=by
 unfold Kb E2;simp only;unfold Cw;rw[W9 hs hn];rfl
theorem Ac{C:Ctx}{g0:FuncId}{s0:As}{l:List (FuncId×As)}(h0:Ad C g0 s0)(hl:∀g sp,PY l g=some sp→Ad C g sp):∀g sp,PY ((g0,s0)::l) g=some sp→Ad C g sp:=by
 intro g sp h;unfold PY at h;cases h1:Nat.beq g0 g with
 |true=>rw[h1]at h;cases h;have:=Nat.eq_of_beq_eq_true h1;subst this;exact h0
 |false=>rw[h1]at h;exact hl g sp h
end Go.Pe
end
section
namespace Go.Sp
end Go.Sp
namespace Go.Pe
open Go.Det
noncomputable section
end
end Go.Pe
end
section
namespace Go.Sp
end Go.Sp
namespace Go.Pe
open Go.Det
theorem Wh{s:Sh}(hs:s.sz=1){ob:Ob}{id off n:Nat}{c:Option Nat}{fz:Bool}{t:TypeId}{o:List s.T}(hg:AI ob id=some (.arr fz t s o))(hle:off+n≤o.length):
  DQ ⟨0,.leaf,ob,0⟩ (.list s) (.sl id 1 off n c)=some (true,(o.drop off).take n):=by
 unfold DQ;have h2:Dl ⟨0,.leaf,ob,0⟩ (yq (.sl id 1 off n c))=some (true,[.dat (.list s) ((o.drop off).take n)]):=by
  show(match Ca ⟨0,.leaf,ob,0⟩ (.sl id 1 off n c),some (true,[])with|some (c,x),some (d,xs)=>some (c&&d,x::xs)|_,_=>none)=_;have:Ca ⟨0,.leaf,ob,0⟩ (.sl id 1 off n c)=some (true,.dat (.list s) ((o.drop off).take n)):=by
   unfold Ca AF.obj;simp only[hg,hs,z6,cond_true];rw[decide_eq_true hle]
  rw[this];rfl
 simp only[It,Sh.MQ];show(match Dl ⟨0,.leaf,ob,0⟩ (yq (.sl id 1 off n c))with|some (c,cs)=>_|none=>none)=_;rw[h2];have:Cg (.list s) [PV.dat (.list s) ((o.drop off).take n)]=some ((o.drop off).take n):=by
  unfold Cg B3 Yi DR;simp
 simp only[F7,this,zq]
theorem Qi{st:AF}{a b:Sh}{l:List Sh}{p:PV}{ps:List PV}{x:a.T}{y:(Bh (b::l)).T}(h1:DQ st a p=some (true,x))(h2:Cw st (b::l) ps=some (true,y)):Cw st (a::b::l) (p::ps)=some (true,(x,y)):=by
 show(match DQ st a p,Cw st (b::l) ps with|some (c,x),some (d,y)=>some (c&&d,(x,y))|_,_=>none)=_;rw[h1,h2];rfl
theorem TW{st:AF}{s:Sh}:DQ st (.list s) .nil=some (true,[]):=rfl
end Go.Pe
namespace Go.Sp
end Go.Sp
namespace Go.Pe
open Go.Det
end Go.Pe
end
section
namespace Go.Sp
end Go.Sp
namespace Go.Pe
open Go.Det
section gen
variable {X:AX}{Q:PV→Ob→Prop}
end gen
end Go.Pe
end
section
namespace Go.Sp
def compare(a b:Int):Int:=if a<b then -1 else if a>b then 1 else 0
end Go.Sp
namespace Go.Pe
open Go.Det
noncomputable section
noncomputable def My:As:=⟨[i64,i64],fun _=>true,[i64],fun i=>Sp.compare i.1 i.2,false⟩
noncomputable def fL:As:=⟨[i64],fun _=>false,[i64],fun _=>0,false⟩
noncomputable def iY:List (FuncId×As):=[(87,C2),(92,J5),(94,Is),(158,DN),(113,DN),(84,YT),(112,EL),(200,C2),(119,My)]
noncomputable def kY:AX:=X7 iY
end
end Go.Pe
end
section
namespace Go.Sp
def val(b:Int):List Int→Int
 |[]=>0
 |d::r=>d+b*val b r
def At(b:Int)(l:List Int):Prop:=∀d∈l,0≤d∧d<b
def nz(l:List Int):Prop:=l.getLast?≠some 0
def SW(b:Nat):Nat→Nat→List Int
 |0,_=>[]
 |f+1,n=>if n=0 then[]else((n % b:Nat):Int)::SW b f (n/b)
def dg(b:Nat)(n:Int):List Int:=SW b n.toNat n.toNat
def Az:List Int→List Int
 |[]=>[]
 |d::r=>match Az r with
  |[]=>if d=0 then[]else[d]
  |s=>d::s
theorem Aw{b:Int}(hb:0≤b):∀ {l:List Int},At b l→0≤val b l
 |[],_=>Int.le_refl _
 |d::r,h=>by
  have h1:=(h d (by simp)).1;have h2:=Aw hb (l:=r) fun x hx=>h x (by simp[hx])
  have:=zS hb h2;unfold val;omega
theorem Cv(b:Int):∀(l r:List Int),val b (l++r)=val b l+b^l.length*val b r
 |[],r=>by simp[val]
 |d::l,r=>by
  rw[zW,val,Cv b l r,val,yh,zI,zC,yg, ←zZ,ym b (b^l.length)]
theorem JK(b:Int):∀n,val b (zj n 0)=0
 |0=>rfl
 |n+1=>by rw[List.replicate_succ,val,JK b n];simp
theorem Bs{b:Int}(hb:0<b):∀ {l:List Int},At b l→val b l<b^l.length
 |[],_=>by simp[val]
 |d::r,h=>by
  have h1:=(h d (by simp)).2;have h2:=Bs hb (l:=r) fun x hx=>h x (by simp[hx])
  have h3:b*val b r≤b*(b^r.length-1):=zo (by omega) (by omega);rw[val,yh,zI,ym (b^r.length) b];rw[yb,yc]at h3;omega
theorem Hu(b:Int):∀l,val b (Az l)=val b l
 |[]=>rfl
 |d::r=>by
  have ih:=Hu b r;unfold Az;split
  ·rename_i h;rw[h]at ih;have ih:val b r=0:=ih.symm;split
   ·rename_i h0;show(0:Int)=d+b*val b r;rw[ih,h0];simp
   ·show d+b*(0:Int)=d+b*val b r;rw[ih]
  ·rw[val,val,ih]
theorem Gv{b:Int}:∀ {l:List Int},At b l→At b (Az l)
 |[],h=>h
 |d::r,h=>by
  have ih:=Gv (l:=r) fun x hx=>h x (by simp[hx])
  have hd:=h d (by simp);unfold Az;split
  ·split
   ·intro x hx;cases hx
   ·intro x hx;rw[z7.1 hx];exact hd
  ·rename_i s hs;intro x hx;rcases yf.1 hx with rfl|hx
   ·exact hd
   ·exact ih x hx
theorem Jq:∀l:List Int,nz (Az l)
 |[]=>by simp[nz,Az]
 |d::r=>by
  have ih:=Jq r;unfold Az;split
  ·split
   ·simp[nz]
   ·rename_i h;simp[nz,h]
  ·rename_i s hs;unfold nz at ih ⊢;cases hr:Az r with
   |nil=>exact absurd hr hs
   |cons a t=>rw[hr]at ih;rw[zx];exact ih
theorem G0:∀ {l:List Int},nz l→Az l=l
 |[],_=>rfl
 |d::r,h=>by
  unfold Az;cases r with
  |nil=>
   have:d≠0:=by simpa [nz]using h
   simp[Az,this]
  |cons a t=>
   have:nz (a::t):=by unfold nz at h ⊢;rwa [zx]at h
   rw[G0 this]
theorem KT{b:Int}(hb:0<b):∀ {l:List Int},At b l→nz l→l≠[]→0<val b l
 |[],_,_,h=>absurd rfl h
 |d::r,h,hn,_=>by
  have h1:=(h d (by simp)).1;have hr:At b r:=fun x hx=>h x (by simp[hx])
  have h2:=Aw (by omega) hr;unfold val;cases r with
  |nil=>
   have:d≠0:=by simpa [nz]using hn
   simp[val];omega
  |cons a t=>
   have:=KT hb hr (by unfold nz at hn ⊢;rwa [zx]at hn) (by simp);have:=Int.mul_pos hb this;omega
theorem val_inj{b:Int}(hb:0<b):∀ {l r:List Int},At b l→At b r→nz l→nz r→val b l=val b r→l=r
 |[],[],_,_,_,_,_=>rfl
 |[],x::r,_,h2,_,n2,h=>by have:=KT hb h2 n2 (by simp);rw[←h]at this;simp[val]at this
 |x::l,[],h1,_,n1,_,h=>by have:=KT hb h1 n1 (by simp);rw[h]at this;simp[val]at this
 |x::l,y::r,h1,h2,n1,n2,h=>by
  have a1:=h1 x (by simp);have a2:=h2 y (by simp);unfold val at h;have e1:x=y:=by
   have h3:(x+b*val b l) % b=(y+b*val b r) % b:=by rw[h]
   rw[z8,z8,Int.emod_eq_of_lt a1.1 a1.2,Int.emod_eq_of_lt a2.1 a2.2]at h3;exact h3
  subst e1;have e2:val b l=val b r:=by
   have h4:b*val b l=b*val b r:=by omega
   exact Int.eq_of_mul_eq_mul_left (by omega) h4
  have t1:∀ {x:Int} {l:List Int},nz (x::l)→nz l:=by
   intro x l hn;cases l with
   |nil=>simp[nz]
   |cons a t=>unfold nz at hn ⊢;rwa [zx]at hn
  rw[val_inj hb (fun z hz=>h1 z (by simp[hz])) (fun z hz=>h2 z (by simp[hz])) (t1 n1) (t1 n2) e2]
theorem OE(b:Nat)(hb:2≤b):∀f n,n≤f→val b (SW b f n)=n
 |0,n,h=>by simp[SW,val];omega
 |f+1,n,h=>by
  unfold SW;split
  ·rename_i h0;subst h0;rfl
  ·rename_i h0;have h1:n/b≤f:=by
    have:n/b<n:=Nat.div_lt_self (by omega) hb;omega
   rw[val,OE b hb f (n/b) h1];have:=Nat.mod_add_div n b;have h2:((n % b+b*(n/b):Nat):Int)=(n:Int):=by rw[this]
   push_cast at h2 ⊢
   exact h2
theorem Q6(b:Nat)(hb:2≤b):∀f n,At b (SW b f n)
 |0,n=>by intro x hx;cases hx
 |f+1,n=>by
  unfold SW;split
  ·intro x hx;cases hx
  ·intro x hx;rcases yf.1 hx with rfl|hx
   ·have:=Nat.mod_lt n (show 0<b by omega);omega
   ·exact Q6 b hb f (n/b) x hx
theorem VI(b:Nat)(hb:2≤b):∀f n,n≤f→nz (SW b f n)
 |0,n,_=>by simp[SW,nz]
 |f+1,n,h=>by
  unfold SW;split
  ·simp[nz]
  ·rename_i h0;have h1:n/b≤f:=by
    have:n/b<n:=Nat.div_lt_self (by omega) hb;omega
   have ih:=VI b hb f (n/b) h1;cases hr:SW b f (n/b)with
   |nil=>
    have hv:=OE b hb f (n/b) h1;rw[hr]at hv;have hv:n/b=0:=by
     have:((n/b:Nat):Int)=0:=by rw[←hv];rfl
     exact_mod_cast this
    have h2:n % b=n:=Nat.mod_eq_of_lt ((Nat.div_eq_zero_iff_lt (by omega)).1 hv);simp[nz];omega
   |cons a t=>rw[hr]at ih;unfold nz at ih ⊢;rw[zx];exact ih
theorem Dj{b:Nat}(hb:2≤b){n:Int}(hn:0≤n):val b (dg b n)=n:=by
 unfold dg;rw[OE b hb _ _ (yr _)];omega
theorem HR{b:Nat}(hb:2≤b)(n:Int):At b (dg b n):=Q6 b hb _ _
theorem Ts{b:Nat}(hb:2≤b)(n:Int):nz (dg b n):=VI b hb _ _ (yr _)
theorem Kq{b:Nat}(hb:2≤b){l:List Int}(h1:At b l)(h2:nz l):l=dg b (val b l):=
 val_inj (by omega) h1 (HR hb _) h2 (Ts hb _) (Dj hb (Aw (by omega) h1)).symm
theorem T5{b:Nat}(hb:2≤b){l:List Int}(h1:At b l):Az l=dg b (val b l):=by
 rw[←Hu];exact Kq hb (Gv h1) (Jq l)
theorem dL{b:Nat}(hb:2≤b){n:Int}(hn:0≤n):dg b n=[]↔n=0:=by
 constructor
 ·intro h;have:=Dj hb hn;rw[h]at this;simpa [val]using this.symm
 ·rintro rfl;rfl
end Go.Sp
end
section
namespace Go.Sp
theorem G5:∀l:List Int,Az (l++[0])=Az l
 |[]=>rfl
 |d::r=>by
  rw[zW];unfold Az;rw[G5 r]
theorem T1{l:List Int}{d:Int}(h:d≠0):nz (l++[d]):=by
 unfold nz;rw[List.getLast?_append];simp[h]
theorem YY{x:Int}{l:List Int}(hn:nz (x::l)):nz l:=by
 cases l with
 |nil=>simp[nz]
 |cons a t=>unfold nz at hn ⊢;rwa [zx]at hn
theorem CH{b:Int}(hb:0<b):∀ {l:List Int},At b l→nz l→l≠[]→b^(l.length-1)≤val b l
 |[],_,_,h=>absurd rfl h
 |[d],h,hn,_=>by
  have:=KT hb h hn (by simp);simp at this ⊢;omega
 |d::e::r,h,hn,_=>by
  have h1:=(h d (by simp)).1;have ih:=CH hb (l:=e::r) (fun x hx=>h x (by simp[hx])) (YY hn) (by simp);have e1:(d::e::r).length-1=((e::r).length-1)+1:=by simp
  rw[e1,zI,ym];have:=zo ih (show 0≤b by omega);unfold val;omega
theorem AQ{b:Int}(hb:0<b):∀n:Nat,0<b^n
 |0=>by simp
 |n+1=>by rw[zI];exact Int.mul_pos (AQ hb n) hb
theorem AU{b:Int}(hb:1≤b){m n:Nat}(h:m≤n):b^m≤b^n:=by
 obtain⟨k,rfl⟩:=Nat.exists_eq_add_of_le h;induction k with
 |zero=>exact Int.le_refl _
 |succ k ih=>
  have:=ih (by omega);rw[show m+(k+1)=(m+k)+1 from rfl,zI];have hp:=AQ (show 0<b by omega) (m+k);have:=zo hb (show 0≤b^(m+k)by omega);rw[yc]at this;omega
theorem DS{b:Int}(hb:2≤b){l r:List Int}(h1:At b l)(h2:At b r)(n2:nz r)(h:l.length<r.length):val b l<val b r:=by
 have a1:=Bs (by omega) h1;have a2:=CH (by omega) h2 n2 (by rintro rfl;simp at h);have:=AU (show 1≤b by omega) (show l.length≤r.length-1 by omega);omega
theorem AH{b:Int}{l:List Int}(h:At b l)(i:Nat):At b (l.take i):=fun d hd=>h d (List.mem_of_mem_take hd)
theorem Fy{b:Int}{l:List Int}(h:At b l)(i:Nat):At b (l.drop i):=fun d hd=>h d (List.mem_of_mem_drop hd)
theorem B4(b:Int)(l:List Int)(i:Nat)(h:i≤l.length):val b l=val b (l.take i)+b^i*val b (l.drop i):=by
 conv=>lhs;rw[←List.take_append_drop i l]
 rw[Cv,List.length_take,Nat.min_eq_left h]
theorem HC{b:Int}(hb:2≤b){l r:List Int}{x y:Int}{s:List Int}{i:Nat}(h1:At b l)(hr:At b r)(hl:l.drop i=x::s)(hr2:r.drop i=y::s)(h:x<y):val b l<val b r:=by
 have i1:i≤l.length:=by
  rcases yn l.length i with h|h
  ·rw[zH (by omega)]at hl;cases hl
  ·exact h
 have i2:i≤r.length:=by
  rcases yn r.length i with h|h
  ·rw[zH (by omega)]at hr2;cases hr2
  ·exact h
 have a1:=Bs (by omega) (AH h1 i);have a2:=Aw (show 0≤b by omega) (AH hr i);rw[List.length_take,Nat.min_eq_left i1]at a1;rw[B4 b l i i1,B4 b r i i2,hl,hr2,show val b (x::s)=x+b*val b s from rfl,show val b (y::s)=y+b*val b s from rfl];have hp:=AQ (show 0<b by omega) i;have e1:b^i*(x+b*val b s)=b^i*x+b^i*(b*val b s):=zC _ _ _;have e2:b^i*(y+b*val b s)=b^i*y+b^i*(b*val b s):=zC _ _ _;have e3:b^i*(x+1)≤b^i*y:=zo (by omega) (by omega);rw[zC,yc]at e3;rw[e1,e2];omega
theorem OZ(b:Nat)(hb:2≤b):∀(k f n:Nat),n<b^k→(SW b f n).length≤k
 |k,0,n,_=>by simp[SW]
 |0,f+1,n,h=>by
  have:n=0:=by simpa using h
  subst this;simp[SW]
 |k+1,f+1,n,h=>by
  unfold SW;split
  ·simp
  ·have:n/b<b^k:=by
    rw[Nat.pow_succ]at h;exact Nat.div_lt_of_lt_mul (by rw[Nat.mul_comm];exact h)
   have:=OZ b hb k f (n/b) this;simp;omega
end Go.Sp
end
section
namespace Go.Pe
open Go.Det
noncomputable section
open List Int Prod
namespace T119
def T(a b:Int):Tr:=tree BS false 9 119 (Af ([zh zG,zh zG]) (a,b))
theorem An(a b:Int):T a b=let a':Tr:=.leaf (.dat i64 (-1:Int)) [];let b':Tr:=.leaf (.dat i64 (0:Int)) [];let c':Tr:=.leaf (.dat i64 (1:Int)) [];.ite (a !=a) (.ite (b !=b) b' a') (.ite (b !=b) c' (.ite (decide (a<b)) a' (.ite (decide (a>b)) c' b'))):=by kernel_rfl
end T119
namespace T200
def T(l:List Int):Tr:=tree BS false 9 200 (Af ([zr i64]) l)
def L1(v3:Int)(v6:List Int)(v7 v8:Int):Tr:=re ((T [])) (Ar 18 [(3,.dat i64 v3),(6,.dat (zr i64) v6),(7,.dat i64 v7),(8,.dat i64 v8)] [] 0)
theorem An(l:List Int):T l=L1 0 l ((length l:Int)) 0:=by kernel_rfl
theorem Ai(v3:Int)(v6:List Int)(v7 v8:Int):stepT BS (L1 v3 v6 v7 v8)=.ite (decide (v8<v7)) (.ite (decide (0≤v8)&&decide (v8<(length v6:Int))) (.ite (getD v6 (toNat v8) 0 !=v3) (.leaf (.dat i64 (getD v6 (toNat v8) 0)) []) (L1 v3 v6 v7 (zc .i64 (v8+1)))) .fail) (.leaf (.dat i64 v3) []):=by kernel_rfl
end T200
end
namespace T119
theorem ok:Ad AT 119 My:=by
 refine Av (X:=BS) rfl Cx (d:=9) (by kernel_rfl) (by kernel_rfl) rfl (fun(i:Int×Int) _=>?_) (Ab (by kernel_rfl));obtain⟨a,b⟩:=i;have hQ:∀n,n=Sp.compare a b→∀ob,Ae My (a,b) (.dat i64 n) ob:=fun n hn ob=>zu rfl rfl hn
 refine zz (An a b) (zD (by simp) (zD (by simp) (zk (fun c=>zg (hQ _ ?_ _)) (fun c=>zk (fun c2=>zg (hQ _ ?_ _)) (fun c2=>zg (hQ _ ?_ _))))))
 ·unfold Sp.compare;rw[if_pos (of_decide_eq_true c)]
 ·unfold Sp.compare;rw[if_neg (of_decide_eq_false c),if_pos (of_decide_eq_true c2)]
 ·unfold Sp.compare;rw[if_neg (of_decide_eq_false c),if_neg (of_decide_eq_false c2)]
end T119
namespace T200
theorem loop{Q:PV→Ob→Prop}(l:List Int)(hl:l.length≤1000000):∀(r:List Int) (i:Nat),l.drop i=r→i≤l.length→Q (.dat i64 (yi r)) []→Ends BS (L1 0 l l.length i) Q
 |[],i,h,hi,hq=>by
  have:=drop_nil h hi;exact zy (Ai ..) (zD (by simp;omega) (zg hq))
 |x::r,i,h,hi,hq=>by
  obtain⟨h1,h2,h3⟩:=drop_cons (d:=0) h;refine zy (Ai ..) (zf (by simp<;>omega) (zf (by simp<;>omega) ?_));simp only[zi,h2];rw[wr ((i:Int)+1) (by omega) (by omega)];by_cases e:x=0
  ·subst e;exact zD rfl (loop l hl r (i+1) h3 h1 (by simpa [yi]using hq))
  ·exact zf (by simpa using e) (zg (by simpa [yi,e]using hq))
theorem ok:Ad AT 200 C2:=by
 refine Av (X:=BS) rfl Cx (d:=9) (by kernel_rfl) (by kernel_rfl) rfl (fun(l:List Int) hl=>?_) (Ab (by kernel_rfl));exact zz (An l) (loop l (by simpa [C2]using hl) l 0 rfl (zR _) (zu rfl rfl rfl))
end T200
theorem Tc:∀g sp,kY.sp g=some sp→Ad AT g sp:=
 Ac T87.ok (Ac T92.ok (Ac T94.ok (Ac T158.ok (Ac T113.ok (Ac T84.ok (Ac T112.ok (Ac T200.ok (Ac T119.ok (fun g sp h=>by cases h)))))))))
theorem aW{s:Sh}{sz:Nat}(hs:s.sz=sz){ob:Ob}{id n:Nat}{c:Option Nat}{fz:Bool}{t:TypeId}{o:List s.T}(hg:AI ob id=some (.arr fz t s o))(hle:n=o.length):
  DQ ⟨0,.leaf,ob,0⟩ (.list s) (.sl id sz 0 n c)=some (true,o):=by
 subst hs hle;unfold DQ;have h2:Dl ⟨0,.leaf,ob,0⟩ (yq (.sl id s.sz 0 o.length c))=some (true,[.dat (.list s) o]):=by
  show(match Ca ⟨0,.leaf,ob,0⟩ (.sl id s.sz 0 o.length c),some (true,[])with|some (c,x),some (d,xs)=>some (c&&d,x::xs)|_,_=>none)=_;have:Ca ⟨0,.leaf,ob,0⟩ (.sl id s.sz 0 o.length c)=some (true,.dat (.list s) o):=by
   unfold Ca AF.obj;simp only[hg,z6,cond_true];simp
  rw[this];rfl
 simp only[It,Sh.MQ];show(match Dl ⟨0,.leaf,ob,0⟩ (yq (.sl id s.sz 0 o.length c))with|some (c,cs)=>_|none=>none)=_;rw[h2];have:Cg (.list s) [PV.dat (.list s) o]=some o:=by
  unfold Cg B3 Yi DR;simp
 simp only[F7,this,zq]
theorem Wj{s:Sh}{sz:Nat}(hs:s.sz=sz){id n:Nat}{tail:Ob}{fz:Bool}{t:TypeId}{o:List s.T}(hn:n=o.length):Kb [.list s] (.sl id sz 0 n none) ((id,.arr fz t s o)::tail)=some (true,o):=
 aW hs (by unfold AI;rw[z6];rfl) hn
theorem RZ(b:Int):Sp.Hy 0 b=b:=rfl
end Go.Pe
end
section
namespace Go.Sp
end Go.Sp
end
section
namespace Go.Pe
open Go.Det
theorem CQ{f:FuncId}{s t:List Sh}{g:(Bh s).T→(Bh t).T}{nd:Bool}(hprim:AT.prim f=none)(hfn:∃i,AT.fn f=some i):Ad AT f ⟨s,fun _=>false,t,g,nd⟩:=
 .jY ⟨hprim,hfn,fun F h args i _ _ _ hp=>by cases hp⟩
theorem DD{a b:Int}(h:Sp.Hy a b=0):a=0∧b=0:=by
 unfold Sp.Hy at h;by_cases e:a=0
 ·rw[if_pos e]at h;exact⟨e,h⟩
 ·rw[if_neg e]at h;exact absurd h e
theorem Cj{α:Type}(A B:List α)(x d:α){n:Nat}(h:A.length=n):(A++x::B).getD n d=x:=by
 subst h;simp[yt]
theorem Ch{α:Type}(A B:List α)(x y:α){n:Nat}(h:A.length=n):(A++x::B).set n y=A++y::B:=by
 subst h;simp
end Go.Pe
end
section
namespace Go.Sp
open Go.Pe (Cs imax)
theorem XZ(a b:Int):Cs a b=min a b:=by unfold Cs;split<;>omega
end Go.Sp
end
section
namespace Go.Sp
end Go.Sp
namespace Go.Pe
open Go.Det
noncomputable section
end
end Go.Pe
end
section
namespace Go.Sp
abbrev Am:Nat:=18446744073709551616
abbrev Bj:=Int×List Int
def Cr(l:List Int):Bool:=decide (l.length≤20000)&&l.all fun d=>decide (0≤d)&&decide (d<18446744073709551616)
def hW(l:List Int):Bool:=Cr l&&decide (l.length≤9000)
def eF(l:List Int):Bool:=decide (l.getLast?≠some 0)
def BQ(l:List Int):Bool:=Cr l&&eF l
def Ao(l:List Int):Int:=val Am l
def BG(n:Int):List Int:=dg Am n
def u64(n:Int):Bool:=decide (0≤n)&&decide (n<18446744073709551616)
def F4(n:Int):Bool:=decide (-9223372036854775808≤n)&&decide (n<9223372036854775808)
def Ah(n:Int):Int:=if n<0 then -n else n
theorem Aq(n:Int):Ah n=(n.natAbs:Int):=by unfold Ah;split<;>omega
def vI(a:Bj):Int:=if a.2=[]then a.1 else if a.1<0 then -Ao a.2 else Ao a.2
def ET(a:Bj):Bool:=F4 a.1&&(decide (a.2=[])||(BQ a.2&&(decide (a.1=1)||decide (a.1= -1))&&decide (9223372036854775808≤Ao a.2)))
def Co(n:Int):Bj:=if -9223372036854775808<n∧n<9223372036854775808 then(n,[])else(if n<0 then -1 else 1,BG (Ah n))
def Cc(n:Int):Int:=(Co n).1
def Cb(n:Int):List Int:=(Co n).2
def sg(neg:Bool)(v:Int):Int:=if neg=true then -v else v
def GJ(x y c:Int):Int:=(x+y+c) % 18446744073709551616
def Mc(x y c:Int):Int:=(x+y+c)/18446744073709551616
def P7(x y c:Int):Int:=(x-y-c) % 18446744073709551616
def Nw(x y c:Int):Int:=if x<y+c then 1 else 0
def GQ(x y:Int):Int:=(x*y) % 18446744073709551616
def Oh(x y:Int):Int:=(x*y)/18446744073709551616
def Bz(a b:Int):Int:=if a<b then -1 else if a>b then 1 else 0
def Yh(n:Int):Int:=if n<0 then -1 else if n>0 then 1 else 0
def F6(a b:Bj):Bj:=if a.2=[]∧b.2=[]∧F4 (a.1+b.1)=true then(a.1+b.1,[])else Co (vI a+vI b)
def EV(a:Bj):Bj:=if a.2=[]∧a.1≠ -9223372036854775808 then(-a.1,[])else Co (-vI a)
def Qj(a:Bj):Bj:=if a.1<0 then EV a else a
def Kz(a b:Bj):Bj:=F6 a (EV b)
def SK(a b:Bj):Bj:=Co (vI a*vI b)
def Ho(a:Bj):Int:=(EV a).1
def GR(a:Bj):List Int:=(EV a).2
def Mw(a:Bj):Int:=(Qj a).1
def Lz(a:Bj):List Int:=(Qj a).2
def J6(a b:Bj):Int:=(F6 a b).1
def Kg(a b:Bj):List Int:=(F6 a b).2
def WM(a b:Bj):Int:=(Kz a b).1
def X8(a b:Bj):List Int:=(Kz a b).2
def GH(a b:Bj):Int:=(SK a b).1
def GB(a b:Bj):List Int:=(SK a b).2
end Go.Sp
namespace Go.Pe
open Sp
open Go.Det
noncomputable section
abbrev BW:Sh:=.pair (.int .i64) (.nlist (.int .u64))
abbrev u64:Sh:=.int .u64
abbrev CJ:Sh:=.list (.int .u64)
noncomputable def Sg:As:=⟨[u64,u64,u64],fun i=>Sp.u64 i.1&&Sp.u64 i.2.1&&decide (0≤(i.2.2:Int))&&decide ((i.2.2:Int)≤1),[u64,u64],fun i=>(GJ i.1 i.2.1 i.2.2,Mc i.1 i.2.1 i.2.2),false⟩
noncomputable def RC:As:=⟨[u64,u64,u64],fun i=>Sp.u64 i.1&&Sp.u64 i.2.1&&decide (0≤(i.2.2:Int))&&decide ((i.2.2:Int)≤1),[u64,u64],fun i=>(P7 i.1 i.2.1 i.2.2,Nw i.1 i.2.1 i.2.2),false⟩
noncomputable def Pw:As:=⟨[u64,u64],fun i=>Sp.u64 i.1&&Sp.u64 i.2,[u64,u64],fun i=>(Oh i.1 i.2,GQ i.1 i.2),false⟩
noncomputable def SE:As:=⟨[i64],fun n=>F4 n,[u64],fun n=>Ah n,false⟩
noncomputable def RN:As:=⟨[BW],fun a=>ET a,[.bool,CJ],fun a=>(decide (Sp.vI a<0),BG (Ah (Sp.vI a))),false⟩
noncomputable def XA:As:=⟨[.bool,CJ],fun i=>BQ i.2,[BW],fun i=>(Cc (Sp.sg i.1 (Ao i.2)),Cb (Sp.sg i.1 (Ao i.2))),false⟩
noncomputable def R4:As:=⟨[CJ],fun l=>Cr l,[CJ],fun l=>Az l,false⟩
noncomputable def Ua:As:=⟨[CJ,CJ],fun i=>BQ i.1&&BQ i.2,[i64],fun i=>Bz (Ao i.1) (Ao i.2),false⟩
noncomputable def Ws:As:=⟨[CJ,CJ],fun i=>Sp.hW i.1&&Sp.hW i.2,[CJ],fun i=>BG (Ao i.1+Ao i.2),false⟩
noncomputable def Wy:As:=⟨[CJ,CJ],fun i=>Cr i.1&&Cr i.2&&decide (Ao i.2≤Ao i.1),[CJ],fun i=>BG (Ao i.1-Ao i.2),false⟩
noncomputable def WI:As:=⟨[CJ,CJ],fun i=>Sp.hW i.1&&Sp.hW i.2,[CJ],fun i=>BG (Ao i.1*Ao i.2),false⟩
noncomputable def Rh:AX:=X7 []
noncomputable def I4:AX:=X7 [(230,SE),(294,Sg),(326,RC),(295,R4),(229,Pw)]
noncomputable def eN:AX:=X7 [(231,RN),(232,XA),(291,Ws),(293,Wy),(292,Ua),(233,WI),(229,Pw),(230,SE)]
end
end Go.Pe
end
section
namespace Go.Pe
open Sp
open Go.Det
theorem NO{F:Fz}{x y c:Int}{args:List V}(h:J8 F (Af [Pe.u64,Pe.u64,Pe.u64] (x,y,c)) args):args=[.int .u64 x,.int .u64 y,.int .u64 c]:=by
 have:=h (fun _=>none) 0;simp only[Af,BR,A8]at this;obtain⟨a,as1,rfl,h1,b,as2,rfl,h2,d,as3,rfl,h3,rfl⟩:=this;simp only[PR,DC,yp,and_true]at h1 h2 h3;rw[h1,h2,h3]
theorem AW{n:Int}(h:Sp.u64 n=true):0≤n∧n<18446744073709551616:=by
 unfold Sp.u64 at h;rw[ze,decide_eq_true_eq,decide_eq_true_eq]at h;exact h
namespace T294
theorem ok:Ad AT 294 Sg:=by
 refine .inr ⟨PK.add64.run,by kernel_rfl,fun F h args i ha hp=>?_⟩;obtain⟨x,y,c⟩:=i;have hp:(Sp.u64 x&&Sp.u64 y&&decide (0≤c)&&decide (c≤1))=true:=hp;rw[ze,ze,ze,decide_eq_true_eq,decide_eq_true_eq]at hp;obtain⟨⟨⟨hx,hy⟩,c0⟩,c1⟩:=hp;have hx:=AW hx;have hy:=AW hy;have:=NO ha;subst this;obtain⟨a,rfl⟩:=zn hx.1;obtain⟨b,rfl⟩:=zn hy.1;obtain⟨d,rfl⟩:=zn c0;have c1:(d:Int)≤1:=c1;have hd:Nat.ble d 1=true:=Nat.ble_eq_true_of_le (by omega);refine⟨.tup [.int .u64 (.ofNat ((a+b+d) % VC)),.int .u64 (.ofNat ((a+b+d)/VC))],?_,fun ρ N=>?_⟩
 ·show(bif Nat.ble d 1 then _ else _)=_;rw[hd];rfl
 ·show PR F ρ N (.tup [.dat Pe.u64 (GJ a b d),.dat Pe.u64 (Mc a b d)]) _;simp only[PR,A8];refine⟨_,rfl,_,_,rfl,?_,_,_,rfl,?_,rfl⟩<;>simp[DC,VC,GJ,Mc]
end T294
namespace T326
theorem ok:Ad AT 326 RC:=by
 refine .inr ⟨PK.sub64.run,by kernel_rfl,fun F h args i ha hp=>?_⟩;obtain⟨x,y,c⟩:=i;have hp:(Sp.u64 x&&Sp.u64 y&&decide (0≤c)&&decide (c≤1))=true:=hp;rw[ze,ze,ze,decide_eq_true_eq,decide_eq_true_eq]at hp;obtain⟨⟨⟨hx,hy⟩,c0⟩,c1⟩:=hp;have hx:=AW hx;have hy:=AW hy;have:=NO ha;subst this;obtain⟨a,rfl⟩:=zn hx.1;obtain⟨b,rfl⟩:=zn hy.1;obtain⟨d,rfl⟩:=zn c0;have c1:(d:Int)≤1:=c1;have hd:Nat.ble d 1=true:=Nat.ble_eq_true_of_le (by omega);refine⟨.tup [.int .u64 (.ofNat ((a+VC-b-d) % VC)),.int .u64 (.ofNat (bif Nat.blt a (b+d)then 1 else 0))],?_,fun ρ N=>?_⟩
 ·show(bif Nat.ble d 1 then _ else _)=_;rw[hd];rfl
 ·show PR F ρ N (.tup [.dat Pe.u64 (P7 a b d),.dat Pe.u64 (Nw a b d)]) _;simp only[PR,A8];refine⟨_,rfl,_,_,rfl,?_,_,_,rfl,?_,rfl⟩
  ·simp only[DC,VC,P7,yp,V.int.injEq,and_true,true_and];have e:(((a+18446744073709551616-b-d) % 18446744073709551616:Nat):Int)=((a:Int)-b-d) % 18446744073709551616:=by omega
   exact e
  ·simp only[DC,Nw,yp,V.int.injEq,and_true,true_and];rw[E8];by_cases hlt:a<b+d
   ·rw[if_pos (by omega)];simp[hlt]
   ·rw[if_neg (by omega)];simp[hlt]
end T326
end Go.Pe
end
section
namespace Go.Sp
theorem Ax(b:Int):∀(l:List Int) (i:Nat),val b (l.take (i+1))=val b (l.take i)+b^i*l.getD i 0
 |[],i=>by simp[val]
 |x::l,0=>by
  show x+b*val b (l.take 0)=0+b^0*x;simp[val]
 |x::l,i+1=>by
  have:=Ax b l i;show x+b*val b (l.take (i+1))=x+b*val b (l.take i)+b^(i+1)*l.getD i 0;rw[this,zC,zI,ym (b^i) b,zZ,yg]
theorem Hc{l:List Int}(h:Cr l=true):l.length≤20000∧At Am l:=by
 unfold Cr at h;rw[ze,decide_eq_true_eq,List.all_eq_true]at h;exact⟨h.1,fun d hd=>by
  have:=h.2 d hd;rw[ze,decide_eq_true_eq,decide_eq_true_eq]at this;exact this⟩
theorem DE{l:List Int}(h1:l.length≤20000)(h2:At Am l):Cr l=true:=by
 unfold Cr;rw[ze,decide_eq_true_eq,List.all_eq_true];exact⟨h1,fun d hd=>by
  have:=h2 d hd;rw[ze,decide_eq_true_eq,decide_eq_true_eq];exact this⟩
theorem TY{l:List Int}(h:hW l=true):l.length≤9000∧At Am l:=by
 unfold hW at h;rw[ze,decide_eq_true_eq]at h;exact⟨h.2,(Hc h.1).2⟩
theorem AP{l:List Int}(h:At Am l)(i:Nat):u64 (l.getD i 0)=true:=by
 unfold u64;rw[ze,decide_eq_true_eq,decide_eq_true_eq];rcases yn i l.length with hi|hi
 ·have:l.getD i 0∈l:=by rw[zm,zw hi];exact List.getElem_mem hi
  exact h _ this
 ·rw[zm,zV hi];exact⟨by decide,by decide⟩
theorem AW{n:Int}(h:u64 n=true):0≤n∧n<18446744073709551616:=by
 unfold u64 at h;rw[ze,decide_eq_true_eq,decide_eq_true_eq]at h;exact h
theorem Cn{n:Int}(h1:0≤n)(h2:n<18446744073709551616):u64 n=true:=by
 unfold u64;rw[ze,decide_eq_true_eq,decide_eq_true_eq];exact⟨h1,h2⟩
theorem Dr{l:List Int}{x:Int}(h:At Am l)(hx:u64 x=true):At Am (l++[x]):=by
 intro d hd;rw[List.mem_append,z7]at hd;rcases hd with hd|rfl
 ·exact h d hd
 ·exact AW hx
theorem IL{x y c:Int}(hx:u64 x=true)(hy:u64 y=true)(hc:0≤c∧c≤1):u64 (GJ x y c)=true∧(0≤Mc x y c∧Mc x y c≤1)∧GJ x y c+18446744073709551616*Mc x y c=x+y+c:=by
 have:=AW hx;have:=AW hy;unfold GJ Mc;exact⟨Cn (by omega) (by omega),⟨by omega,by omega⟩,by omega⟩
theorem LG{x y c:Int}(hx:u64 x=true)(hy:u64 y=true)(hc:0≤c∧c≤1):u64 (P7 x y c)=true∧(0≤Nw x y c∧Nw x y c≤1)∧P7 x y c-18446744073709551616*Nw x y c=x-y-c:=by
 have:=AW hx;have:=AW hy;unfold P7 Nw;refine⟨Cn (by omega) (by omega),?_,?_⟩<;>split<;>omega
theorem Ek(l:List Int)(x:Int):val Am (l++[x])=val Am l+(Am:Int)^l.length*x:=by
 rw[Cv];simp[val]
theorem Jv(i:Nat)(c:Int):(Am:Int)^(i+1)*c=(Am:Int)^i*(18446744073709551616*c):=by
 rw[zI,zZ];rfl
theorem HI(p:List Int)(n i:Nat)(x:Int)(h:p.length=i)(hi:i<n):(p++zj (n-i) (0:Int)).set i x=(p++[x])++zj (n-(i+1)) 0:=by
 have:n-i=(n-(i+1))+1:=by omega
 rw[this,List.replicate_succ,Pe.Ch p _ 0 x h,yd];rfl
theorem IV{l:List Int}(h:At Am l):Az l=BG (Ao l):=T5 (by decide) h
end Go.Sp
end
section
namespace Go.Pe
open Sp
open Go.Det
noncomputable section
open List Int Prod
namespace T230
def T(n:Int):Tr:=tree Rh false 9 230 (Af ([zh zG]) n)
theorem An(n:Int):T n=.ite (decide (n<0)) (.leaf (.dat (zh zd) (zc .u64 (zc .i64 (0-n)))) []) (.leaf (.dat (zh zd) (zc .u64 n)) []):=by kernel_rfl
end T230
namespace T231
def T(a:Int×List Int):Tr:=tree I4 false 9 231 (Af ([zT i64 (zA (zh zd))]) a)
theorem An(a:Int×List Int):T a=let a':=zA (zh zd);let b':=[(0,.box [.dat i64 (fst a),.dat a' (snd a)])];.ite (decide (0<length (snd a))) (.leaf (.tup [.dat Sh.bool (decide (fst a<0)),.dat a' (snd a)]) b') (.ite (fst a==0) (.leaf (.tup [.bl false,.nil]) b') (.ite (F4 (fst a)) (.leaf (.tup [.dat Sh.bool (decide (fst a<0)),.sl (zp 0 1) 1 0 1 none]) ([(zp 0 1,.arr false 288 (zh zd) [Ah (fst a)]),(0,.box [.dat i64 (fst a),.dat a' (snd a)])])) .fail)):=by kernel_rfl
end T231
namespace T232
def T(neg:Bool)(w:List Int):Tr:=tree I4 false 9 232 (Af ([Sh.bool,zr (zh zd)]) (neg,w))
theorem An(neg:Bool)(w:List Int):T neg w=let c':=zr (zh zd);let e':=zc .i64 (0-zc .i64 (getD w 0 0));let f':=decide (getD w 0 0≤9223372036854775807);let g':=(length w:Int);let h':=zc .i64 (getD w 0 0);let b':Tr:=.ite neg (.leaf (zP [.dat i64 (-1:Int),.dat c' w]) ([(0,.box [.dat i64 (-1:Int),.dat c' w])])) (.leaf (zP [.dat i64 (1:Int),.dat c' w]) ([(0,.box [.dat i64 (1:Int),.dat c' w])]));let d':=decide (0<g');let a':Tr:=.ite (g'==1) (.ite d' (.ite f' (.ite d' (.leaf (zP [.dat i64 h',.nil]) ([(0,.box [.dat i64 h',.nil])])) .fail) b') .fail) b';.ite (g'==0) (.leaf (zP [.dat i64 (0:Int),.nil]) ([(0,.box [.dat i64 (0:Int),.nil])])) (.ite (g'==1) (.ite d' (.ite f' (.ite neg (.ite d' (.leaf (zP [.dat i64 e',.nil]) ([(0,.box [.dat i64 e',.nil])])) .fail) a') a') .fail) a'):=by kernel_rfl
end T232
namespace T295
def T(w:List Int):Tr:=tree Rh false 9 295 (Af ([zr (zh zd)]) w)
def L1(v0:List Int)(v3:Int):Tr:=re ((T [])) (Ar 21 [(0,.dat (zr (zh zd)) v0),(3,.dat i64 v3)] [] 0)
theorem An(w:List Int):T w=L1 w ((length w:Int)):=by kernel_rfl
theorem Ai(v0:List Int)(v3:Int):stepT Rh (L1 v0 v3)=let a':Tr:=.ite (decide (0≤v3)&&decide (0≤toNat v3)&&decide (toNat v3≤length v0)) (.leaf (.dat (zr (zh zd)) (take (toNat v3) v0)) []) .fail;let b':=zc .i64 (v3-1);.ite (decide (v3>0)) (.ite (decide (0≤zc .i64 (v3-1))&&decide (zc .i64 (v3-1)<(length v0:Int))) (.ite (getD v0 (toNat b') 0==0) (L1 v0 b') a') .fail) a':=by kernel_rfl
end T295
namespace T292
def T(a b:List Int):Tr:=tree Rh false 9 292 (Af ([zr (zh zd),zr (zh zd)]) (a,b))
def L1(v0 v1:List Int)(v5:Int):Tr:=re ((T [] []).R) (Ar 41 [(0,.dat (zr (zh zd)) v0),(1,.dat (zr (zh zd)) v1),(5,.dat i64 v5)] [] 0)
theorem An(a b:List Int):T a b=let a':=(length a:Int);.ite (a' !=(length b:Int)) (.ite (decide (a'<(length b:Int))) (.leaf (.dat i64 (-1:Int)) []) (.leaf (.dat i64 (1:Int)) [])) (L1 a b (zc .i64 (a'-1))):=by kernel_rfl
theorem Ai(v0 v1:List Int)(v5:Int):stepT Rh (L1 v0 v1 v5)=let a':=decide (0≤v5)&&decide (v5<(length v0:Int));let b':=decide (0≤v5)&&decide (v5<(length v1:Int));.ite (decide (v5≥0)) (.ite a' (.ite b' (.ite (getD v0 (toNat v5) 0 !=getD v1 (toNat v5) 0) (.ite a' (.ite b' (.ite (decide (getD v0 (toNat v5) 0<getD v1 (toNat v5) 0)) (.leaf (.dat i64 (-1:Int)) []) (.leaf (.dat i64 (1:Int)) [])) .fail) .fail) (L1 v0 v1 (zc .i64 (v5-1)))) .fail) .fail) (.leaf (.dat i64 (0:Int)) []):=by kernel_rfl
end T292
namespace T291
def T(x y:List Int):Tr:=tree I4 false 9 291 (Af ([zr (zh zd),zr (zh zd)]) (x,y))
def L1(v0 v1:List Int)(v5n:Nat)(v6 v21 v22:Int)(o0:List Int):Tr:=re ((T [] []).L.L) (Ar 54 [(0,.dat (zr (zh zd)) v0),(1,.dat (zr (zh zd)) v1),(5,.sl 0 1 0 v5n none),(6,.dat (zh zd) v6),(21,.dat i64 v21),(22,.dat i64 v22)] [(0,.arr false 288 (zh zd) o0)] 1)
theorem An(x y:List Int):T x y=let a':=(length x:Int);let b':=(length y:Int);let c':=zc .i64 (b'+1);let d':=zc .i64 (a'+1);.ite (decide (a'<b')) (.ite (decide (0≤zc .i64 (b'+1))&&decide (zc .i64 (b'+1)=zc .i64 (b'+1))&&decide (8*toNat c'≤281474976710656)&&decide (zc .i64 (b'+1)<9223372036854775808)) (L1 y x (toNat c') 0 (b') 0 (replicate (toNat c') 0)) .fail) (.ite (decide (0≤zc .i64 (a'+1))&&decide (zc .i64 (a'+1)=zc .i64 (a'+1))&&decide (8*toNat d'≤281474976710656)&&decide (zc .i64 (a'+1)<9223372036854775808)) (L1 x y (toNat d') 0 (a') 0 (replicate (toNat d') 0)) .fail):=by kernel_rfl
theorem Ai(v0 v1:List Int)(v5n:Nat)(v6 v21 v22:Int)(o0:List Int):stepT I4 (L1 v0 v1 v5n v6 v21 v22 o0)=let a':=getD v0 (toNat v22) 0;let b':=(length v0:Int);let d':=getD v1 (toNat v22) 0;let e':=decide (0≤v22)&&decide (v22<(↑v5n:Int));let f':=decide ((0:Sh.T (Bh [u64]))≤v6);let g':=decide (v6≤(1:Sh.T (Bh [u64])));let i':=decide (toNat v22<length o0);let j':=decide (v22<(length v1:Int));let k':=zc .i64 (v22+1);let c':=set o0 (toNat b') v6;let h':=decide (0≤v22)&&decide (v22<b');.ite (decide (v22<v21)) (.ite (j') (.ite (decide (0≤v22)&&j') (.ite h' (.ite (Sp.u64 a'&&Sp.u64 d'&&f'&&g') (.ite e' (.ite i' (L1 v0 v1 v5n (Mc a' d' v6) v21 k' (set o0 (toNat v22) (GJ a' d' v6))) .fail) .fail) .fail) .fail) .fail) (.ite h' (.ite (Sp.u64 a'&&Sp.u64 0&&f'&&g') (.ite e' (.ite i' (L1 v0 v1 v5n (Mc a' 0 v6) v21 k' (set o0 (toNat v22) (GJ a' 0 v6))) .fail) .fail) .fail) .fail)) (.ite (decide (0≤b')&&decide (b'<(↑v5n:Int))) (.ite (decide (toNat b'<length o0)) (.ite (decide (0+v5n≤length c')&&true&&Cr (take v5n c')) (.leaf (.dat (zr (zh zd)) (Az (take v5n c'))) ([(0,.arr true 288 (zh zd) c')])) .fail) .fail) .fail):=by kernel_rfl
end T291
namespace T293
def T(x y:List Int):Tr:=tree I4 false 9 293 (Af ([zr (zh zd),zr (zh zd)]) (x,y))
def L1(v0 v1:List Int)(v5n:Nat)(v6 v13 v14:Int)(o0:List Int):Tr:=re ((T [] []).L) (Ar 41 [(0,.dat (zr (zh zd)) v0),(1,.dat (zr (zh zd)) v1),(5,.sl 0 1 0 v5n none),(6,.dat (zh zd) v6),(13,.dat i64 v13),(14,.dat i64 v14)] [(0,.arr false 288 (zh zd) o0)] 1)
theorem An(x y:List Int):T x y=let a':=(length x:Int);.ite (decide (0≤a')&&decide (a'=a')&&decide (8*toNat a'≤281474976710656)&&decide (a'<9223372036854775808)) (L1 x y (toNat a') 0 (a') 0 (replicate (toNat a') 0)) .fail:=by kernel_rfl
theorem Ai(v0 v1:List Int)(v5n:Nat)(v6 v13 v14:Int)(o0:List Int):stepT I4 (L1 v0 v1 v5n v6 v13 v14 o0)=let a':=getD v0 (toNat v14) 0;let b':=decide (0≤v14)&&decide (v14<(length v0:Int));let c':=getD v1 (toNat v14) 0;let d':=decide (0≤v14)&&decide (v14<(↑v5n:Int));let e':=decide ((0:Sh.T (Bh [u64]))≤v6);let f':=decide (v6≤(1:Sh.T (Bh [u64])));let g':=decide (toNat v14<length o0);let h':=decide (v14<(length v1:Int));let i':=zc .i64 (v14+1);.ite (decide (v14<v13)) (.ite (h') (.ite (decide (0≤v14)&&h') (.ite b' (.ite (Sp.u64 a'&&Sp.u64 c'&&e'&&f') (.ite d' (.ite g' (L1 v0 v1 v5n (Nw a' c' v6) v13 i' (set o0 (toNat v14) (P7 a' c' v6))) .fail) .fail) .fail) .fail) .fail) (.ite b' (.ite (Sp.u64 a'&&Sp.u64 0&&e'&&f') (.ite d' (.ite g' (L1 v0 v1 v5n (Nw a' 0 v6) v13 i' (set o0 (toNat v14) (P7 a' 0 v6))) .fail) .fail) .fail) .fail)) (.ite (decide (0+v5n≤length o0)&&true&&Cr (take v5n o0)) (.leaf (.dat (zr (zh zd)) (Az (take v5n o0))) ([(0,.arr true 288 (zh zd) o0)])) .fail):=by kernel_rfl
end T293
namespace T229
def T(x y:Int):Tr:=tree Rh false 9 229 (Af ([zh zd,zh zd]) (x,y))
theorem An(x y:Int):T x y=let a':=zc .u64 (zc .u64 (zl x (2^32)*Gq zd y 4294967295)+zl (zc .u64 (Gq zd x 4294967295*Gq zd y 4294967295)) (2^32));.ite true (.ite true (.ite true (.ite true (.ite true (.leaf (.tup [.dat (zh zd) (zc .u64 (zc .u64 (zc .u64 (zl x (2^32)*zl y (2^32))+zl a' (2^32))+zl (zc .u64 (Gq zd a' 4294967295+zc .u64 (Gq zd x 4294967295*zl y (2^32)))) (2^32))),.dat (zh zd) (zc .u64 (x*y))]) []) .fail) .fail) .fail) .fail) .fail:=by kernel_rfl
end T229
namespace T233
def T(x y:List Int):Tr:=tree I4 false 9 233 (Af ([zr (zh zd),zr (zh zd)]) (x,y))
def L1(v1:List Int)(v5n:Nat)(v20:List Int)(v21 v22:Int)(o0:List Int):Tr:=re ((T [] []).L) (Ar 80 [(1,.dat (zr (zh zd)) v1),(5,.sl 0 1 0 v5n none),(20,.dat (zr (zh zd)) v20),(21,.dat i64 v21),(22,.dat i64 v22)] [(0,.arr false 288 (zh zd) o0)] 1)
theorem An(x y:List Int):T x y=let a':=(length x:Int)+(length y:Int);let b':=zc .i64 a';.ite (decide (0≤zc .i64 a')&&decide (zc .i64 a'=zc .i64 a')&&decide (8*toNat b'≤281474976710656)&&decide (zc .i64 a'<9223372036854775808)) (L1 y (toNat b') x ((length x:Int)) 0 (replicate (toNat b') 0)) .fail:=by kernel_rfl
def L2(v1:List Int)(v5n:Nat)(v6 v7 v8:Int)(v20:List Int)(v21 v22:Int)(v27:List Int)(v28 v29:Int)(o0:List Int):Tr:=re ((stepT I4 (L1 [] 0 [] 0 0 [])).L.L) (Ar 80 [(1,.dat (zr (zh zd)) v1),(5,.sl 0 1 0 v5n none),(6,.dat i64 v6),(7,.dat (zh zd) v7),(8,.dat (zh zd) v8),(20,.dat (zr (zh zd)) v20),(21,.dat i64 v21),(22,.dat i64 v22),(27,.dat (zr (zh zd)) v27),(28,.dat i64 v28),(29,.dat i64 v29)] [(0,.arr false 288 (zh zd) o0)] 1)
theorem Ai(v1:List Int)(v5n:Nat)(v20:List Int)(v21 v22:Int)(o0:List Int):stepT I4 (L1 v1 v5n v20 v21 v22 o0)=.ite (decide (v22<v21)) (.ite (decide (0≤v22)&&decide (v22<(length v20:Int))) (L2 v1 v5n v22 (getD v20 (toNat v22) 0) 0 v20 v21 v22 v1 ((length v1:Int)) 0 o0) .fail) (.ite (decide (0+v5n≤length o0)&&true&&Cr (take v5n o0)) (.leaf (.dat (zr (zh zd)) (Az (take v5n o0))) ([(0,.arr true 288 (zh zd) o0)])) .fail):=by kernel_rfl
theorem AM(v1:List Int)(v5n:Nat)(v6 v7 v8:Int)(v20:List Int)(v21 v22:Int)(v27:List Int)(v28 v29:Int)(o0:List Int):stepT I4 (L2 v1 v5n v6 v7 v8 v20 v21 v22 v27 v28 v29 o0)=let b':=zc .i64 (v6+v29);let c':=getD v27 (toNat v29) 0;let d':=decide (0≤zc .i64 (v6+v29))&&decide (zc .i64 (v6+v29)<(↑v5n:Int));let e':=v6+(length v1:Int);let g':=decide ((0:Sh.T (Bh [u64]))≤0);let h':=decide (0≤(1:Sh.T (Bh [u64])));let f':=getD o0 (toNat b') 0;let i':=decide (toNat b'<length o0);let j':=GQ v7 c';let a':=GJ j' f' 0;.ite (decide (v29<v28)) (.ite (decide (0≤v29)&&decide (v29<(length v27:Int))) (.ite (Sp.u64 v7&&Sp.u64 c') (.ite d' (.ite i' (.ite (Sp.u64 j'&&Sp.u64 f'&&g'&&h') (.ite (Sp.u64 a'&&Sp.u64 v8&&g'&&h') (.ite d' (.ite i' (L2 v1 v5n v6 v7 (zc .u64 (zc .u64 (Oh v7 c'+Mc j' f' 0)+Mc a' v8 0)) v20 v21 v22 v27 v28 (zc .i64 (v29+1)) (set o0 (toNat b') (GJ a' v8 0))) .fail) .fail) .fail) .fail) .fail) .fail) .fail) .fail) (.ite (decide (0≤zc .i64 e')&&decide (zc .i64 e'<(↑v5n:Int))) (.ite (decide (toNat (zc .i64 e')<length o0)) (L1 v1 v5n v20 v21 (zc .i64 (v22+1)) (set o0 (toNat (zc .i64 e')) v8)) .fail) .fail):=by kernel_rfl
end T233
end
end Go.Pe
end
section
namespace Go.Pe
open Sp
open Go.Det
theorem HK:∀g sp,Rh.sp g=some sp→Ad AT g sp:=fun g sp h=>by cases h
theorem wu(x:Int)(h1:0≤x)(h2:x≤18446744073709551615):zc .u64 x=x:=IntWalk.u64_in x ⟨h1,h2⟩
theorem E9{n:Int}(h:F4 n=true): -9223372036854775808≤n∧n<9223372036854775808:=by
 unfold F4 at h;rw[ze,decide_eq_true_eq,decide_eq_true_eq]at h;exact h
namespace T230
theorem ok:Ad AT 230 SE:=by
 refine Av (X:=Rh) rfl HK (d:=9) (by kernel_rfl) (by kernel_rfl) (by kernel_rfl) (fun(n:Int) hn=>?_) (Ab (by kernel_rfl));have hn:=E9 (n:=n) hn;refine zz (An n) (zk (fun c=>?_) (fun c=>?_))
 ·have c:=of_decide_eq_true c;refine zg (zu rfl rfl ?_);show zc .u64 (zc .i64 (0-n))=Ah n;simp only[Aq];rcases zB (-9223372036854775808) n with h|h
  ·rw[wr _ (by omega) (by omega),wu _ (by omega) (by omega)];omega
  ·have:n= -9223372036854775808:=by omega
   subst this;decide+kernel
 ·have c:=of_decide_eq_false c;refine zg (zu rfl rfl ?_);show zc .u64 n=Ah n;simp only[Aq];rw[wu _ (by omega) (by omega)];omega
end T230
namespace T295
theorem Ak{Q:PV→Ob→Prop}(w:List Int)(hw:w.length≤20000)(hq:∀ob,Q (.dat CJ (Az w)) ob):∀(i:Nat),i≤w.length→Az w=Az (w.take i)→Ends Rh (L1 w i) Q
 |0,hi,he=>by
  have he:Az w=[]:=he;rw[he]at hq;refine zy (Ai ..) (zD (by simp) (zf (by simp) (zg (hq _))))
 |i+1,hi,he=>by
  have e1:zc .i64 (((i+1:Nat):Int)-1)=(i:Int):=by rw[wr _ (by omega) (by omega)];omega
  have ht:w.take (i+1)=w.take i++[w.getD i 0]:=by
   rw[List.take_add_one];congr 1;rw[zm,zw (by omega)];rfl
  refine zy (Ai ..) (zf (by simp<;>omega) ?_);rw[e1,zi];refine zf (by simp<;>omega) (zk (fun c=>?_) (fun c=>?_))
  ·have c:w.getD i 0=0:=by simpa using c
   refine Ak w hw hq i (by omega) ?_;rw[he,ht,c,G5]
  ·have c:w.getD i 0≠0:=by simpa using c
   refine zf (by simp;omega) (zg ?_);have:Az w=w.take (i+1):=by rw[he,ht,G0 (T1 c)]
   rw[this]at hq;exact hq _
theorem ok:Ad AT 295 R4:=by
 refine Av (X:=Rh) rfl HK (d:=9) (by kernel_rfl) (by kernel_rfl) (by kernel_rfl) (fun(w:List Int) hw=>?_) (Ab (by kernel_rfl));obtain⟨h1,h2⟩:=Hc (l:=w) hw;refine zz (An w) (Ak w h1 (fun ob=>zu rfl rfl rfl) w.length (yr _) (by rw[zN]))
end T295
theorem Eg{l:List Int}(h:BQ l=true):l.length≤20000∧At Am l∧Sp.nz l:=by
 unfold BQ at h;rw[ze]at h;have:=Hc h.1;exact⟨this.1,this.2,by
  have:=h.2;unfold eF at this;have:l.getLast?≠some 0:=of_decide_eq_true this;exact this⟩
namespace T292
theorem Ak{Q:PV→Ob→Prop}(a b:List Int)(ha:At Am a)(hb:At Am b)(hl:a.length=b.length)(h2:b.length≤20000)(hq:∀ob,Q (.dat i64 (Bz (Ao a) (Ao b))) ob):∀(i:Nat),i≤a.length→a.drop i=b.drop i→Ends Rh (L1 a b ((i:Int)-1)) Q
 |0,hi,he=>by
  have he:a=b:=he;have:Bz (Ao a) (Ao b)=0:=by rw[he];unfold Bz;simp
  rw[this]at hq;exact zy (Ai ..) (zD (by simp) (zg (hq _)))
 |i+1,hi,he=>by
  have e1:(((i+1:Nat):Int)-1)=(i:Int):=by omega
  have da:a.drop i=a.getD i 0::a.drop (i+1):=by
   rw[zm,zw (by omega)];exact zO (by omega)
  have db:b.drop i=b.getD i 0::a.drop (i+1):=by
   rw[he,zm,zw (by omega)];exact zO (by omega)
  have ga:=Sp.AW (AP ha i);have gb:=Sp.AW (AP hb i);rw[e1];refine zy (Ai ..) (zf (by simp) ?_);rw[zi];refine zf (by simp;omega) (zf (by simp;omega) (zk (fun c=>zf (by simp;omega) (zf (by simp;omega) (zk (fun d=>?_) (fun d=>?_)))) (fun c=>?_)))
  ·have d:=of_decide_eq_true d;have:=HC (b:=Am) (by decide) ha hb da db d;have e:Bz (Ao a) (Ao b)= -1:=by unfold Bz;exact if_pos this
   rw[e]at hq;exact zg (hq _)
  ·have d:=of_decide_eq_false d;have c:a.getD i 0≠b.getD i 0:=by simpa using c
   have:=HC (b:=Am) (by decide) hb ha db da (by omega);have e:Bz (Ao a) (Ao b)=1:=by
    unfold Bz Ao;rw[if_neg (by omega),if_pos (by omega)]
   rw[e]at hq;exact zg (hq _)
  ·have c:a.getD i 0=b.getD i 0:=by simpa using c
   rw[wr ((i:Int)-1) (by omega) (by omega)];exact Ak a b ha hb hl h2 hq i (by omega) (by rw[da,db,c])
theorem ok:Ad AT 292 Ua:=by
 refine Av (X:=Rh) rfl HK (d:=9) (by kernel_rfl) (by kernel_rfl) (by kernel_rfl) (fun(i:List Int×List Int) hi=>?_) (Ab (by kernel_rfl));obtain⟨a,b⟩:=i;have hi:(BQ a&&BQ b)=true:=hi;rw[ze]at hi;obtain⟨a1,a2,a3⟩:=Eg hi.1;obtain⟨b1,b2,b3⟩:=Eg hi.2;have hq:∀ob,Ae Ua (a,b) (.dat i64 (Bz (Ao a) (Ao b))) ob:=fun ob=>zu rfl rfl rfl
 refine zz (An a b) (zk (fun c=>zk (fun d=>?_) (fun d=>?_)) (fun c=>?_))
 ·have d:=of_decide_eq_true d;have e:Bz (Ao a) (Ao b)= -1:=by unfold Bz;exact if_pos (DS (by decide) a2 b2 b3 (by omega))
  rw[e]at hq;exact zg (hq _)
 ·have d:=of_decide_eq_false d;have c:(a.length:Int)≠b.length:=by simpa using c
  have:=DS (b:=Am) (by decide) b2 a2 a3 (by omega);have e:Bz (Ao a) (Ao b)=1:=by
   unfold Bz Ao;rw[if_neg (by omega),if_pos (by omega)]
  rw[e]at hq;exact zg (hq _)
 ·have c:(a.length:Int)=b.length:=by simpa using c
  rw[wr _ (by omega) (by omega)];exact Ak a b a2 b2 (by omega) b1 hq a.length (yr _) (by rw[List.drop_length,show a.length=b.length by omega,List.drop_length])
end T292
end Go.Pe
end
section
namespace Go.Pe
open Sp
open Go.Det
theorem Er{a:Bj}(h:ET a=true):(-9223372036854775808≤a.1∧a.1<9223372036854775808)∧(a.2=[]∨(BQ a.2=true∧(a.1=1∨a.1= -1)∧9223372036854775808≤Ao a.2)):=by
 unfold ET at h;rw[ze,zQ,ze,ze,zQ,decide_eq_true_eq,decide_eq_true_eq,decide_eq_true_eq,decide_eq_true_eq]at h;exact⟨E9 h.1,h.2.imp id fun h=>⟨h.1.1,h.1.2,h.2⟩⟩
theorem val_one(d:Int):Sp.val Am [d]=d:=by simp[Sp.val]
theorem dS{d:Int}(h1:0<d)(h2:d<18446744073709551616):[d]=BG d:=by
 have:=Kq (b:=Am) (l:=[d]) (by decide) (fun x hx=>by rw[z7]at hx;subst hx;exact⟨by omega,h2⟩) (by unfold Sp.nz;simp;omega);rw[val_one]at this;exact this
theorem Es{s:Int}:Sp.vI (s,[])=s:=by unfold Sp.vI;exact if_pos rfl
namespace T231
theorem ok(hall:∀g sp,I4.sp g=some sp→Ad AT g sp):Ad AT 231 RN:=by
 refine Av (X:=I4) rfl hall (d:=9) (by kernel_rfl) (by kernel_rfl) (by kernel_rfl) (fun(a:Int×List Int) ha=>?_) (Ab (by kernel_rfl));obtain⟨hr,hw⟩:=Er (a:=a) ha;obtain⟨s,w⟩:=a;have hr: -9223372036854775808≤s∧s<9223372036854775808:=hr;refine zz (An (s,w)) (zk (fun c=>?_) (fun c=>zk (fun d=>?_) (fun d=>zf ?_ ?_)))
 ·have c:0<w.length:=of_decide_eq_true c;have hne:w≠[]:=by rintro rfl;simp at c
  rcases hw with hw|⟨h1,h2,h3⟩
  ·exact absurd hw hne
  ·obtain⟨n1,n2,n3⟩:=Eg h1;have h2:s=1∨s= -1:=h2;have h3:9223372036854775808≤Ao w:=h3;have ev:Sp.vI (s,w)=if s<0 then -Ao w else Ao w:=by unfold Sp.vI;exact if_neg hne
   have e1:Ah (Sp.vI (s,w))=Ao w:=by rw[ev];simp only[Aq];split<;>omega
   have e2:decide (Sp.vI (s,w)<0)=decide (s<0):=by
    rw[ev];rcases h2 with rfl|rfl<;>simp<;>omega
   refine zg (zu rfl rfl ?_);show(decide (s<0),w)=(decide (Sp.vI (s,w)<0),BG (Ah (Sp.vI (s,w))));rw[e1,e2,show w=BG (Ao w)from Kq (by decide) n2 n3];congr 2;exact(Dj (b:=Am) (by decide) (Aw (b:=Am) (by decide) n2)).symm
 all_goals
  have c:¬0<w.length:=of_decide_eq_false c;have hn:w=[]:=List.length_eq_zero_iff.1 (by omega);subst hn
 ·have d:s=0:=by simpa using d
  subst d;exact zg (zu rfl rfl rfl)
 ·show F4 s=true;unfold F4;rw[ze,decide_eq_true_eq,decide_eq_true_eq];exact hr
 ·have d:s≠0:=by simpa using d
  refine zg (zu rfl rfl ?_);show(decide (s<0),[Ah s])=(decide (Sp.vI (s,[])<0),BG (Ah (Sp.vI (s,[]))));rw[Es,dS (d:=Ah s) (by simp only[Aq];omega) (by simp only[Aq];omega)]
end T231
theorem BI{n:Int}(h: -9223372036854775808<n∧n<9223372036854775808):Co n=(n,[]):=if_pos h
theorem Pm{w:List Int}(neg:Bool)(h1:At Am w)(h2:Sp.nz w)(h3:9223372036854775808≤Ao w):Co (if neg=true then -Ao w else Ao w)=(if neg=true then -1 else 1,w):=by
 have e:BG (Ao w)=w:=(Kq (by decide) h1 h2).symm;cases neg with
 |true=>
  simp only[if_true];unfold Co;rw[if_neg (by omega),if_pos (by omega)];rw[show Ah (-Ao w)=Ao w by simp only[Aq];omega,e]
 |false=>
  show Co (Ao w)=(1,w);unfold Co;rw[if_neg (by omega),if_neg (by omega)];rw[show Ah (Ao w)=Ao w by simp only[Aq];omega,e]
namespace T232
theorem ok(hall:∀g sp,I4.sp g=some sp→Ad AT g sp):Ad AT 232 XA:=by
 refine Av (X:=I4) rfl hall (d:=9) (by kernel_rfl) (by kernel_rfl) (by kernel_rfl) (fun(i:Bool×List Int) hi=>?_) (Ab (by kernel_rfl));obtain⟨neg,w⟩:=i;obtain⟨n1,n2,n3⟩:=Eg (l:=w) hi;refine zz (An neg w) ?_;conv=>zeta
 cases w with
 |nil=>
  refine zf rfl (zg (zu rfl rfl ?_));show _=Co (if neg=true then -0 else 0);rw[show(if neg=true then(-0:Int)else 0)=0 by split<;>rfl,BI (by omega)]
 |cons d t=>
  cases t with
  |nil=>
   have hd:=n2 d (by simp);have hz:d≠0:=by intro h;subst h;exact n3 rfl
   have hd1:0≤d:=hd.1;have hd2:d<18446744073709551616:=hd.2;have ev:Ao [d]=d:=val_one d;refine zD rfl (zf rfl (zf rfl (zk (fun c=>?_) (fun c=>?_))))
   ·have c:d≤9223372036854775807:=of_decide_eq_true c;have e1:zc .i64 d=d:=wr _ (by omega) (by omega);have e2:zc .i64 (0-d)= -d:=by rw[wr _ (by omega) (by omega)];omega
    refine zk (fun n=>zf rfl (zg (zu rfl rfl ?_))) (fun n=>zf rfl (zf rfl (zf (decide_eq_true c) (zf rfl (zg (zu rfl rfl ?_))))))
    ·show(zc .i64 (0-zc .i64 d),[])=Co (if neg=true then -Ao [d]else Ao [d]);rw[e1,e2,if_pos n,ev,BI (by omega)]
    ·show(zc .i64 d,[])=Co (if neg=true then -Ao [d]else Ao [d]);subst n;rw[e1,if_neg (by decide),ev,BI (by omega)]
   ·have c':¬d≤9223372036854775807:=of_decide_eq_false c;have hb:=Pm neg n2 n3 (by rw[ev];omega);refine zf rfl (zf rfl (zD c (zk (fun n=>zg (zu rfl rfl ?_)) (fun n=>zg (zu rfl rfl ?_)))))
    ·show(-1,[d])=Co (if neg=true then -Ao [d]else Ao [d]);rw[hb,if_pos n]
    ·show(1,[d])=Co (if neg=true then -Ao [d]else Ao [d]);rw[hb,n];rfl
  |cons e t=>
   have hv:9223372036854775808≤Ao (d::e::t):=by
    have h:=CH (b:=Am) (by decide) n2 n3 (by simp);have h2:=AU (b:=Am) (by decide) (show 1≤(d::e::t).length-1 by simp);rw[Int.pow_one]at h2;have:(9223372036854775808:Int)≤(Am:Int):=by decide
    exact Int.le_trans this (Int.le_trans h2 h)
   have hb:=Pm neg n2 n3 hv;have z0:(((d::e::t).length:Int)==0)=false:=by simp;omega
   have z1:(((d::e::t).length:Int)==1)=false:=by simp;omega
   refine zD z0 (zD z1 (zD z1 (zk (fun n=>zg (zu rfl rfl ?_)) (fun n=>zg (zu rfl rfl ?_)))))
   ·show(-1,d::e::t)=Co (if neg=true then -Ao (d::e::t)else Ao (d::e::t));rw[hb,if_pos n]
   ·show(1,d::e::t)=Co (if neg=true then -Ao (d::e::t)else Ao (d::e::t));rw[hb,n];rfl
end T232
namespace T291
variable {Q:PV→Ob→Prop}
theorem Ak(x y:List Int)(hx:At Am x)(hy:At Am y)(hl:y.length≤x.length)(hm:x.length≤9000)(hq:∀ob,Q (.dat CJ (BG (Ao x+Ao y))) ob):∀(k i:Nat) (p:List Int) (c:Int),i+k=x.length→p.length=i→At Am p→(0≤c∧c≤1)→Sp.val Am p+(Am:Int)^i*c=Sp.val Am (x.take i)+Sp.val Am (y.take i)→
  Ends I4 (L1 x y (x.length+1) c x.length i (p++zj (x.length+1-i) 0)) Q
 |0,i,p,c,hi,hp,hd,hc,he=>by
  have hi:i=x.length:=by omega
  subst hi;have er:x.length+1-x.length=1:=by omega
  have es:(p++zj (x.length+1-x.length) (0:Int)).set x.length c=p++[c]:=by
   rw[er];exact Pe.Ch p [] 0 c hp
  have ht:(p++[c]).take (x.length+1)=p++[c]:=zt (by simp;omega);have hd':At Am (p++[c]):=Dr hd (Cn hc.1 (by omega));have hv:Ao (p++[c])=Ao x+Ao y:=by
   unfold Ao;rw[Ek,hp,he,zN,zt hl]
  refine zy (Ai ..) (zD (by simp) ?_);rw[zi,es,ht];refine zf (by simp<;>omega) (zf (by simp;omega) (zf ?_ (zg ?_)))
  ·rw[DE (by simp;omega) hd'];simp;omega
  ·rw[IV hd',hv];exact hq _
 |k+1,i,p,c,hi,hp,hd,hc,he=>by
  have gx:=AP hx i;have gy:=AP hy i;have lo:(p++zj (x.length+1-i) (0:Int)).length=x.length+1:=by simp;omega
  have step:∀z,Sp.u64 z=true→z=y.getD i 0→Ends I4 (L1 x y (x.length+1) (Mc (x.getD i 0) z c) x.length (zc .i64 ((i:Int)+1)) ((p++zj (x.length+1-i) 0).set i (GJ (x.getD i 0) z c))) Q:=by
   intro z hz ez;obtain⟨a1,a2,a3⟩:=IL gx hz hc;rw[wr ((i:Int)+1) (by omega) (by omega),HI p (x.length+1) i _ hp (by omega)];refine Ak x y hx hy hl hm hq k (i+1) (p++[GJ (x.getD i 0) z c]) _ (by omega) (by simp;omega) (Dr hd a1) a2 ?_;rw[Ek,hp,Jv,Ax _ x i,Ax _ y i, ←ez,yg, ←zC,a3,zC,zC];omega
  refine zy (Ai ..) (zf (by simp;omega) ?_);rw[zi];refine zk (fun d=>?_) (fun d=>?_)
  ·have d:=of_decide_eq_true d;refine zf (by simp;omega) (zf (by simp;omega) (zf ?_ (zf (by simp;omega) (zf (decide_eq_true (by rw[lo];omega)) (step _ gy rfl)))));rw[gx,gy,zq,zq,ze];exact⟨decide_eq_true hc.1,decide_eq_true hc.2⟩
  ·have d:=of_decide_eq_false d;have hz:y.getD i 0=0:=by rw[zm,zV (by omega)];rfl
   refine zf (by simp;omega) (zf ?_ (zf (by simp;omega) (zf (decide_eq_true (by rw[lo];omega)) (step _ rfl hz.symm))));rw[gx,show Sp.u64 0=true from rfl,zq,zq,ze];exact⟨decide_eq_true hc.1,decide_eq_true hc.2⟩
theorem start(x y:List Int)(hx:At Am x)(hy:At Am y)(hl:y.length≤x.length)(hm:x.length≤9000)(hq:∀ob,Q (.dat CJ (BG (Ao x+Ao y))) ob){t:Tr}:
  Ends I4 (.ite (decide ((0:Int)≤zc zG ((x.length:Int)+(1:Int)))&&decide (zc zG ((x.length:Int)+(1:Int))=zc zG ((x.length:Int)+(1:Int)))&&decide ((8:Nat)*Int.toNat (zc zG ((x.length:Int)+(1:Int)))≤(281474976710656:Nat))&&decide (zc zG ((x.length:Int)+(1:Int))<(9223372036854775808:Int)))
   (L1 x y (Int.toNat (zc zG ((x.length:Int)+(1:Int)))) ((0:Int)) ((x.length:Int)) ((0:Int)) (zj (Int.toNat (zc zG ((x.length:Int)+(1:Int)))) (0:Int))) t) Q:=by
 have e1:zc .i64 ((x.length:Int)+1)=((x.length+1:Nat):Int):=by rw[wr _ (by omega) (by omega)];omega
 rw[e1,zi];refine zf (by simp;omega) ?_;exact Ak x y hx hy hl hm hq x.length 0 [] 0 (by omega) rfl (fun _ h=>by cases h) (by omega) (by simp[Sp.val])
theorem ok(hall:∀g sp,I4.sp g=some sp→Ad AT g sp):Ad AT 291 Ws:=by
 refine Av (X:=I4) rfl hall (d:=9) (by kernel_rfl) (by kernel_rfl) (by kernel_rfl) (fun(i:List Int×List Int) hi=>?_) (Ab (by kernel_rfl));obtain⟨x,y⟩:=i;have hi:(Sp.hW x&&Sp.hW y)=true:=hi;rw[ze]at hi;obtain⟨x1,x2⟩:=TY hi.1;obtain⟨y1,y2⟩:=TY hi.2;have hq:∀ob,Ae Ws (x,y) (.dat CJ (BG (Ao x+Ao y))) ob:=fun ob=>zu rfl rfl rfl
 refine zz (An x y) (zk (fun c=>?_) (fun c=>?_))
 ·have c:=of_decide_eq_true c;exact start y x y2 x2 (by omega) y1 (by rw[Int.add_comm];exact hq)
 ·have c:=of_decide_eq_false c;exact start x y x2 y2 (by omega) x1 hq
end T291
namespace T293
variable {Q:PV→Ob→Prop}
theorem Xi{b:Int}(hb:0<b){l:List Int}{n:Nat}(h:At b l)(hv:Sp.val b l<b^n):Sp.val b (l.take n)=Sp.val b l:=by
 rcases yn n l.length with hn|hn
 ·have h1:=B4 b l n (by omega);have h2:=Aw (by omega) (AH h n);have h3:=Aw (by omega) (Fy h n);rcases zB 0 (Sp.val b (l.drop n))with h4|h4
  ·have:=zo (show 1≤Sp.val b (l.drop n)by omega) (Int.le_of_lt (AQ hb n));rw[yc]at this;omega
  ·have:Sp.val b (l.drop n)=0:=by omega
   rw[this,Int.mul_zero]at h1;omega
 ·rw[zt hn]
theorem Ak(x y:List Int)(hx:At Am x)(hy:At Am y)(hl:Ao y≤Ao x)(hm:x.length≤20000)(hq:∀ob,Q (.dat CJ (BG (Ao x-Ao y))) ob):∀(k i:Nat) (p:List Int) (c:Int),i+k=x.length→p.length=i→At Am p→(0≤c∧c≤1)→Sp.val Am p-(Am:Int)^i*c=Sp.val Am (x.take i)-Sp.val Am (y.take i)→
  Ends I4 (L1 x y x.length c x.length i (p++zj (x.length-i) 0)) Q
 |0,i,p,c,hi,hp,hd,hc,he=>by
  have hi:i=x.length:=by omega
  subst hi;have er:p++zj (x.length-x.length) (0:Int)=p:=by rw[Nat.sub_self];simp
  have ht:p.take x.length=p:=zt (by omega);have hX:Ao x<(Am:Int)^x.length:=Bs (by decide) hx;have hP:Ao p<(Am:Int)^p.length:=Bs (by decide) hd;have hv:Ao p=Ao x-Ao y:=by
   rw[zN,Xi (by decide) hy (show Sp.val Am y<_ from zF hl hX)]at he;have he:Ao p-(Am:Int)^x.length*c=Ao x-Ao y:=he;rw[hp]at hP;rcases zB 0 c with h|h
   ·have:c=1:=by omega
    subst this;rw[yc]at he;omega
   ·have:c=0:=by omega
    subst this;rw[Int.mul_zero]at he;omega
  rw[er];refine zy (Ai ..) (zD (by simp) ?_);rw[ht];refine zf ?_ (zg ?_)
  ·rw[DE (by omega) hd];simp;omega
  ·rw[IV hd,hv];exact hq _
 |k+1,i,p,c,hi,hp,hd,hc,he=>by
  have gx:=AP hx i;have gy:=AP hy i;have lo:(p++zj (x.length-i) (0:Int)).length=x.length:=by simp;omega
  have step:∀z,Sp.u64 z=true→z=y.getD i 0→Ends I4 (L1 x y x.length (Nw (x.getD i 0) z c) x.length (zc .i64 ((i:Int)+1)) ((p++zj (x.length-i) 0).set i (P7 (x.getD i 0) z c))) Q:=by
   intro z hz ez;obtain⟨a1,a2,a3⟩:=LG gx hz hc;rw[wr ((i:Int)+1) (by omega) (by omega),HI p x.length i _ hp (by omega)];refine Ak x y hx hy hl hm hq k (i+1) (p++[P7 (x.getD i 0) z c]) _ (by omega) (by simp;omega) (Dr hd a1) a2 ?_;have e:(Am:Int)^i*P7 (x.getD i 0) z c-(Am:Int)^i*(18446744073709551616*Nw (x.getD i 0) z c)=(Am:Int)^i*x.getD i 0-(Am:Int)^i*z-(Am:Int)^i*c:=by
    rw[←yb,a3,yb,yb]
   rw[Ek,hp,Jv,Ax _ x i,Ax _ y i, ←ez];omega
  refine zy (Ai ..) (zf (by simp;omega) ?_);rw[zi];refine zk (fun d=>?_) (fun d=>?_)
  ·have d:=of_decide_eq_true d;refine zf (by simp;omega) (zf (by simp;omega) (zf ?_ (zf (by simp;omega) (zf (decide_eq_true (by rw[lo];omega)) (step _ gy rfl)))));rw[gx,gy,zq,zq,ze];exact⟨decide_eq_true hc.1,decide_eq_true hc.2⟩
  ·have d:=of_decide_eq_false d;have hz:y.getD i 0=0:=by rw[zm,zV (by omega)];rfl
   refine zf (by simp;omega) (zf ?_ (zf (by simp;omega) (zf (decide_eq_true (by rw[lo];omega)) (step _ rfl hz.symm))));rw[gx,show Sp.u64 0=true from rfl,zq,zq,ze];exact⟨decide_eq_true hc.1,decide_eq_true hc.2⟩
theorem ok(hall:∀g sp,I4.sp g=some sp→Ad AT g sp):Ad AT 293 Wy:=by
 refine Av (X:=I4) rfl hall (d:=9) (by kernel_rfl) (by kernel_rfl) (by kernel_rfl) (fun(i:List Int×List Int) hi=>?_) (Ab (by kernel_rfl));obtain⟨x,y⟩:=i;have hi:(Cr x&&Cr y&&decide (Ao y≤Ao x))=true:=hi;rw[ze,ze,decide_eq_true_eq]at hi;obtain⟨x1,x2⟩:=Hc hi.1.1;obtain⟨y1,y2⟩:=Hc hi.1.2;have hq:∀ob,Ae Wy (x,y) (.dat CJ (BG (Ao x-Ao y))) ob:=fun ob=>zu rfl rfl rfl
 refine zz (An x y) ?_;conv=>zeta
 rw[zi];refine zf (by simp;omega) ?_;exact Ak x y x2 y2 hi.2 x1 hq x.length 0 [] 0 (by omega) rfl (fun _ h=>by cases h) (by omega) (by simp[Sp.val])
end T293
end Go.Pe
end
section
namespace Go.Pe
open Sp
open Go.Det
theorem I2(n:Int):zc .u64 n=n % 18446744073709551616:=by simp[zc,IntKind.bits,IntKind.signed]
theorem VA(n:Nat):zl (n:Int) ((2:Int)^(32:Nat))=((n/4294967296:Nat):Int):=by
 rw[Int.fdiv_eq_ediv_of_nonneg _ (by decide)];rfl
theorem VU(n:Nat)(h:n<18446744073709551616):zc .u64 (n:Int)=n:=wu _ (by omega) (by omega)
theorem Mo(n:Nat)(h:n<18446744073709551616):Gq .u64 (n:Int) 4294967295=((n % 4294967296:Nat):Int):=by
 have e:(zU 64 (n:Int)&&&zU 64 4294967295).toNat=n % 4294967296:=by
  rw[BitVec.toNat_and];have h1:(zU 64 (n:Int)).toNat=n:=by rw[BitVec.ofInt_natCast,BitVec.toNat_ofNat];exact Nat.mod_eq_of_lt h
  have h2:(zU 64 4294967295).toNat=2^32-1:=by decide
  rw[h1,h2,Nat.and_two_pow_sub_one_eq_mod]
 show zc .u64 (((zU 64 (n:Int)&&&zU 64 4294967295).toNat:Nat):Int)=_;rw[e];exact VU _ (by omega)
namespace T229
theorem ok:Ad AT 229 Pw:=by
 refine Av (X:=Rh) rfl HK (d:=9) (by kernel_rfl) (by kernel_rfl) (by kernel_rfl) (fun(i:Int×Int) hi=>?_) (Ab (by kernel_rfl));obtain⟨x,y⟩:=i;have hi:(Sp.u64 x&&Sp.u64 y)=true:=hi;rw[ze]at hi;have hx:=Sp.AW hi.1;have hy:=Sp.AW hi.2;obtain⟨x,rfl⟩:=zn hx.1;obtain⟨y,rfl⟩:=zn hy.1;have hx:x<18446744073709551616:=by omega
 have hy:y<18446744073709551616:=by omega
 obtain⟨m1,m2,m3,m4⟩:=Go.Lib.mul64_hi x y hx hy;have k1:=z9 (a:=x/4294967296) (b:=y/4294967296) (by omega) (by omega);have k2:=z9 (a:=x/4294967296) (b:=y % 4294967296) (by omega) (by omega);have k3:=z9 (a:=x % 4294967296) (b:=y/4294967296) (by omega) (by omega);refine zz (An (x:Int) (y:Int)) (zf rfl (zf rfl (zf rfl (zf rfl (zf rfl (zg (zu rfl rfl ?_)))))));refine Prod.ext ?_ ?_
 ·show zc zd (zc zd (zc zd (zl (x:Int) ((2:Int)^(32:Nat))*zl (y:Int) ((2:Int)^(32:Nat)))+zl (zc zd (zc zd (zl (x:Int) ((2:Int)^(32:Nat))*Gq zd (y:Int) (4294967295:Int))+zl (zc zd (Gq zd (x:Int) (4294967295:Int)*Gq zd (y:Int) (4294967295:Int))) ((2:Int)^(32:Nat)))) ((2:Int)^(32:Nat)))+zl (zc zd (Gq zd (zc zd (zc zd (zl (x:Int) ((2:Int)^(32:Nat))*Gq zd (y:Int) (4294967295:Int))+zl (zc zd (Gq zd (x:Int) (4294967295:Int)*Gq zd (y:Int) (4294967295:Int))) ((2:Int)^(32:Nat)))) (4294967295:Int)+zc zd (Gq zd (x:Int) (4294967295:Int)*zl (y:Int) ((2:Int)^(32:Nat))))) ((2:Int)^(32:Nat)))=Oh x y;have em:Oh x y=((x*y/18446744073709551616:Nat):Int):=by unfold Oh;omega
  rw[em, ←m4];have hlt:x*y/18446744073709551616<18446744073709551616:=Nat.div_lt_of_lt_mul (Nat.mul_lt_mul'' hx hy);rw[←m4]at hlt;simp only[VA,Mo x hx,Mo y hy];simp only[←Int.natCast_mul];generalize (x/4294967296)*(y/4294967296)=a at*;generalize (x/4294967296)*(y % 4294967296)=b at*;generalize (x % 4294967296)*(y/4294967296)=c at*;generalize (x % 4294967296)*(y % 4294967296)=d at*;rw[VU d (by omega),VU a (by omega),VU b (by omega),VU c (by omega),VA, ←z5,VU _ m2,VA,Mo _ m2, ←z5, ←z5,VU _ m3,VA,VU (a+_) (by omega), ←z5,VU _ hlt]
 ·show zc .u64 ((x:Int)*y)=GQ x y;unfold GQ;exact I2 _
end T229
theorem Wb{x y o c:Int}(hx:Sp.u64 x=true)(hy:Sp.u64 y=true)(ho:Sp.u64 o=true)(hc:Sp.u64 c=true):
  Sp.u64 (GQ x y)=true∧Sp.u64 (GJ (GQ x y) o 0)=true∧Sp.u64 (GJ (GJ (GQ x y) o 0) c 0)=true∧
  zc .u64 (zc .u64 (Oh x y+Mc (GQ x y) o 0)+Mc (GJ (GQ x y) o 0) c 0)=(x*y+o+c)/18446744073709551616∧
  Sp.u64 ((x*y+o+c)/18446744073709551616)=true∧
  GJ (GJ (GQ x y) o 0) c 0+18446744073709551616*((x*y+o+c)/18446744073709551616)=x*y+o+c:=by
 have hx:=Sp.AW hx;have hy:=Sp.AW hy;have ho:=Sp.AW ho;have hc:=Sp.AW hc;have h0:0≤x*y:=zS hx.1 hy.1;have h1:x*y≤18446744073709551615*18446744073709551615:=by
  have a:=zo (show y≤18446744073709551615 by omega) hx.1;have b:=zX (show x≤18446744073709551615 by omega) (show(0:Int)≤18446744073709551615 by omega);omega
 unfold GQ Oh GJ Mc;generalize x*y=P at*;refine⟨Cn (by omega) (by omega),Cn (by omega) (by omega),Cn (by omega) (by omega),?_,Cn (by omega) (by omega),by omega⟩;rw[I2,I2];omega
namespace T233
variable {Q:PV→Ob→Prop}
theorem AN(x y:List Int)(n i:Nat)(hi:i<x.length)(hn:n=x.length+y.length)(hx9:x.length≤9000)(hy9:y.length≤9000)(hx:At Am x)(hy:At Am y)(p:List Int)(hp:p.length=i+y.length)(hdp:At Am p)
  (hq:∀q c,q.length=i+y.length→At Am q→Sp.u64 c=true→Sp.val Am q+(Am:Int)^(i+y.length)*c=Sp.val Am p+(Am:Int)^i*(x.getD i 0*Sp.val Am y)→Ends I4 (L1 y n x x.length ((i+1:Nat):Int) ((q++[c])++zj (n-(i+y.length+1)) 0)) Q):∀(k j:Nat) (q:List Int) (c:Int),j+k=y.length→q.length=i+j→At Am q→Sp.u64 c=true→Sp.val Am q+(Am:Int)^(i+j)*c=Sp.val Am (p.take (i+j))+(Am:Int)^i*(x.getD i 0*Sp.val Am (y.take j))→
  Ends I4 (L2 y n i (x.getD i 0) c x x.length i y y.length j (q++(p.drop (i+j)++zj (n-(i+y.length)) 0))) Q
 |0,j,q,c,hj,hl,hd,hc,he=>by
  have hj:j=y.length:=by omega
  subst hj;have e1:zc .i64 ((i:Int)+(y.length:Int))=((i+y.length:Nat):Int):=by rw[wr _ (by omega) (by omega)];omega
  have e2:zc .i64 ((i:Int)+1)=((i+1:Nat):Int):=by rw[wr _ (by omega) (by omega)];omega
  have ed:p.drop (i+y.length)=[]:=zH (by omega);refine zy (AM ..) (zD (by simp) ?_);rw[e1,e2,zi,ed,List.nil_append,HI q n _ c hl (by omega)];refine zf (by simp;omega) (zf (by simp;omega) (hq q c hl hd hc ?_));rw[he,zt (by omega),zN]
 |k+1,j,q,c,hj,hl,hd,hc,he=>by
  have gx:=AP hx i;have gy:=AP hy j;have gp:=AP hdp (i+j);have ep:p.drop (i+j)=p.getD (i+j) 0::p.drop (i+j+1):=by
   rw[zm,zw (by omega)];exact zO (by omega)
  have e1:zc .i64 ((i:Int)+(j:Int))=((i+j:Nat):Int):=by rw[wr _ (by omega) (by omega)];omega
  have e2:zc .i64 ((j:Int)+1)=((j+1:Nat):Int):=by rw[wr _ (by omega) (by omega)];omega
  have lo:(q++(p.drop (i+j)++zj (n-(i+y.length)) (0:Int))).length=n:=by simp;omega
  have g1:(q++(p.drop (i+j)++zj (n-(i+y.length)) (0:Int))).getD (i+j) 0=p.getD (i+j) 0:=by
   rw[ep,zW];exact Cj _ _ _ _ hl
  have s1:∀z,(q++(p.drop (i+j)++zj (n-(i+y.length)) (0:Int))).set (i+j) z=(q++[z])++(p.drop (i+(j+1))++zj (n-(i+y.length)) 0):=by
   intro z;rw[ep,zW,Ch _ _ _ _ hl,yd];rfl
  obtain⟨m1,m2,m3,m4,m5,m6⟩:=Wb gx gy gp hc;refine zy (AM ..) (zf (by simp;omega) ?_);rw[e1,e2,zi,zi,g1,s1,m4];have t1:(decide ((0:Int)≤((i+j:Nat):Int))&&decide (((i+j:Nat):Int)<(n:Int)))=true:=by simp;omega
  refine zf (by simp;omega) (zf (by rw[gx,gy];rfl) (zf t1 (zf (decide_eq_true (by rw[lo];omega)) (zf (by rw[m1,gp];rfl) (zf (by rw[m2,hc];rfl) (zf t1 (zf (decide_eq_true (by rw[lo];omega)) ?_)))))));refine AN x y n i hi hn hx9 hy9 hx hy p hp hdp hq k (j+1) _ _ (by omega) (by simp;omega) (Dr hd m3) m5 ?_;have ea:i+(j+1)=(i+j)+1:=by omega
  have eb:(Am:Int)^i*(x.getD i 0*((Am:Int)^j*y.getD j 0))=(Am:Int)^(i+j)*(x.getD i 0*y.getD j 0):=by
   rw[Int.pow_add,zZ,Int.mul_left_comm (x.getD i 0)]
  rw[ea,Ek,hl,Jv,yg, ←zC,m6,Ax _ p (i+j),Ax _ y j,zC,zC,zC (x.getD i 0),zC,eb];omega
theorem Ak(x y:List Int)(n:Nat)(hn:n=x.length+y.length)(hx9:x.length≤9000)(hy9:y.length≤9000)(hx:At Am x)(hy:At Am y)(hq:∀ob,Q (.dat CJ (BG (Ao x*Ao y))) ob):∀(k i:Nat) (p:List Int),i+k=x.length→p.length=i+y.length→At Am p→Sp.val Am p=Sp.val Am (x.take i)*Sp.val Am y→
  Ends I4 (L1 y n x x.length i (p++zj (n-(i+y.length)) 0)) Q
 |0,i,p,hi,hp,hd,he=>by
  have hi:i=x.length:=by omega
  subst hi;have ez:p++zj (n-(x.length+y.length)) (0:Int)=p:=by rw[hn,Nat.sub_self];simp
  have hv:Ao p=Ao x*Ao y:=by
   rw[zN]at he;exact he
  rw[ez];refine zy (Ai ..) (zD (by simp) ?_);rw[zt (by omega)];refine zf ?_ (zg ?_)
  ·rw[DE (by omega) hd];simp;omega
  ·rw[IV hd,hv];exact hq _
 |k+1,i,p,hi,hp,hd,he=>by
  refine zy (Ai ..) (zf (by simp;omega) ?_);rw[zi];refine zf (by simp;omega) ?_;have h0:Sp.val Am (p.take (i+y.length))=Sp.val Am p:=by rw[zt (by omega)]
  have:=AN (Q:=Q) x y n i (by omega) hn hx9 hy9 hx hy p hp hd (fun q c hl hdq hc hv=>by
   have:=Ak x y n hn hx9 hy9 hx hy hq k (i+1) (q++[c]) (by omega) (by simp;omega) (Dr hdq hc) (by
    rw[Ek,hl,hv,he,Ax,Int.add_mul,zZ])
   rw[show i+1+y.length=i+y.length+1 by omega]at this;exact this) y.length 0 (p.take i) 0 (by omega) (by simp;omega) (AH hd i) rfl (by simp[Sp.val])
  rw[Nat.add_zero, ←yd,List.take_append_drop]at this;exact this
theorem ok(hall:∀g sp,I4.sp g=some sp→Ad AT g sp):Ad AT 233 WI:=by
 refine Av (X:=I4) rfl hall (d:=9) (by kernel_rfl) (by kernel_rfl) (by kernel_rfl) (fun(i:List Int×List Int) hi=>?_) (Ab (by kernel_rfl));obtain⟨x,y⟩:=i;have hi:(Sp.hW x&&Sp.hW y)=true:=hi;rw[ze]at hi;obtain⟨x1,x2⟩:=TY hi.1;obtain⟨y1,y2⟩:=TY hi.2;have hq:∀ob,Ae WI (x,y) (.dat CJ (BG (Ao x*Ao y))) ob:=fun ob=>zu rfl rfl rfl
 have e1:zc .i64 ((x.length:Int)+(y.length:Int))=((x.length+y.length:Nat):Int):=by rw[wr _ (by omega) (by omega)];omega
 refine zz (An x y) ?_;conv=>zeta
 rw[e1,zi];refine zf (by simp;omega) ?_;have:=Ak x y (x.length+y.length) rfl x1 y1 x2 y2 hq x.length 0 (zj y.length 0) (by omega) (by simp) (fun d hd=>by
  obtain⟨_,rfl⟩:=List.mem_replicate.1 hd;exact⟨by decide,by decide⟩) (by rw[JK];simp[Sp.val])
 rw[Nat.zero_add,List.replicate_append_replicate,show y.length+(x.length+y.length-y.length)=x.length+y.length by omega]at this;exact this
end T233
theorem F9:∀g sp,I4.sp g=some sp→Ad AT g sp:=
 Ac T230.ok (Ac T294.ok (Ac T326.ok (Ac T295.ok (Ac T229.ok (fun g sp h=>by cases h)))))
theorem Pd:∀g sp,eN.sp g=some sp→Ad AT g sp:=
 Ac (T231.ok F9) (Ac (T232.ok F9) (Ac (T291.ok F9) (Ac (T293.ok F9) (Ac T292.ok (Ac (T233.ok F9) (Ac T229.ok (Ac T230.ok (fun g sp h=>by cases h))))))))
end Go.Pe
end
section
namespace Go.Sp
def BL(a:Bj):Bool:=ET a&&decide (a.2.length≤9000)
def UE(a b:Bj):Int:=Bz (vI a) (vI b)
def ML(a:Bj):Int:=Yh (vI a)
end Go.Sp
namespace Go.Pe
open Sp
open Go.Det
noncomputable section
noncomputable def X1:As:=⟨[BW],fun a=>ET a,[BW],fun a=>(Ho a,GR a),false⟩
noncomputable def bG:As:=⟨[BW],fun a=>ET a,[BW],fun a=>(Mw a,Lz a),false⟩
noncomputable def OM:As:=⟨[BW],fun a=>ET a,[i64],fun a=>ML a,false⟩
noncomputable def QP:As:=⟨[BW,BW],fun i=>BL i.1&&BL i.2,[BW],fun i=>(J6 i.1 i.2,Kg i.1 i.2),false⟩
noncomputable def Wz:As:=⟨[BW,BW],fun i=>BL i.1&&BL i.2,[BW],fun i=>(WM i.1 i.2,X8 i.1 i.2),false⟩
noncomputable def QD:As:=⟨[BW,BW],fun i=>BL i.1&&BL i.2,[BW],fun i=>(GH i.1 i.2,GB i.1 i.2),false⟩
noncomputable def VL:As:=⟨[BW,BW],fun i=>BL i.1&&BL i.2,[i64],fun i=>UE i.1 i.2,false⟩
noncomputable def hZ:AX:=X7 [(227,X1),(226,QP)]
noncomputable def jP:AX:=X7 [(228,Wz),(220,OM)]
end
end Go.Pe
end
section
namespace Go.Pe
open Sp
open Go.Det
noncomputable section
open List Int Prod
namespace T227
def T(a:Int×List Int):Tr:=tree eN false 9 227 (Af ([zT i64 (zA (zh zd))]) a)
theorem An(a:Int×List Int):T a=let c':=zA (zh zd);let d':=BG (Ah (Sp.vI (fst a,snd a)));let e':=zc .i64 (0-fst a);let b':=Sp.sg (!decide (Sp.vI (fst a,snd a)<0)) (Ao d');let a':Tr:=.ite (ET (fst a,snd a)) (.ite (BQ d') (.leaf (zP [.dat i64 (Cc b'),.dat c' (Cb b')]) ([(zp 0 1,.box [.dat i64 (Cc b'),.dat c' (Cb b')]),(0,.box [.dat i64 (fst a),.dat c' (snd a)])])) .fail) .fail;.ite (!decide (0<length (snd a))) (.ite (fst a !=(-9223372036854775808)) (.leaf (zP [.dat i64 e',.nil]) ([(zp 0 1,.box [.dat i64 e',.nil]),(0,.box [.dat i64 (fst a),.dat c' (snd a)])])) a') a':=by kernel_rfl
end T227
namespace T226
def T(a b:Int×List Int):Tr:=tree eN false 9 226 (Af ([zT i64 (zA (zh zd)),zT i64 (zA (zh zd))]) (a,b))
theorem An(a b:Int×List Int):T a b=let b':=BG (Ah (Sp.vI (fst a,snd a)));let c':=BG (Ah (Sp.vI (fst b,snd b)));let d':=zA (zh zd);let h':=decide (Sp.vI (fst a,snd a)<0);let i':=zc .i64 (fst a+fst b);let m':=decide (Sp.vI (fst b,snd b)<0);let j':=BG (Ao b'+Ao c');let k':=BG (Ao b'-Ao c');let l':=BG (Ao c'-Ao b');let e':=Sp.sg (h') (Ao j');let f':=Sp.sg (h') (Ao k');let g':=Sp.sg (m') (Ao l');let a':Tr:=.ite (ET (fst a,snd a)) (.ite (ET (fst b,snd b)) (.ite (h'==m') (.ite (Sp.hW b'&&Sp.hW c') (.ite (BQ j') (.leaf (zP [.dat i64 (Cc e'),.dat d' (Cb e')]) ([(zp (zp 0 1) 1,.box [.dat i64 (Cc e'),.dat d' (Cb e')]),(zp 0 1,.box [.dat i64 (fst b),.dat d' (snd b)]),(0,.box [.dat i64 (fst a),.dat d' (snd a)])])) .fail) .fail) (.ite (BQ b'&&BQ c') (.ite (decide (Bz (Ao b') (Ao c')≥0)) (.ite (Cr b'&&Cr c'&&decide (Ao c'≤Ao b')) (.ite (BQ k') (.leaf (zP [.dat i64 (Cc f'),.dat d' (Cb f')]) ([(zp (zp 0 1) 1,.box [.dat i64 (Cc f'),.dat d' (Cb f')]),(zp 0 1,.box [.dat i64 (fst b),.dat d' (snd b)]),(0,.box [.dat i64 (fst a),.dat d' (snd a)])])) .fail) .fail) (.ite (Cr c'&&Cr b'&&decide (Ao b'≤Ao c')) (.ite (BQ l') (.leaf (zP [.dat i64 (Cc g'),.dat d' (Cb g')]) ([(zp (zp 0 1) 1,.box [.dat i64 (Cc g'),.dat d' (Cb g')]),(zp 0 1,.box [.dat i64 (fst b),.dat d' (snd b)]),(0,.box [.dat i64 (fst a),.dat d' (snd a)])])) .fail) .fail)) .fail)) .fail) .fail;.ite (!decide (0<length (snd a))) (.ite (!decide (0<length (snd b))) (.ite (decide (zc .i64 (fst a+fst b)>fst a)==decide (fst b>0)) (.leaf (zP [.dat i64 i',.nil]) ([(zp (zp 0 1) 1,.box [.dat i64 i',.nil]),(zp 0 1,.box [.dat i64 (fst b),.dat d' (snd b)]),(0,.box [.dat i64 (fst a),.dat d' (snd a)])])) a') a') a':=by kernel_rfl
end T226
namespace T186
def T(a b:Int×List Int):Tr:=tree eN false 9 186 (Af ([zT i64 (zA (zh zd)),zT i64 (zA (zh zd))]) (a,b))
theorem An(a b:Int×List Int):T a b=let c':=zA (zh zd);let f':=Ah (fst a);let g':=Ah (fst b);let i':=BG (Ah (Sp.vI (fst a,snd a)));let j':=BG (Ah (Sp.vI (fst b,snd b)));let d':=GQ f' g';let e':=BG (Ao i'*Ao j');let b':=Sp.sg (!decide (Sp.vI (fst a,snd a)<0)==decide (Sp.vI (fst b,snd b)<0)) (Ao e');let h':=zc .i64 (0-zc .i64 d');let a':Tr:=.ite (ET (fst a,snd a)) (.ite (ET (fst b,snd b)) (.ite (Sp.hW i'&&Sp.hW j') (.ite (BQ e') (.leaf (zP [.dat i64 (Cc b'),.dat c' (Cb b')]) ([(zp (zp 0 1) 1,.box [.dat i64 (Cc b'),.dat c' (Cb b')]),(zp 0 1,.box [.dat i64 (fst b),.dat c' (snd b)]),(0,.box [.dat i64 (fst a),.dat c' (snd a)])])) .fail) .fail) .fail) .fail;.ite (!decide (0<length (snd a))) (.ite (!decide (0<length (snd b))) (.ite (F4 (fst a)) (.ite (F4 (fst b)) (.ite (Sp.u64 f'&&Sp.u64 g') (.ite (Oh f' g'==0) (.ite (decide (GQ f' g'≤9223372036854775807)) (.ite (!decide (fst a<0)==decide (fst b<0)) (.leaf (zP [.dat i64 h',.nil]) ([(zp (zp 0 1) 1,.box [.dat i64 h',.nil]),(zp 0 1,.box [.dat i64 (fst b),.dat c' (snd b)]),(0,.box [.dat i64 (fst a),.dat c' (snd a)])])) (.leaf (zP [.dat i64 (zc .i64 d'),.nil]) ([(zp (zp 0 1) 1,.box [.dat i64 (zc .i64 d'),.nil]),(zp 0 1,.box [.dat i64 (fst b),.dat c' (snd b)]),(0,.box [.dat i64 (fst a),.dat c' (snd a)])]))) a') a') .fail) .fail) .fail) a') a':=by kernel_rfl
end T186
namespace T219
def T(a:Int×List Int):Tr:=tree hZ false 9 219 (Af ([zT i64 (zA (zh zd))]) a)
theorem An(a:Int×List Int):T a=let a':=zA (zh zd);let b':=Ho (fst a,snd a);let c':=GR (fst a,snd a);.ite (decide (fst a<0)) (.ite (ET (fst a,snd a)) (.leaf (zP [.dat i64 b',.dat a' c']) ([(zp 0 1,.box [.dat i64 b',.dat a' c']),(0,.box [.dat i64 (fst a),.dat a' (snd a)])])) .fail) (.leaf (zP [.dat i64 (fst a),.dat a' (snd a)]) ([(zp 0 1,.box [.dat i64 (fst a),.dat a' (snd a)]),(0,.box [.dat i64 (fst a),.dat a' (snd a)])])):=by kernel_rfl
end T219
namespace T220
def T(a:Int×List Int):Tr:=tree Rh false 9 220 (Af ([zT i64 (zA (zh zd))]) a)
theorem An(a:Int×List Int):T a=.leaf (.dat i64 (imax (-1) (Cs 1 (fst a)))) ([(0,.box [.dat i64 (fst a),.dat (zA (zh zd)) (snd a)])]):=by kernel_rfl
end T220
namespace T228
def T(a b:Int×List Int):Tr:=tree hZ false 9 228 (Af ([zT i64 (zA (zh zd)),zT i64 (zA (zh zd))]) (a,b))
theorem An(a b:Int×List Int):T a b=let a':=(Ho (fst b,snd b),GR (fst b,snd b));let b':=zA (zh zd);let c':=J6 (fst a,snd a) a';let d':=Kg (fst a,snd a) a';.ite (ET (fst b,snd b)) (.ite (BL (fst a,snd a)&&BL a') (.leaf (zP [.dat i64 c',.dat b' d']) ([(zp (zp 0 1) 1,.box [.dat i64 c',.dat b' d']),(zp 0 1,.box [.dat i64 (fst b),.dat b' (snd b)]),(0,.box [.dat i64 (fst a),.dat b' (snd a)])])) .fail) .fail:=by kernel_rfl
end T228
namespace T183
def T(a b:Int×List Int):Tr:=tree jP false 9 183 (Af ([zT i64 (zA (zh zd)),zT i64 (zA (zh zd))]) (a,b))
theorem An(a b:Int×List Int):T a b=let c':=(WM (fst a,snd a) (fst b,snd b),X8 (fst a,snd a) (fst b,snd b));let d':=zA (zh zd);let a':=[(zp 0 1,.box [.dat i64 (fst b),.dat d' (snd b)]),(0,.box [.dat i64 (fst a),.dat d' (snd a)])];let b':Tr:=.ite (BL (fst a,snd a)&&BL (fst b,snd b)) (.ite (ET c') (.leaf (.dat i64 (ML c')) a') .fail) .fail;.ite (!decide (0<length (snd a))) (.ite (!decide (0<length (snd b))) (.ite (decide (fst a<fst b)) (.leaf (.dat i64 (-1:Int)) a') (.ite (decide (fst a>fst b)) (.leaf (.dat i64 (1:Int)) a') (.leaf (.dat i64 (0:Int)) a'))) b') b':=by kernel_rfl
end T183
end
end Go.Pe
end
section
namespace Go.Pe
open Sp
open Go.Det
theorem ZI(k:Nat):((Am^k:Nat):Int)=(Am:Int)^k:=Int.natCast_pow ..
theorem MA{n:Int}{k:Nat}(h0:0≤n)(h:n<(Am:Int)^k):(BG n).length≤k:=by
 refine OZ Am (by decide) k n.toNat n.toNat ?_;rw[←ZI]at h;generalize Am^k=P at*;omega
theorem CU{n:Int}{k:Nat}(h0:0≤n)(h:n<(Am:Int)^k)(hk:k≤20000):BQ (BG n)=true∧Cr (BG n)=true∧Ao (BG n)=n:=by
 have h1:=MA h0 h;have h2:Cr (BG n)=true:=DE (by omega) (HR (by decide) n);have h3:eF (BG n)=true:=by
  unfold eF;exact decide_eq_true (Ts (by decide) n)
 exact⟨by unfold BQ;rw[h2,h3];rfl,h2,Dj (by decide) h0⟩
theorem G6{a:Bj}(h:BL a=true):ET a=true∧a.2.length≤9000:=by
 unfold BL at h;rw[ze,decide_eq_true_eq]at h;exact h
theorem VW{s:Int}{w:List Int}(hw:w≠[]):Sp.vI (s,w)=if s<0 then -Ao w else Ao w:=by unfold Sp.vI;exact if_neg hw
theorem Rl{a:Bj}(h:ET a=true):(a.2=[]∧Ah (Sp.vI a)≤9223372036854775808)∨(BG (Ah (Sp.vI a))=a.2):=by
 obtain⟨hr,hw⟩:=Er h;obtain⟨s,w⟩:=a;have hr: -9223372036854775808≤s∧s<9223372036854775808:=hr;rcases hw with hw|⟨h1,h2,h3⟩
 ·have hw:w=[]:=hw;subst hw;refine .inl ⟨rfl,?_⟩;rw[Es];simp only[Aq];omega
 ·obtain⟨n1,n2,n3⟩:=Eg (l:=w) h1;have h2:s=1∨s= -1:=h2;have h3:9223372036854775808≤Ao w:=h3;have hne:w≠[]:=by rintro rfl;exact absurd h3 (by decide)
  refine .inr ?_;have e1:Ah (Sp.vI (s,w))=Ao w:=by rw[VW hne];simp only[Aq];split<;>omega
  rw[e1];exact(Kq (by decide) n2 n3).symm
theorem AE(n:Int):0≤Ah n:=by simp only[Aq];omega
theorem Hr{a:Bj}(h:ET a=true){k:Nat}(hk:a.2.length≤k)(h1:1≤k):Ah (Sp.vI a)<(Am:Int)^k:=by
 rcases Rl h with⟨_,hb⟩|he
 ·have:=AU (b:=Am) (by decide) h1;rw[Int.pow_one]at this;have h3:(9223372036854775808:Int)<(Am:Int):=by decide
  exact zF hb (Int.lt_of_lt_of_le h3 this)
 ·have hv:=Dj (b:=Am) (by decide) (AE (Sp.vI a));have:=Bs (b:=Am) (by decide) (HR (b:=Am) (by decide) (Ah (Sp.vI a)));rw[hv,show Sp.dg Am (Ah (Sp.vI a))=a.2 from he]at this;exact Int.lt_of_lt_of_le this (AU (by decide) hk)
theorem J0{x y:Int}(hx:0≤x)(h1:x<(Am:Int)^9000)(h2:y<(Am:Int)^9000):x+y<(Am:Int)^9001∧x*y<(Am:Int)^18000:=by
 have e1:(Am:Int)^9001=(Am:Int)^9000*Am:=zI ..;have e2:(Am:Int)^18000=(Am:Int)^9000*(Am:Int)^9000:=Int.pow_add _ 9000 9000;rw[e1,e2];generalize (Am:Int)^9000=P at*;refine⟨?_,?_⟩
 ·show x+y<P*18446744073709551616;omega
 ·have a:=zo (show y≤P-1 by omega) hx;have b:=zX (show x≤P-1 by omega) (show 0≤P-1 by omega);have c:(P-1)*(P-1)=P*P-P-P+1:=by
   rw[Int.sub_mul,yb];omega
  omega
theorem C0(n:Bool)(v:Int):Sp.sg n v=if n=true then -v else v:=rfl
theorem Cu(n:Int):Sp.vI (Co n)=n:=by
 unfold Co;split
 ·exact Es
 ·have hv:=Dj (b:=Am) (by decide) (AE n);have hne:BG (Ah n)≠[]:=by
   intro h;rw[show Sp.dg Am (Ah n)=[]from h]at hv;have:(0:Int)=Ah n:=hv;simp only[Aq]at this;omega
  rw[VW hne,show Ao (BG (Ah n))=Ah n from hv];simp only[Aq];split<;>split<;>omega
theorem Uj{a:Bj}{c:Bool}(h:(!decide (0<a.2.length))=c):(c=true→a.2=[])∧(c=false→a.2≠[]):=by
 subst h;rcases a with⟨s,w⟩
 cases w<;>simp
theorem Mz{a:Bj}(h:(!decide (0<a.2.length))=true):a.2=[]:=(Uj h).1 rfl
theorem VJ{a:Bj}(h:(!decide (0<a.2.length))=false):a.2≠[]:=(Uj h).2 rfl
theorem BF{a:Bj}(h:a.2=[]):Sp.vI a=a.1:=by unfold Sp.vI;exact if_pos h
theorem words{a:Bj}(h:BL a=true):ET a=true∧Sp.hW (BG (Ah (Sp.vI a)))=true∧BQ (BG (Ah (Sp.vI a)))=true∧Cr (BG (Ah (Sp.vI a)))=true∧Ao (BG (Ah (Sp.vI a)))=Ah (Sp.vI a)∧Ah (Sp.vI a)<(Am:Int)^9000:=by
 obtain⟨h1,h2⟩:=G6 h;have hb:=Hr h1 h2 (by omega);obtain⟨n,d,v⟩:=CU (AE _) hb (by omega);have hl:=MA (AE _) hb;refine⟨h1,?_,n,d,v,hb⟩;unfold Sp.hW;rw[d,zq];exact decide_eq_true hl
theorem Aj{a b:Bool}(h1:a=true)(h2:b=true):(a&&b)=true:=by rw[h1,h2];rfl
theorem Jc(n:Int):Yh n=if n<0 then -1 else if n>0 then 1 else 0:=rfl
theorem cR{a:Bj}(h:ET a=true):imax (-1) (Cs 1 a.1)=Yh (Sp.vI a):=by
 obtain⟨hr,hw⟩:=Er h;obtain⟨s,w⟩:=a;rcases hw with hw|⟨h1,h2,h3⟩
 ·have hw:w=[]:=hw;subst hw;rw[Es,Jc,XZ];show imax (-1) (if (1:Int)≤s then 1 else s)=_;unfold imax;split<;>split<;>split<;>(try split)<;>omega
 ·have h2:s=1∨s= -1:=h2;have h3:9223372036854775808≤Ao w:=h3;have hne:w≠[]:=by rintro rfl;exact absurd h3 (by decide)
  rw[VW hne,Jc];rcases h2 with rfl|rfl
  ·have e:(if (1:Int)<0 then -Ao w else Ao w)=Ao w:=if_neg (by decide);rw[e,if_neg (show ¬Ao w<0 by omega),if_pos (show Ao w>0 by omega)];show imax (-1) (Cs 1 1)=1;decide
  ·have e:(if (-1:Int)<0 then -Ao w else Ao w)= -Ao w:=if_pos (by decide);rw[e,if_pos (show -Ao w<0 by omega)];show imax (-1) (Cs 1 (-1))= -1;decide
namespace T227
theorem ok:Ad AT 227 X1:=by
 refine Av (X:=eN) rfl Pd (d:=9) (by kernel_rfl) (by kernel_rfl) (by kernel_rfl) (fun(a:Int×List Int) ha=>?_) (Ab (by kernel_rfl));have ha:ET a=true:=ha;have hn:BQ (BG (Ah (Sp.vI a)))=true∧Ao (BG (Ah (Sp.vI a)))=Ah (Sp.vI a):=by
  refine⟨?_,Dj (by decide) (AE _)⟩;rcases Rl ha with⟨_,hb⟩|he
  ·have:(9223372036854775808:Int)<(Am:Int)^1:=by decide
   exact(CU (AE _) (zF hb this) (by omega)).1
  ·obtain⟨_,hw⟩:=Er ha;rw[he];rcases hw with hw|⟨h1,_⟩
   ·rw[hw];decide+kernel
   ·exact h1
 have hv:Sp.sg (!decide (Sp.vI a<0)) (Ao (BG (Ah (Sp.vI a))))= -Sp.vI a:=by
  rw[hn.2,C0,Aq];rcases zB (Sp.vI a) 0 with h|h
  ·rw[decide_eq_true h];simp;omega
  ·rw[decide_eq_false (by omega)];simp;omega
 have hr:=(Er ha).1;refine zz (An a) (zk (fun c=>zk (fun d=>zg (zu rfl rfl ?_)) (fun d=>zf ha (zf hn.1 (zg (zu rfl rfl ?_))))) (fun c=>zf ha (zf hn.1 (zg (zu rfl rfl ?_)))))
 ·have c:=Mz c;have d:a.1≠ -9223372036854775808:=by simpa using d
  show(zc .i64 (0-a.1),[])=EV a;unfold EV;rw[if_pos ⟨c,d⟩,wr _ (by omega) (by omega),Int.zero_sub]
 ·have d:a.1= -9223372036854775808:=by simpa using d
  show Co (Sp.sg (!decide (Sp.vI a<0)) (Ao (BG (Ah (Sp.vI a)))))=EV a;unfold EV;rw[if_neg (fun h=>h.2 d),hv]
 ·have c:=VJ c;show Co (Sp.sg (!decide (Sp.vI a<0)) (Ao (BG (Ah (Sp.vI a)))))=EV a;unfold EV;rw[if_neg (fun h=>c h.1),hv]
end T227
namespace T226
theorem ok:Ad AT 226 QP:=by
 refine Av (X:=eN) rfl Pd (d:=9) (by kernel_rfl) (by kernel_rfl) (by kernel_rfl) (fun(i:(Int×List Int)×(Int×List Int)) hi=>?_) (Ab (by kernel_rfl));obtain⟨a,b⟩:=i;have hi:(BL a&&BL b)=true:=hi;rw[ze]at hi;obtain⟨a1,a2,a3,a4,a5,a6⟩:=words hi.1;obtain⟨b1,b2,b3,b4,b5,b6⟩:=words hi.2;have hra:=(Er a1).1;have hrb:=(Er b1).1;have na:=AE (Sp.vI a);have nb:=AE (Sp.vI b);obtain⟨t1,_⟩:=J0 na a6 b6;have hq:∀v ob,F6 a b=Co v→Ae QP (a,b) (.agg [.dat i64 (Cc v),.dat (.nlist (.int .u64)) (Cb v)]) ob:=fun v ob h=>zu rfl rfl (by
  show Co v=F6 a b;rw[h])
 have mono:(Am:Int)^9000≤(Am:Int)^9001:=AU (by decide) (by omega);have slow1:decide (Sp.vI a<0)=decide (Sp.vI b<0)→Sp.sg (decide (Sp.vI a<0)) (Ao (BG (Ao (BG (Ah (Sp.vI a)))+Ao (BG (Ah (Sp.vI b))))))=Sp.vI a+Sp.vI b:=by
  intro e;rw[a5,b5,show Ao (BG (Ah (Sp.vI a)+Ah (Sp.vI b)))=_ from Dj (by decide) (by omega),C0,Aq,Aq];rcases zB (Sp.vI a) 0 with h|h
  ·rw[decide_eq_true h]at e ⊢;have:=of_decide_eq_true e.symm;simp only[if_true];omega
  ·rw[decide_eq_false (by omega)]at e ⊢;have:=of_decide_eq_false e.symm;simp only[ya,if_false];omega
 have slow2:decide (Sp.vI a<0)≠decide (Sp.vI b<0)→Ah (Sp.vI b)≤Ah (Sp.vI a)→Sp.sg (decide (Sp.vI a<0)) (Ao (BG (Ao (BG (Ah (Sp.vI a)))-Ao (BG (Ah (Sp.vI b))))))=Sp.vI a+Sp.vI b:=by
  intro e hle;rw[a5,b5,show Ao (BG (Ah (Sp.vI a)-Ah (Sp.vI b)))=_ from Dj (by decide) (by omega),C0,Aq,Aq];rcases zB (Sp.vI a) 0 with h|h
  ·rw[decide_eq_true h]at e ⊢;have:¬Sp.vI b<0:=fun h=>e (decide_eq_true h).symm
   simp only[if_true];omega
  ·rw[decide_eq_false (by omega)]at e ⊢;have:Sp.vI b<0:=by
    rcases zB (Sp.vI b) 0 with h|h
    ·exact h
    ·exact absurd (decide_eq_false (by omega)).symm e
   simp only[ya,if_false];omega
 have slow3:decide (Sp.vI a<0)≠decide (Sp.vI b<0)→Ah (Sp.vI a)≤Ah (Sp.vI b)→Sp.sg (decide (Sp.vI b<0)) (Ao (BG (Ao (BG (Ah (Sp.vI b)))-Ao (BG (Ah (Sp.vI a))))))=Sp.vI a+Sp.vI b:=by
  intro e hle;rw[a5,b5,show Ao (BG (Ah (Sp.vI b)-Ah (Sp.vI a)))=_ from Dj (by decide) (by omega),C0,Aq,Aq];rcases zB (Sp.vI b) 0 with h|h
  ·rw[decide_eq_true h]at e ⊢;have:¬Sp.vI a<0:=fun h=>e (decide_eq_true h)
   simp only[if_true];omega
  ·rw[decide_eq_false (show ¬Sp.vI b<0 by omega)]at e ⊢;have:Sp.vI a<0:=by
    rcases zB (Sp.vI a) 0 with h|h
    ·exact h
    ·exact absurd (decide_eq_false (by omega)) e
   simp only[ya,if_false];omega
 have n1:BQ (BG (Ao (BG (Ah (Sp.vI a)))+Ao (BG (Ah (Sp.vI b)))))=true:=by
  rw[a5,b5];exact(CU (by omega) t1 (by omega)).1
 have n2:Ah (Sp.vI b)≤Ah (Sp.vI a)→BQ (BG (Ao (BG (Ah (Sp.vI a)))-Ao (BG (Ah (Sp.vI b)))))=true:=by
  intro h;rw[a5,b5];exact(CU (by omega) (zF (by omega) a6) (by omega)).1
 have n3:Ah (Sp.vI a)≤Ah (Sp.vI b)→BQ (BG (Ao (BG (Ah (Sp.vI b)))-Ao (BG (Ah (Sp.vI a)))))=true:=by
  intro h;rw[a5,b5];exact(CU (by omega) (zF (by omega) b6) (by omega)).1
 have cge:∀ {c:Bool},decide (Bz (Ao (BG (Ah (Sp.vI a)))) (Ao (BG (Ah (Sp.vI b))))≥0)=c→(c=true→Ah (Sp.vI b)≤Ah (Sp.vI a))∧(c=false→Ah (Sp.vI a)≤Ah (Sp.vI b)):=by
  intro c h;subst h;rw[a5,b5,decide_eq_true_eq,decide_eq_false_iff_not];unfold Bz;constructor
  ·intro h;split at h<;>omega
  ·intro h;split at h
   ·omega
   ·split at h<;>omega
 refine zz (An a b) (zk (fun c1=>zk (fun c2=>zk (fun c3=>zg (zu rfl rfl ?_)) (fun c3=>?_)) (fun c2=>?_)) (fun c1=>?_))
 ·have c1:=Mz c1;have c2:=Mz c2;have hs:zc .i64 (a.1+b.1)=a.1+b.1:=by
   rw[beq_iff_eq]at c3;rcases zB (a.1+b.1) (-9223372036854775808)with h|h
   ·exfalso;have e:zc .i64 (a.1+b.1)=a.1+b.1+18446744073709551616:=by rw[yj];omega
    rw[e,decide_eq_true (by omega),decide_eq_false (by omega)]at c3;cases c3
   ·rcases zB (a.1+b.1) 9223372036854775808 with h2|h2
    ·exact wr _ (by omega) (by omega)
    ·exfalso;have e:zc .i64 (a.1+b.1)=a.1+b.1-18446744073709551616:=by rw[yj];omega
     rw[e,decide_eq_false (by omega),decide_eq_true (by omega)]at c3;cases c3
  have hr:F4 (a.1+b.1)=true:=by
   have: -9223372036854775808≤zc .i64 (a.1+b.1)∧zc .i64 (a.1+b.1)<9223372036854775808:=by rw[yj];omega
   rw[hs]at this;unfold F4;rw[ze,decide_eq_true_eq,decide_eq_true_eq];exact this
  show(zc .i64 (a.1+b.1),[])=F6 a b;unfold F6;rw[if_pos ⟨c1,c2,hr⟩,hs]
 all_goals
  have hm:F6 a b=Co (Sp.vI a+Sp.vI b):=by
   unfold F6;refine if_neg (fun h=>?_);obtain⟨h1,h2,h3⟩:=h;first
    |exact VJ c1 h1
    |exact VJ c2 h2
    |(have h3:=E9 h3
      have hs:zc .i64 (a.1+b.1)=a.1+b.1:=wr _ (by omega) (by omega);rw[hs,beq_eq_false_iff_ne]at c3;refine c3 ?_;rcases zB 0 b.1 with h|h
      ·rw[decide_eq_true (show a.1+b.1>a.1 by omega),decide_eq_true h]
      ·rw[decide_eq_false (show ¬a.1+b.1>a.1 by omega),decide_eq_false (show ¬b.1>0 by omega)])
  refine zf a1 (zf b1 (zk (fun e=>zf (Aj a2 b2) (zf n1 (zg (hq _ _ ?_)))) (fun e=>zf (Aj a3 b3) (zk (fun d=>zf ?_ (zf (n2 ((cge d).1 rfl)) (zg (hq _ _ ?_)))) (fun d=>zf ?_ (zf (n3 ((cge d).2 rfl)) (zg (hq _ _ ?_))))))))
  ·rw[hm];exact congrArg _ (slow1 (by simpa using e)).symm
  ·refine Aj (Aj a4 b4) (decide_eq_true ?_);rw[a5,b5];exact(cge d).1 rfl
  ·rw[hm];exact congrArg _ (slow2 (by simpa using e) ((cge d).1 rfl)).symm
  ·refine Aj (Aj b4 a4) (decide_eq_true ?_);rw[a5,b5];exact(cge d).2 rfl
  ·rw[hm];exact congrArg _ (slow3 (by simpa using e) ((cge d).2 rfl)).symm
end T226
end Go.Pe
end
section
namespace Go.Pe
open Sp
open Go.Det
theorem Fg{n:Int}(h1: -9223372036854775808≤n)(h2:n<9223372036854775808):F4 n=true:=by
 unfold F4;rw[ze,decide_eq_true_eq,decide_eq_true_eq];exact⟨h1,h2⟩
theorem KZ{n:Int}(h:F4 n=true):ET (n,[])=true:=by
 unfold ET;rw[h];rfl
theorem OH{n:Int}{k:Nat}(h:Ah n<(Am:Int)^k)(hk:k≤20000):ET (Co n)=true∧(Co n).2.length≤k:=by
 unfold Co;split
 ·next c=>exact⟨KZ (Fg (by omega) (by omega)),zR _⟩
 ·next c=>
  obtain⟨n1,n2,n3⟩:=CU (AE n) h hk;refine⟨?_,MA (AE n) h⟩;have hb:9223372036854775808≤Ah n:=by rw[Aq];omega
  unfold ET;refine Aj (Fg ?_ ?_) ?_
  ·show -9223372036854775808≤(if n<0 then -1 else 1);split<;>decide
  ·show(if n<0 then -1 else 1)<9223372036854775808;split<;>decide
  ·rw[zQ];refine .inr (Aj (Aj n1 ?_) (decide_eq_true (by show _≤Ao (BG (Ah n));rw[n3];exact hb)));show(decide ((if n<0 then(-1:Int)else 1)=1)||decide ((if n<0 then(-1:Int)else 1)= -1))=true;split<;>rfl
theorem dG(a:Bj):Sp.vI (EV a)= -Sp.vI a:=by
 unfold EV;split
 ·next h=>rw[Es,BF h.1]
 ·exact Cu _
theorem VO(n:Int):Ah (-n)=Ah n:=by rw[Aq,Aq];omega
theorem cX{a:Bj}(h:ET a=true){k:Nat}(h1:1≤k)(hk:k≤20000)(hl:a.2.length≤k):ET (EV a)=true∧(EV a).2.length≤k:=by
 have hr:=(Er h).1;unfold EV;split
 ·next c=>exact⟨KZ (Fg (by omega) (by omega)),zR _⟩
 ·exact OH (by rw[VO];exact Hr h hl h1) hk
theorem gN{a:Bj}(h:BL a=true):BL (EV a)=true:=by
 obtain⟨h1,h2⟩:=G6 h;obtain⟨h3,h4⟩:=cX h1 (k:=9000) (by omega) (by omega) h2;unfold BL;exact Aj h3 (decide_eq_true h4)
theorem bF{a:Bj}(h:ET a=true):a.1<0↔Sp.vI a<0:=by
 obtain⟨_,hw⟩:=Er h;obtain⟨s,w⟩:=a;rcases hw with hw|⟨_,h2,h3⟩
 ·have hw:w=[]:=hw;subst hw;rw[Es]
 ·have h2:s=1∨s= -1:=h2;have h3:9223372036854775808≤Ao w:=h3;have hne:w≠[]:=by rintro rfl;exact absurd h3 (by decide)
  rw[VW hne];show s<0↔_;split<;>omega
theorem dR(a b:Bj):Sp.vI (F6 a b)=Sp.vI a+Sp.vI b:=by
 unfold F6;split
 ·next h=>rw[Es,BF h.1,BF h.2.1]
 ·exact Cu _
theorem aE(x y:Int):Ah (x+y)≤Ah x+Ah y:=by
 rw[Aq,Aq,Aq];omega
theorem I1(x y:Int):Ah (x*y)=Ah x*Ah y:=by
 rw[Aq,Aq,Aq,Int.natAbs_mul,Int.natCast_mul]
theorem bounds{a:Bj}(h:BL a=true):Ah (Sp.vI a)<(Am:Int)^9000:=(words h).2.2.2.2.2
theorem cZ{a b:Bj}(ha:BL a=true)(hb:BL b=true):ET (F6 a b)=true:=by
 unfold F6;split
 ·next h=>exact KZ h.2.2
 ·exact(OH (zF (aE _ _) (J0 (AE _) (bounds ha) (bounds hb)).1) (by omega)).1
theorem eQ(a b:Bj):Sp.vI (Kz a b)=Sp.vI a-Sp.vI b:=by
 unfold Kz;rw[dR,dG];omega
theorem Sv(a b:Bj):Sp.vI (SK a b)=Sp.vI a*Sp.vI b:=Cu _
theorem TN:∀g sp,hZ.sp g=some sp→Ad AT g sp:=
 Ac T227.ok (Ac T226.ok (fun g sp h=>by cases h))
namespace T220
theorem ok:Ad AT 220 OM:=by
 refine Av (X:=Rh) rfl HK (d:=9) (by kernel_rfl) (by kernel_rfl) (by kernel_rfl) (fun(a:Int×List Int) ha=>?_) (Ab (by kernel_rfl));have ha:ET a=true:=ha;exact zz (An a) (zg (zu rfl rfl (cR ha)))
end T220
namespace T219
theorem ok:Ad AT 219 bG:=by
 refine Av (X:=hZ) rfl TN (d:=9) (by kernel_rfl) (by kernel_rfl) (by kernel_rfl) (fun(a:Int×List Int) ha=>?_) (Ab (by kernel_rfl));have ha:ET a=true:=ha;refine zz (An a) (zk (fun c=>zf ha (zg (zu rfl rfl ?_))) (fun c=>zg (zu rfl rfl ?_)))
 ·show EV a=Qj a;unfold Qj;rw[if_pos (of_decide_eq_true c)]
 ·show a=Qj a;unfold Qj;rw[if_neg (of_decide_eq_false c)]
end T219
namespace T228
theorem ok:Ad AT 228 Wz:=by
 refine Av (X:=hZ) rfl TN (d:=9) (by kernel_rfl) (by kernel_rfl) (by kernel_rfl) (fun(i:(Int×List Int)×(Int×List Int)) hi=>?_) (Ab (by kernel_rfl));obtain⟨a,b⟩:=i;have hi:(BL a&&BL b)=true:=hi;rw[ze]at hi;exact zz (An a b) (zf (G6 hi.2).1 (zf (Aj hi.1 (gN hi.2)) (zg (zu rfl rfl rfl))))
end T228
theorem Zu:∀g sp,jP.sp g=some sp→Ad AT g sp:=
 Ac T228.ok (Ac T220.ok (fun g sp h=>by cases h))
theorem Yo(x y:Int):Yh (x-y)=Bz x y:=by
 unfold Yh Bz;split
 ·rw[if_pos (by omega)]
 ·split
  ·rw[if_neg (by omega),if_pos (by omega)]
  ·rw[if_neg (by omega),if_neg (by omega)]
namespace T183
theorem ok:Ad AT 183 VL:=by
 refine Av (X:=jP) rfl Zu (d:=9) (by kernel_rfl) (by kernel_rfl) (by kernel_rfl) (fun(i:(Int×List Int)×(Int×List Int)) hi=>?_) (Ab (by kernel_rfl));obtain⟨a,b⟩:=i;have hi:(BL a&&BL b)=true:=hi;have hi2:=hi;rw[ze]at hi2;have hs:ET (Kz a b)=true:=by
  unfold Kz;exact cZ hi2.1 (gN hi2.2)
 have hv:ML (Kz a b)=UE a b:=by
  show Yh (Sp.vI (Kz a b))=Bz (Sp.vI a) (Sp.vI b);rw[eQ,Yo]
 refine zz (An a b) (zk (fun c1=>zk (fun c2=>zk (fun d=>zg (zu rfl rfl ?_)) (fun d=>zk (fun e=>zg (zu rfl rfl ?_)) (fun e=>zg (zu rfl rfl ?_)))) (fun c2=>zf hi (zf hs (zg (zu rfl rfl hv))))) (fun c1=>zf hi (zf hs (zg (zu rfl rfl hv)))));all_goals
  have e1:=BF (Mz c1);have e2:=BF (Mz c2);show _=Bz (Sp.vI a) (Sp.vI b);rw[e1,e2];unfold Bz
 ·rw[if_pos (of_decide_eq_true d)]
 ·rw[if_neg (of_decide_eq_false d),if_pos (of_decide_eq_true e)]
 ·rw[if_neg (of_decide_eq_false d),if_neg (of_decide_eq_false e)]
end T183
theorem OV(x y:Int):x*y=Sp.sg (!(decide (x<0)==decide (y<0))) (Ah x*Ah y):=by
 unfold Ah;rw[C0];by_cases h1:x<0<;>by_cases h2:y<0<;>simp[h1,h2,Int.neg_mul,Int.mul_neg]
namespace T186
theorem ok:Ad AT 186 QD:=by
 refine Av (X:=eN) rfl Pd (d:=9) (by kernel_rfl) (by kernel_rfl) (by kernel_rfl) (fun(i:(Int×List Int)×(Int×List Int)) hi=>?_) (Ab (by kernel_rfl));obtain⟨a,b⟩:=i;have hi:(BL a&&BL b)=true:=hi;rw[ze]at hi;obtain⟨a1,a2,a3,a4,a5,a6⟩:=words hi.1;obtain⟨b1,b2,b3,b4,b5,b6⟩:=words hi.2;have hra:=(Er a1).1;have hrb:=(Er b1).1;have na:=AE (Sp.vI a);have nb:=AE (Sp.vI b);obtain⟨_,t2⟩:=J0 na a6 b6;have np:0≤Ah (Sp.vI a)*Ah (Sp.vI b):=zS na nb;have n1:BQ (BG (Ao (BG (Ah (Sp.vI a)))*Ao (BG (Ah (Sp.vI b)))))=true:=by
  rw[a5,b5];exact(CU np t2 (by omega)).1
 have hv:Sp.sg (!(decide (Sp.vI a<0)==decide (Sp.vI b<0))) (Ao (BG (Ao (BG (Ah (Sp.vI a)))*Ao (BG (Ah (Sp.vI b))))))=Sp.vI a*Sp.vI b:=by
  rw[a5,b5,show Ao (BG (Ah (Sp.vI a)*Ah (Sp.vI b)))=_ from Dj (by decide) np, ←OV]
 have hq:∀ob,Ae QD (a,b) (.agg [.dat i64 (Cc (Sp.sg (!(decide (Sp.vI a<0)==decide (Sp.vI b<0))) (Ao (BG (Ao (BG (Ah (Sp.vI a)))*Ao (BG (Ah (Sp.vI b)))))))),.dat (.nlist (.int .u64)) (Cb (Sp.sg (!(decide (Sp.vI a<0)==decide (Sp.vI b<0))) (Ao (BG (Ao (BG (Ah (Sp.vI a)))*Ao (BG (Ah (Sp.vI b))))))))]) ob:=fun ob=>zu rfl rfl (by
  show Co _=Co (Sp.vI a*Sp.vI b);rw[hv])
 have ua:Sp.u64 (Ah a.1)=true:=Cn (AE _) (by rw[Aq];omega);have ub:Sp.u64 (Ah b.1)=true:=Cn (AE _) (by rw[Aq];omega);refine zz (An a b) (zk (fun c1=>zk (fun c2=>zf (Fg hra.1 hra.2) (zf (Fg hrb.1 hrb.2) (zf (Aj ua ub) (zk (fun c3=>zk (fun c4=>zk (fun c5=>zg (zu rfl rfl ?_)) (fun c5=>zg (zu rfl rfl ?_))) (fun c4=>?_)) (fun c3=>?_))))) (fun c2=>?_)) (fun c1=>?_))
 ·have e1:=BF (Mz c1);have e2:=BF (Mz c2);have c3:(Ah a.1*Ah b.1)/18446744073709551616=0:=by simpa [Oh]using c3
  have c4:(Ah a.1*Ah b.1) % 18446744073709551616≤9223372036854775807:=of_decide_eq_true c4;have p0:0≤Ah a.1*Ah b.1:=zS (AE _) (AE _);have hm:=OV a.1 b.1;have c5:(!(decide (a.1<0)==decide (b.1<0)))=true:=c5;rw[c5,C0,if_pos rfl]at hm;show(zc .i64 (0-zc .i64 ((Ah a.1*Ah b.1) % 18446744073709551616)),[])=Co (Sp.vI a*Sp.vI b);rw[e1,e2,hm,BI (by omega),wr ((Ah a.1*Ah b.1) % 18446744073709551616) (by omega) (by omega),wr _ (by omega) (by omega)];congr 1;omega
 ·have e1:=BF (Mz c1);have e2:=BF (Mz c2);have c3:(Ah a.1*Ah b.1)/18446744073709551616=0:=by simpa [Oh]using c3
  have c4:(Ah a.1*Ah b.1) % 18446744073709551616≤9223372036854775807:=of_decide_eq_true c4;have p0:0≤Ah a.1*Ah b.1:=zS (AE _) (AE _);have hm:=OV a.1 b.1;have c5:(!(decide (a.1<0)==decide (b.1<0)))=false:=c5;rw[c5,C0,if_neg (by decide)]at hm;show(zc .i64 ((Ah a.1*Ah b.1) % 18446744073709551616),[])=Co (Sp.vI a*Sp.vI b);rw[e1,e2,hm,BI (by omega),wr ((Ah a.1*Ah b.1) % 18446744073709551616) (by omega) (by omega)];congr 1;omega
 all_goals exact zf a1 (zf b1 (zf (Aj a2 b2) (zf n1 (zg (hq _)))))
end T186
end Go.Pe
end
section
namespace Go.Sp
def Fq(n:Int):Int:=if n≤0 then 0 else(n.toNat.log2:Int)+1
def lz(n:Int):Int:=64-Fq n
def dq(h l y:Int):Int:=(h*18446744073709551616+l)/y
def dr(h l y:Int):Int:=(h*18446744073709551616+l) % y
end Go.Sp
namespace Go.Pe
open Go.Det
noncomputable section
noncomputable def XE:As:=⟨[u64],fun n=>Sp.u64 n,[i64],fun n=>Sp.Fq n,false⟩
noncomputable def iF:As:=⟨[u64],fun n=>Sp.u64 n,[i64],fun n=>Sp.lz n,false⟩
noncomputable def PF:As:=⟨[u64,u64,u64],fun i=>Sp.u64 i.1&&Sp.u64 i.2.1&&Sp.u64 i.2.2&&decide ((i.1:Int)<i.2.2),[u64,u64],fun i=>(Sp.dq i.1 i.2.1 i.2.2,Sp.dr i.1 i.2.1 i.2.2),false⟩
noncomputable def jT:AX:=X7 [(246,XE)]
noncomputable def VY:AX:=X7 [(318,iF)]
end
noncomputable section
open List Int Prod
namespace T246
def T(x:Int):Tr:=tree Rh false 9 246 (Af ([zh zd]) x)
theorem An(x:Int):T x=let a':=([0,1,2,2,3,3,3,3,4,4,4,4,4,4,4,4,5,5,5,5,5,5,5,5,5,5,5,5,5,5,5,5,6,6,6,6,6,6,6,6,6,6,6,6,6,6,6,6,6,6,6,6,6,6,6,6,6,6,6,6,6,6,6,6,7,7,7,7,7,7,7,7,7,7,7,7,7,7,7,7,7,7,7,7,7,7,7,7,7,7,7,7,7,7,7,7,7,7,7,7,7,7,7,7,7,7,7,7,7,7,7,7,7,7,7,7,7,7,7,7,7,7,7,7,7,7,7,7,8,8,8,8,8,8,8,8,8,8,8,8,8,8,8,8,8,8,8,8,8,8,8,8,8,8,8,8,8,8,8,8,8,8,8,8,8,8,8,8,8,8,8,8,8,8,8,8,8,8,8,8,8,8,8,8,8,8,8,8,8,8,8,8,8,8,8,8,8,8,8,8,8,8,8,8,8,8,8,8,8,8,8,8,8,8,8,8,8,8,8,8,8,8,8,8,8,8,8,8,8,8,8,8,8,8,8,8,8,8,8,8,8,8,8,8,8,8,8,8,8,8,8,8,8,8,8,8]:List UInt8);let b':=zl x (2^32);let c':=(0:Sh.T (zh IntKind.u8));let e':=zl x (2^16);let i':=zl x (2^8);let d':=zl b' (2^16);let g':=zl b' (2^8);let h':=zl e' (2^8);let f':=zl d' (2^8);.ite (decide (x≥4294967296)) (.ite true (.ite (decide (zl x (2^32)≥65536)) (.ite true (.ite (decide (zl b' (2^16)≥256)) (.ite true (.ite (decide (c'≤zc .u8 f')&&decide (zc .u8 f'<(↑256:Int))) (.leaf (.dat i64 (zc .i64 (zc .i64 (zc .i64 (32+16)+8)+zc .i64 (↑(zM (getD a' (toNat (zc .u8 f')) (0:UInt8))):Int)))) []) .fail) .fail) (.ite (decide (c'≤zc .u8 d')&&decide (zc .u8 d'<(↑256:Int))) (.leaf (.dat i64 (zc .i64 (zc .i64 (32+16)+zc .i64 (↑(zM (getD a' (toNat (zc .u8 d')) (0:UInt8))):Int)))) []) .fail)) .fail) (.ite (decide (zl x (2^32)≥256)) (.ite true (.ite (decide (c'≤zc .u8 g')&&decide (zc .u8 g'<(↑256:Int))) (.leaf (.dat i64 (zc .i64 (zc .i64 (32+8)+zc .i64 (↑(zM (getD a' (toNat (zc .u8 g')) (0:UInt8))):Int)))) []) .fail) .fail) (.ite (decide (c'≤zc .u8 b')&&decide (zc .u8 b'<(↑256:Int))) (.leaf (.dat i64 (zc .i64 (32+zc .i64 (↑(zM (getD a' (toNat (zc .u8 b')) (0:UInt8))):Int)))) []) .fail))) .fail) (.ite (decide (x≥65536)) (.ite true (.ite (decide (zl x (2^16)≥256)) (.ite true (.ite (decide (c'≤zc .u8 h')&&decide (zc .u8 h'<(↑256:Int))) (.leaf (.dat i64 (zc .i64 (zc .i64 (zc .i64 (0+16)+8)+zc .i64 (↑(zM (getD a' (toNat (zc .u8 h')) (0:UInt8))):Int)))) []) .fail) .fail) (.ite (decide (c'≤zc .u8 e')&&decide (zc .u8 e'<(↑256:Int))) (.leaf (.dat i64 (zc .i64 (zc .i64 (0+16)+zc .i64 (↑(zM (getD a' (toNat (zc .u8 e')) (0:UInt8))):Int)))) []) .fail)) .fail) (.ite (decide (x≥256)) (.ite true (.ite (decide (c'≤zc .u8 i')&&decide (zc .u8 i'<(↑256:Int))) (.leaf (.dat i64 (zc .i64 (zc .i64 (0+8)+zc .i64 (↑(zM (getD a' (toNat (zc .u8 i')) (0:UInt8))):Int)))) []) .fail) .fail) (.ite (decide (c'≤zc .u8 x)&&decide (zc .u8 x<(↑256:Int))) (.leaf (.dat i64 (zc .i64 (0+zc .i64 (↑(zM (getD a' (toNat (zc .u8 x)) (0:UInt8))):Int)))) []) .fail))):=by kernel_rfl
end T246
namespace T318
def T(x:Int):Tr:=tree jT false 9 318 (Af ([zh zd]) x)
theorem An(x:Int):T x=.ite (Sp.u64 x) (.leaf (.dat i64 (zc .i64 (64-Sp.Fq x))) []) .fail:=by kernel_rfl
end T318
namespace T317
def T(hi lo y:Int):Tr:=tree VY false 9 317 (Af ([zh zd,zh zd,zh zd]) (hi,lo,y))
def L1(v2 v8 v9 v10 v11 v13 v14 v15 v16:Int):Tr:=re ((T 0 0 0).R.R.R.L.L.L.L.L.L.L.L) (Ar 135 [(2,.dat (zh zd) v2),(8,.dat (zh zd) v8),(9,.dat (zh zd) v9),(10,.dat (zh zd) v10),(11,.dat (zh zd) v11),(13,.dat (zh zd) v13),(14,.dat (zh zd) v14),(15,.dat (zh zd) v15),(16,.dat (zh zd) v16)] [] 0)
theorem An(hi lo y:Int):T hi lo y=let e':=decide (0≤zc .u64 (Sp.lz y));let i':=64-zc .u64 (Sp.lz y);let j':=zc .u64 (Sp.lz y);let c':=toNat j';let d':=zl lo (2^yu (toNat (zc .u64 i')) 64);let a':=zc .u64 (y*2^yu c' 64);let f':=zc .u64 (lo*2^yu c' 64);let g':=zc .u64 (hi*2^yu c' 64);let b':=U9 zd g' d';let h':=zl a' (2^32);.ite (y==0) .fail (.ite (decide (y≤hi)) .fail (.ite (hi==0) (.ite (decide (y≠0)) (.ite (decide (y≠0)) (.leaf (.tup [.dat (zh zd) (zc .u64 (yk lo y)),.dat (zh zd) (Int.tmod lo y)]) []) .fail) .fail) (.ite (Sp.u64 y) (.ite e' (.ite true (.ite e' (.ite (decide (0≤zc .u64 i')) (.ite e' (.ite true (.ite (decide (zl a' (2^32)≠0)) (L1 a' j' h' (Gq zd a' 4294967295) b' (zl f' (2^32)) (Gq zd f' 4294967295) (zc .u64 (yk b' h')) (zc .u64 (U9 zd g' d'-zc .u64 (zc .u64 (yk b' h')*zl a' (2^32))))) .fail) .fail) .fail) .fail) .fail) .fail) .fail) .fail))):=by kernel_rfl
def L2(v2 v8 v9 v10 v14 v15 v16 v17 v18:Int):Tr:=re ((stepT VY (L1 0 0 0 0 0 0 0 0 0)).L.L.L) (Ar 135 [(2,.dat (zh zd) v2),(8,.dat (zh zd) v8),(9,.dat (zh zd) v9),(10,.dat (zh zd) v10),(14,.dat (zh zd) v14),(15,.dat (zh zd) v15),(16,.dat (zh zd) v16),(17,.dat (zh zd) v17),(18,.dat (zh zd) v18)] [] 0)
theorem Ai(v2 v8 v9 v10 v11 v13 v14 v15 v16:Int):stepT VY (L1 v2 v8 v9 v10 v11 v13 v14 v15 v16)=let f':=zc .u64 (v11*4294967296)+v13;let g':=zc .u64 (v15-1);let b':=zc .u64 f'-zc .u64 (zc .u64 (v15-1)*v2);let c':=zc .u64 f'-zc .u64 (v15*v2);let d':=zc .u64 c';let e':=zc .u64 b';let a':Tr:=.ite (decide (zc .u64 (v16+v9)≥4294967296)) (.ite (decide (v9≠0)) (L2 v2 v8 v9 v10 v14 g' (zc .u64 (zc .u64 b'-zc .u64 (zc .u64 (yk e' v9)*v9))) e' (zc .u64 (yk e' v9))) .fail) (L1 v2 v8 v9 v10 v11 v13 v14 g' (zc .u64 (v16+v9)));.ite (decide (v15≥4294967296)) a' (.ite (decide (zc .u64 (v15*v10)>zc .u64 (zc .u64 (4294967296*v16)+v13))) a' (.ite (decide (v9≠0)) (L2 v2 v8 v9 v10 v14 v15 (zc .u64 (zc .u64 c'-zc .u64 (zc .u64 (yk d' v9)*v9))) d' (zc .u64 (yk d' v9))) .fail)):=by kernel_rfl
theorem AM(v2 v8 v9 v10 v14 v15 v16 v17 v18:Int):stepT VY (L2 v2 v8 v9 v10 v14 v15 v16 v17 v18)=let b':=zh zd;let c':=zc .u64 (v17*4294967296)+v14;let d':=2^yu (toNat v8) 64;let a':Tr:=.ite (decide (zc .u64 (v16+v9)≥4294967296)) (.ite (decide (0≤v8)) (.leaf (.tup [.dat b' (zc .u64 (zc .u64 (v15*4294967296)+zc .u64 (v18-1))),.dat b' (zl (zc .u64 (zc .u64 c'-zc .u64 (zc .u64 (v18-1)*v2))) d')]) []) .fail) (L2 v2 v8 v9 v10 v14 v15 (zc .u64 (v16+v9)) v17 (zc .u64 (v18-1)));.ite (decide (v18≥4294967296)) a' (.ite (decide (zc .u64 (v18*v10)>zc .u64 (zc .u64 (4294967296*v16)+v14))) a' (.ite (decide (0≤v8)) (.leaf (.tup [.dat b' (zc .u64 (zc .u64 (v15*4294967296)+v18)),.dat b' (zl (zc .u64 (zc .u64 c'-zc .u64 (v18*v2))) d')]) []) .fail)):=by kernel_rfl
end T317
end
end Go.Pe
end
