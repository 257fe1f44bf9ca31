import Derived.Test.YtnbinppdjnlhpaaGreatDoorX13
import Derived.Test.YtnbinppdjnlhpaaGreatDoorX12
/- A part of a proof (no law is stated here). Made by program out of texts by AI agents. -/
open Go.Pe.Ends renaming tt → zc, Af → zl, leaf → zm, ff → zp, ite → zq, eq → zI
open Go.Sp renaming B9 → zd, val → ze, vI → yj, gI → yp, AG → yq, first → yw
open Go.IntKind renaming wrap → zf
open Int renaming toNat_natCast → zg, mul_le_mul_of_nonneg_left → zh, mul_le_mul_of_nonneg_right → zr, le_of_lt → zt, tdiv_eq_ediv_of_nonneg → zw, mul_add → zx, lt_of_lt_of_le → zy, mul_nonneg → zB, tmod_eq_emod_of_nonneg → zC, mul_comm → zD, mul_assoc → zH, eq_ofNat_of_zero_le → zK, pow_succ → zL, lt_of_le_of_lt → zN, mul_lt_mul_of_pos_right → zQ, lt_of_mul_lt_mul_left → zT, one_mul → zX, lt_or_le → z6, tdiv → z8, emod_lt_of_pos → z9, mul_left_comm → ya, mul_one → yb, mul_sub → yc, zero_mul → yh, emod_nonneg → yi, add_mul → yk, le_refl → ym, add_assoc → yo, tmod → yr, mul_zero → yt, add_zero → yu, pow_zero → yv
open Bool renaming and_eq_true → zi, true_and → zW
open List renaming take_of_length_le → zj, length_drop → zk, length_take → zn, replicate → zo, getD_eq_getElem?_getD → zu, length_eq_zero_iff → zz, take_length → zA, getElem?_eq_getElem → zE, length_append → zF, take_append_drop → zG, dropWhile_cons → zJ, all_cons → zP, all_eq_true → zS, append_assoc → zV, dropLast_concat_getLast → zY, nil_append → zZ, mem_singleton → z7, mem_cons → ye, all_reverse → yf, drop_eq_nil_of_le → yg, drop → yn
open Nat renaming add_sub_cancel → zM, le_refl → zR, sub → zU, min_eq_left → z5, zero_le → yd, add → yx
open Go.Pe.Ae renaming of → zO
section
namespace Go.Sp
theorem MS{l:List Int}(h:Ii l=true):l.length≤20000∧At B9 l:=by
 unfold Ii at h;rw[zi,decide_eq_true_eq,zS]at h;exact⟨h.1,fun d hd=>by
  have:=h.2 d hd;rw[zi,decide_eq_true_eq,decide_eq_true_eq]at this;exact this⟩
theorem Jf{l:List Int}(h1:l.length≤20000)(h2:At B9 l):Ii l=true:=by
 unfold Ii;rw[zi,decide_eq_true_eq,zS];exact⟨h1,fun d hd=>by
  have:=h2 d hd;rw[zi,decide_eq_true_eq,decide_eq_true_eq];exact this⟩
theorem dY{l:List Int}(h:hR l=true):l.length≤9000∧At B9 l:=by
 unfold hR at h;rw[zi,decide_eq_true_eq]at h;exact⟨h.2,(MS h.1).2⟩
theorem Uv{l:List Int}(h1:l.length≤9000)(h2:At B9 l):hR l=true:=by
 unfold hR;rw[Jf (by omega) h2,zW];exact decide_eq_true h1
theorem EP{l:List Int}(h:Cu l=true):l.length≤20000∧At B9 l∧nz l:=by
 unfold Cu at h;rw[zi]at h;have:=MS h.1;exact⟨this.1,this.2,by
  have:=h.2;unfold fT at this;have:l.getLast?≠some 0:=of_decide_eq_true this;exact this⟩
theorem W2{l:List Int}(h1:l.length≤20000)(h2:At B9 l)(h3:nz l):Cu l=true:=by
 unfold Cu fT;rw[Jf h1 h2,zW];exact decide_eq_true h3
theorem F4{l:List Int}(h:At B9 l)(i:Nat):0≤l.getD i 0∧l.getD i 0<1000000000:=NB (by decide) h i
theorem Fb{l:List Int}{x:Int}(h:At B9 l)(hx:0≤x∧x<1000000000):At B9 (l++[x]):=Eb h (fun d hd=>by rw[z7]at hd;subst hd;exact hx)
theorem CB(l:List Int)(x:Int):val B9 (l++[x])=val B9 l+(B9:Int)^l.length*x:=by
 rw[Cy];simp[val]
theorem NG(i:Nat)(c:Int):(B9:Int)^(i+1)*c=(B9:Int)^i*(1000000000*c):=by
 rw[zL,zH];rfl
theorem FL{l:List Int}(h:At B9 l):Az l=CJ (AY l):=UI (by decide) h
theorem PQ{n:Int}{k:Nat}(h0:0≤n)(h:n<(B9:Int)^k):(CJ n).length≤k:=by
 refine Pq B9 (by decide) k n.toNat n.toNat ?_;have e:((B9^k:Nat):Int)=(B9:Int)^k:=Int.natCast_pow ..;rw[←e]at h;generalize B9^k=P at*;omega
theorem Ke{n:Int}{k:Nat}(h0:0≤n)(h:n<(B9:Int)^k)(hk:k≤9000):Cu (CJ n)=true∧hR (CJ n)=true∧AY (CJ n)=n∧(CJ n).length≤k:=by
 have h1:=PQ h0 h;have h2:=HT (b:=B9) (by decide) n;exact⟨W2 (by omega) h2 (UW (by decide) n),Uv (by omega) h2,Dv (by decide) h0,h1⟩
end Go.Sp
namespace Go.Pe
open Sp
open Go.Det
theorem Qc:∀g sp,VM.sp g=some sp→Ad AR g sp:=fun g sp h=>by cases h
namespace T267
theorem Aj{Q:PV→Ob→Prop}:∀(n:Nat) (w:List Int),w.length=n→n≤20000→(∀ob,Q (.dat li (Az w)) ob)→Ends VM (L1 w) Q
 |0,w,hl,_,hq=>by
  have:w=[]:=zz.1 hl;subst this;exact zl (Ai ..) (zp (by simp) (zm (hq _)))
 |n+1,w,hl,hn,hq=>by
  obtain⟨p,x,rfl⟩:∃p x,w=p++[x]:=by
   have hne:w≠[]:=by rintro rfl;simp at hl
   exact⟨w.dropLast,w.getLast hne,(zY hne).symm⟩
  have hp:p.length=n:=by simpa using hl
  have e1:zf .i64 (((p++[x]).length:Int)-1)=(n:Int):=by rw[wr _ (by omega) (by omega)];omega
  have g1:(p++[x]).getD n 0=x:=Cp _ _ _ _ hp;have t1:(p++[x]).take n=p:=by rw[←hp];exact List.take_left
  refine zl (Ai ..) (zc (decide_eq_true (by omega)) ?_);rw[e1,zg,g1,t1];refine zc (by simp;omega) (zq (fun c=>zc (by simp;omega) ?_) (fun c=>?_))
  ·have c:x=0:=by simpa using c
   subst c;rw[Ht]at hq;exact Aj n p hp (by omega) hq
  ·have c:x≠0:=by simpa using c
   rw[Hg (Ue c)]at hq;exact zm (hq _)
theorem ok:Ad AR 267 Sw:=by
 refine Av (X:=VM) rfl Qc (d:=9) (by kernel_rfl) (by kernel_rfl) (by kernel_rfl) (fun(w:List Int) hw=>?_) (Ab (by kernel_rfl));have hw:w.length≤20000:=of_decide_eq_true hw;exact zI (Ap w) (Aj w.length w rfl hw (fun ob=>zO rfl rfl rfl))
end T267
theorem O8:∀g sp,SD.sp g=some sp→Ad AR g sp:=Ac T267.ok (fun g sp h=>by cases h)
theorem T264.ok:Ad AR 264 LG:=by
 refine Av (X:=SD) rfl O8 (d:=9) (by kernel_rfl) (by kernel_rfl) (by kernel_rfl) (fun(i:Bool×List Int) hi=>?_) (Ab (by kernel_rfl));obtain⟨n,w⟩:=i;refine zI (T264.Ap n w) (zc hi (zq (fun c=>zm (zO rfl rfl ?_)) (fun c=>zm (zO rfl rfl ?_))))
 ·show(decide (((Az w).length:Int)>0),Az w)=(Ew n w,Az w);unfold Ew;rw[c,zW];congr 1;rw[decide_eq_decide];constructor
  ·intro h h2;rw[h2]at h;simp at h
  ·intro h;have:(Az w).length≠0:=fun h2=>h (zz.1 h2)
   omega
 ·show(false,Az w)=(Ew n w,Az w);unfold Ew;rw[c];rfl
namespace T265
theorem Aj{Q:PV→Ob→Prop}(a b:List Int)(ha:At zd a)(hb:At zd b)(hl:a.length=b.length)(h2:b.length≤20000)(hq:∀ob,Q (.dat i64 (BB (AY a) (AY b))) ob):∀(i:Nat),i≤a.length→a.drop i=b.drop i→Ends VM (L1 a b ((i:Int)-1)) Q
 |0,hi,he=>by
  have he:a=b:=he;have:BB (AY a) (AY b)=0:=by rw[he];unfold BB;simp
  rw[this]at hq;exact zl (Ai ..) (zp (by simp) (zm (hq _)))
 |i+1,hi,he=>by
  have e1:(((i+1:Nat):Int)-1)=(i:Int):=by omega
  have da:a.drop i=a.getD i 0::a.drop (i+1):=Co (by omega);have db:b.drop i=b.getD i 0::a.drop (i+1):=by rw[he];exact Co (by omega)
  rw[e1];refine zl (Ai ..) (zc (by simp) ?_);rw[zg];refine zc (by simp;omega) (zc (by simp;omega) (zq (fun d=>?_) (fun d=>zc (by simp;omega) (zc (by simp;omega) (zq (fun c=>?_) (fun c=>?_))))))
  ·have d:=of_decide_eq_true d;have:=HZ (b:=zd) (by decide) ha hb da db d;have e:BB (AY a) (AY b)= -1:=by unfold BB;exact if_pos this
   rw[e]at hq;exact zm (hq _)
  ·have c:=of_decide_eq_true c;have:=HZ (b:=zd) (by decide) hb ha db da c;have e:BB (AY a) (AY b)=1:=by unfold BB AY;rw[if_neg (by omega),if_pos (by omega)]
   rw[e]at hq;exact zm (hq _)
  ·have c:=of_decide_eq_false c;have d:=of_decide_eq_false d;rw[wr ((i:Int)-1) (by omega) (by omega)];exact Aj a b ha hb hl h2 hq i (by omega) (by rw[da,db,show a.getD i 0=b.getD i 0 by omega])
theorem ok:Ad AR 265 XE:=by
 refine Av (X:=VM) rfl Qc (d:=9) (by kernel_rfl) (by kernel_rfl) (by kernel_rfl) (fun(i:List Int×List Int) hi=>?_) (Ab (by kernel_rfl));obtain⟨a,b⟩:=i;have hi:(Cu a&&Cu b)=true:=hi;rw[zi]at hi;obtain⟨a1,a2,a3⟩:=EP hi.1;obtain⟨b1,b2,b3⟩:=EP hi.2;have hq:∀ob,Ae XE (a,b) (.dat i64 (BB (AY a) (AY b))) ob:=fun ob=>zO rfl rfl rfl
 refine zI (Ap a b) (zq (fun c=>zq (fun d=>?_) (fun d=>?_)) (fun c=>?_))
 ·have d:=of_decide_eq_true d;have e:BB (AY a) (AY b)= -1:=by unfold BB;exact if_pos (DU (by decide) a2 b2 b3 (by omega))
  rw[e]at hq;exact zm (hq _)
 ·have d:=of_decide_eq_false d;have c:(a.length:Int)≠b.length:=by simpa using c
  have:=DU (b:=zd) (by decide) b2 a2 a3 (by omega);have e:BB (AY a) (AY b)=1:=by
   unfold BB AY;rw[if_neg (by omega),if_pos (by omega)]
  rw[e]at hq;exact zm (hq _)
 ·have c:(a.length:Int)=b.length:=by simpa using c
  rw[wr _ (by omega) (by omega)];exact Aj a b a2 b2 (by omega) b1 hq a.length (by omega) (by rw[List.drop_length,yg (by omega)])
end T265
theorem Wa{x y o c:Int}(hx:0≤x∧x<1000000000)(hy:0≤y∧y<1000000000)(ho:0≤o∧o<1000000000)(hc:0≤c∧c<1000000000):
  zf .i64 (zf .i64 (o+zf .i64 (x*y))+c)=o+x*y+c∧yr (o+x*y+c) 1000000000=(o+x*y+c) % 1000000000∧zf .i64 (z8 (o+x*y+c) 1000000000)=(o+x*y+c)/1000000000∧
  (0≤(o+x*y+c)/1000000000∧(o+x*y+c)/1000000000<1000000000)∧(0≤(o+x*y+c) % 1000000000∧(o+x*y+c) % 1000000000<1000000000):=by
 have h0:0≤x*y:=zB hx.1 hy.1;have h1:x*y≤999999999*999999999:=by
  have a:=zh (show y≤999999999 by omega) hx.1;have b:=zr (show x≤999999999 by omega) (show(0:Int)≤999999999 by omega);omega
 generalize x*y=P at*;have e1:zf .i64 P=P:=wr _ (by omega) (by omega);have e2:zf .i64 (o+P)=o+P:=wr _ (by omega) (by omega);have e3:z8 (o+P+c) 1000000000=(o+P+c)/1000000000:=zw (by omega);refine⟨?_,zC (by omega),?_,by omega,by omega⟩
 ·rw[e1,e2];exact wr _ (by omega) (by omega)
 ·rw[e3];exact wr _ (by omega) (by omega)
namespace T268
variable {Q:PV→Ob→Prop}
theorem AL(x y:List Int)(n i:Nat)(hi:i<x.length)(hn:n=x.length+y.length)(hx9:x.length≤9000)(hy9:y.length≤9000)(hx:At zd x)(hy:At zd y)(p:List Int)(hp:p.length=i+y.length)(hdp:At zd p)
  (hq:∀q c,q.length=i+y.length→At zd q→(0≤c∧c<1000000000)→ze zd q+(zd:Int)^(i+y.length)*c=ze zd p+(zd:Int)^i*(x.getD i 0*ze zd y)→Ends SD (L1 x y n ((i+1:Nat):Int) ((q++[c])++zo (n-(i+y.length+1)) 0)) Q):∀(k j:Nat) (q:List Int) (c:Int),j+k=y.length→q.length=i+j→At zd q→(0≤c∧c<1000000000)→ze zd q+(zd:Int)^(i+j)*c=ze zd (p.take (i+j))+(zd:Int)^i*(x.getD i 0*ze zd (y.take j))→
  Ends SD (L2 x y n i c j (q++(p.drop (i+j)++zo (n-(i+y.length)) 0))) Q
 |0,j,q,c,hj,hl,hd,hc,he=>by
  have hj:j=y.length:=by omega
  subst hj;have e1:zf .i64 ((i:Int)+(y.length:Int))=((i+y.length:Nat):Int):=by rw[wr _ (by omega) (by omega)];omega
  have e2:zf .i64 ((i:Int)+1)=((i+1:Nat):Int):=by rw[wr _ (by omega) (by omega)];omega
  have ed:p.drop (i+y.length)=[]:=yg (by omega);have eg:(q++zo (n-(i+y.length)) (0:Int)).getD (i+y.length) 0=0:=by
   have:n-(i+y.length)=(n-(i+y.length+1))+1:=by omega
   rw[this,List.replicate_succ];exact Cp _ _ _ _ hl
  refine zl (AN ..) (zp (by simp) ?_);rw[e1,e2,zg,ed,zZ,eg,Int.zero_add,wr c (by omega) (by omega),HY q n _ c hl (by omega)];refine zc (by simp;omega) (zc (by simp;omega) (zc (by simp;omega) (zc (by simp;omega) (hq q c hl hd hc ?_))));rw[he,zj (by omega),zA]
 |k+1,j,q,c,hj,hl,hd,hc,he=>by
  have gx:=F4 hx i;have gy:=F4 hy j;have gp:=F4 hdp (i+j);have ep:p.drop (i+j)=p.getD (i+j) 0::p.drop (i+j+1):=Co (by omega);have e1:zf .i64 ((i:Int)+(j:Int))=((i+j:Nat):Int):=by rw[wr _ (by omega) (by omega)];omega
  have e2:zf .i64 ((j:Int)+1)=((j+1:Nat):Int):=by rw[wr _ (by omega) (by omega)];omega
  have lo:(q++(p.drop (i+j)++zo (n-(i+y.length)) (0:Int))).length=n:=by simp;omega
  have g1:(q++(p.drop (i+j)++zo (n-(i+y.length)) (0:Int))).getD (i+j) 0=p.getD (i+j) 0:=by
   rw[ep,List.cons_append];exact Cp _ _ _ _ hl
  have s1:∀z,(q++(p.drop (i+j)++zo (n-(i+y.length)) (0:Int))).set (i+j) z=(q++[z])++(p.drop (i+(j+1))++zo (n-(i+y.length)) 0):=by
   intro z;rw[ep,List.cons_append,Cw _ _ _ _ hl,zV];rfl
  obtain⟨m1,m2,m3,m4,m5⟩:=Wa gx gy gp hc;refine zl (AN ..) (zc (by simp;omega) ?_);rw[e1,e2,zg,zg,zg,g1,m1,m2,m3,s1];have t1:(decide ((0:Int)≤((i+j:Nat):Int))&&decide (((i+j:Nat):Int)<(n:Int)))=true:=by simp;omega
  refine zc t1 (zc (decide_eq_true (by rw[lo];omega)) (zc (by simp;omega) (zc (by simp;omega) (zc rfl (zc t1 (zc (decide_eq_true (by rw[lo];omega)) (zc rfl ?_)))))));refine AL x y n i hi hn hx9 hy9 hx hy p hp hdp hq k (j+1) _ _ (by omega) (by simp;omega) (Fb hd m5) m4 ?_;have ea:i+(j+1)=(i+j)+1:=by omega
  have eb:(zd:Int)^i*(x.getD i 0*((zd:Int)^j*y.getD j 0))=(zd:Int)^(i+j)*(x.getD i 0*y.getD j 0):=by
   rw[Int.pow_add,zH,ya (x.getD i 0)]
  have e6:(p.getD (i+j) 0+x.getD i 0*y.getD j 0+c) % 1000000000+1000000000*((p.getD (i+j) 0+x.getD i 0*y.getD j 0+c)/1000000000)=x.getD i 0*y.getD j 0+p.getD (i+j) 0+c:=by
   generalize x.getD i 0*y.getD j 0=P;omega
  rw[ea,CB,hl,NG,yo, ←zx,e6,Ax _ p (i+j),Ax _ y j,zx,zx,zx (x.getD i 0),zx,eb];omega
theorem Aj(x y:List Int)(n:Nat)(hn:n=x.length+y.length)(hx9:x.length≤9000)(hy9:y.length≤9000)(hx:At zd x)(hy:At zd y)(hq:∀ob,Q (.dat li (CJ (AY x*AY y))) ob):∀(k i:Nat) (p:List Int),i+k=x.length→p.length=i+y.length→At zd p→ze zd p=ze zd (x.take i)*ze zd y→
  Ends SD (L1 x y n i (p++zo (n-(i+y.length)) 0)) Q
 |0,i,p,hi,hp,hd,he=>by
  have hi:i=x.length:=by omega
  subst hi;have ez:p++zo (n-(x.length+y.length)) (0:Int)=p:=by rw[hn,Nat.sub_self];simp
  have hv:AY p=AY x*AY y:=by
   rw[zA]at he;exact he
  rw[ez];refine zl (Ai ..) (zp (by simp) ?_);rw[zj (by omega)];refine zc ?_ (zm ?_)
  ·simp;omega
  ·rw[FL hd,hv];exact hq _
 |k+1,i,p,hi,hp,hd,he=>by
  refine zl (Ai ..) (zc (by simp;omega) ?_);have:=AL (Q:=Q) x y n i (by omega) hn hx9 hy9 hx hy p hp hd (fun q c hl hdq hc hv=>by
   have:=Aj x y n hn hx9 hy9 hx hy hq k (i+1) (q++[c]) (by omega) (by simp;omega) (Fb hdq hc) (by
    rw[CB,hl,hv,he,Ax,yk,zH])
   rw[show i+1+y.length=i+y.length+1 by omega]at this;exact this) y.length 0 (p.take i) 0 (by omega) (by simp;omega) (AH hd i) (by decide) (by simp[ze])
  rw[Nat.add_zero, ←zV,zG]at this;exact this
theorem ok:Ad AR 268 WN:=by
 refine Av (X:=SD) rfl O8 (d:=9) (by kernel_rfl) (by kernel_rfl) (by kernel_rfl) (fun(i:List Int×List Int) hi=>?_) (Ab (by kernel_rfl));obtain⟨x,y⟩:=i;have hi:(Sp.hR x&&Sp.hR y)=true:=hi;rw[zi]at hi;obtain⟨x1,x2⟩:=dY hi.1;obtain⟨y1,y2⟩:=dY hi.2;have e1:zf .i64 ((x.length:Int)+(y.length:Int))=((x.length+y.length:Nat):Int):=by rw[wr _ (by omega) (by omega)];omega
 refine zI (Ap x y) ?_;conv=>zeta
 rw[e1,zg];refine zc (by simp;omega) ?_;have:=Aj (Q:=Ae WN (x,y)) x y (x.length+y.length) rfl x1 y1 x2 y2 (fun ob=>zO rfl rfl rfl) x.length 0 (zo y.length 0) (by omega) (by simp) (fun d hd=>by rw[(List.mem_replicate.1 hd).2];decide) (by rw[J3];simp[ze]);rw[Nat.zero_add,List.replicate_append_replicate,show y.length+(x.length+y.length-y.length)=x.length+y.length by omega]at this;exact this
end T268
theorem VU{r x d:Int}(hd:0<d∧d<1000000000)(hr:0≤r∧r<d)(hx:0≤x∧x<1000000000):
  zf .i64 (zf .i64 (r*1000000000)+x)=r*1000000000+x∧zf .i64 (z8 (r*1000000000+x) d)=(r*1000000000+x)/d∧yr (r*1000000000+x) d=(r*1000000000+x) % d∧
  (0≤(r*1000000000+x)/d∧(r*1000000000+x)/d<1000000000)∧(0≤(r*1000000000+x) % d∧(r*1000000000+x) % d<d)∧(r*1000000000+x)/d*d+(r*1000000000+x) % d=r*1000000000+x:=by
 have h:=Int.mul_ediv_add_emod (r*1000000000+x) d;rw[zD]at h;have q0:0≤(r*1000000000+x)/d:=Int.ediv_nonneg (by omega) (by omega);have q1:(r*1000000000+x)/d<1000000000:=Int.ediv_lt_of_lt_mul hd.1 (by omega);refine⟨?_,?_,zC (by omega),⟨q0,q1⟩,⟨yi _ (by omega),z9 _ hd.1⟩,h⟩
 ·rw[wr (r*1000000000) (by omega) (by omega)];exact wr _ (by omega) (by omega)
 ·rw[zw (by omega)];exact wr _ (by omega) (by omega)
namespace T266
variable {Q:PV→Ob→Prop}
theorem Aj(a:List Int)(d:Int)(ha:At zd a)(hd:0<d∧d<1000000000)(hm:a.length≤20000)(hq:∀q r ob,At zd q→(0≤r∧r<d)→AY a=AY q*d+r→Q (.tup [.dat li (Az q),.dat i64 r]) ob):∀(i:Nat) (q:List Int) (r:Int),i+q.length=a.length→At zd q→(0≤r∧r<d)→ze zd (a.drop i)=ze zd q*d+r→
  Ends SD (L1 a d a.length r ((i:Int)-1) (zo i 0++q)) Q
 |0,q,r,hl,hdq,hr,he=>by
  have ht:((zo 0 0++q).take a.length)=q:=by
   rw[List.replicate_zero,zZ];exact zj (by omega)
  refine zl (Ai ..) (zp (by simp) ?_);rw[ht];refine zc (Ak (by simp;omega) (decide_eq_true (by omega))) (zm (hq q r _ hdq hr he))
 |i+1,q,r,hl,hdq,hr,he=>by
  have e1:(((i+1:Nat):Int)-1)=(i:Int):=by omega
  have gx:=F4 ha i;obtain⟨d1,d2,d3,d4,d5,d6⟩:=VU hd hr gx;have da:a.drop i=a.getD i 0::a.drop (i+1):=Co (by omega);have es:∀x,(zo (i+1) (0:Int)++q).set i x=zo i 0++(x::q):=by
   intro x;rw[List.replicate_succ',zV];exact Cw _ _ _ _ (by simp)
  rw[e1];refine zl (Ai ..) (zc (by simp) ?_);rw[zg,es,wr ((i:Int)-1) (by omega) (by omega),d1,d2,d3];refine zc (by simp;omega) (zc (decide_eq_true (by omega)) (zc (by simp;omega) (zc (by simp;omega) (zc (decide_eq_true (by omega)) ?_))));refine Aj a d ha hd hm hq i _ _ (by simp;omega) (fun x hx=>?_) d5 ?_
  ·rcases ye.1 hx with rfl|hx
   ·exact d4
   ·exact hdq x hx
  ·rw[da];show a.getD i 0+(1000000000:Int)*ze zd (a.drop (i+1))=((r*1000000000+a.getD i 0)/d+(1000000000:Int)*ze zd q)*d+(r*1000000000+a.getD i 0) % d;rw[he,yk,zx,zH];omega
theorem ok:Ad AR 266 SI:=by
 refine Av (X:=SD) rfl O8 (d:=9) (by kernel_rfl) (by kernel_rfl) (by kernel_rfl) (fun(i:List Int×Int) hi=>?_) (Ab (by kernel_rfl));obtain⟨a,d⟩:=i;have hi:(Ii a&&decide (0<d)&&decide (d<1000000000))=true:=hi;rw[zi,zi,decide_eq_true_eq,decide_eq_true_eq]at hi;obtain⟨⟨ha,d0⟩,d1⟩:=hi;obtain⟨hl,hda⟩:=MS ha;refine zI (Ap a d) ?_;conv=>zeta
 rw[zg,wr ((a.length:Int)-1) (by omega) (by omega)];refine zc (by simp;omega) ?_;have:=Aj (Q:=Ae SI (a,d)) a d hda ⟨d0,d1⟩ hl (fun q r ob hq hr he=>?_) a.length [] 0 (by simp) (fun x hx=>by cases hx) ⟨ym _,d0⟩ (by rw[List.drop_length];simp[ze])
 ·rw[List.append_nil]at this;exact this
 ·refine zO rfl rfl ?_;show(Az q,r)=(CJ (AY a/d),AY a % d);obtain⟨u1,u2⟩:=(Int.ediv_emod_unique (a:=AY a) (b:=d) (r:=r) (q:=AY q) d0).2 ⟨by rw[zD d];omega,hr.1,hr.2⟩;rw[FL hq,u1,u2]
end T266
end Go.Pe
end
section
namespace Go.Pe
open Sp
open Go.Det
theorem Zy:∀g sp,JO.sp g=some sp→Ad AR g sp:=
 Ac T265.ok (Ac T267.ok (Ac T266.ok (Ac T268.ok (fun g sp h=>by cases h))))
theorem Qf{t x y w:Int}(ht:0≤t∧t<1000000000)(hx:0≤x∧x<1000000000)(hy:0≤y∧y<1000000000)(hw:0≤w∧w≤1000000000):
  zf .i64 (zf .i64 (t*x)+w)=t*x+w∧yr (t*x+w) 1000000000=(t*x+w) % 1000000000∧zf .i64 (z8 (t*x+w) 1000000000)=(t*x+w)/1000000000∧
  zf .i64 ((t*x+w)/1000000000+1)=(t*x+w)/1000000000+1∧zf .i64 (y-(t*x+w) % 1000000000)=y-(t*x+w) % 1000000000∧(0≤(t*x+w)/1000000000∧(t*x+w)/1000000000<1000000000)∧(0≤(t*x+w) % 1000000000∧(t*x+w) % 1000000000<1000000000):=by
 have h0:0≤t*x:=zB ht.1 hx.1;have h1:t*x≤999999999*999999999:=by
  have a:=zh (show x≤999999999 by omega) ht.1;have b:=zr (show t≤999999999 by omega) (show(0:Int)≤999999999 by omega);omega
 generalize t*x=P at*;have e1:zf .i64 P=P:=wr _ (by omega) (by omega);have e3:z8 (P+w) 1000000000=(P+w)/1000000000:=zw (by omega);refine⟨?_,zC (by omega),?_,wr _ (by omega) (by omega),wr _ (by omega) (by omega),by omega,by omega⟩
 ·rw[e1];exact wr _ (by omega) (by omega)
 ·rw[e3];exact wr _ (by omega) (by omega)
theorem VQ(w r:List Int)(i:Nat)(h:i<w.length):(w++r).getD i 0=w.getD i 0:=by
 rw[zu,zu,List.getElem?_append_left h]
namespace T209
variable {Q:PV→Ob→Prop}
theorem gW{lo w z:List Int}{h:Int}{j i:Nat}(hlo:lo.length=j)(hi:i<w.length):(lo++(w++h::z)).getD (i+j) 0=w.getD i 0:=by
 rw[FD _ _ _ _ hlo,VQ _ _ _ hi]
theorem sW{lo w z:List Int}{h:Int}{j i:Nat}(x:Int)(hlo:lo.length=j)(hi:i<w.length):(lo++(w++h::z)).set (i+j) x=lo++(w.set i x++h::z):=by
 rw[Qe _ _ _ _ _ hlo,List.set_append_left _ _ hi]
theorem gH{lo w z:List Int}{h:Int}{j n:Nat}(hlo:lo.length=j)(hn:w.length=n):(lo++(w++h::z)).getD (n+j) 0=h:=by
 rw[FD _ _ _ _ hlo];exact Cp _ _ _ _ hn
theorem sH{lo w z:List Int}{h:Int}{j n:Nat}(x:Int)(hlo:lo.length=j)(hn:w.length=n):(lo++(w++h::z)).set (n+j) x=lo++(w++x::z):=by
 rw[Qe _ _ _ _ _ hlo];congr 1;exact Cw _ _ _ _ hn
theorem Lg(w z:List Int)(h:Int)(hz:ze zd z=0):ze zd (w++h::z)=ze zd w+(zd:Int)^w.length*h:=by
 rw[Cy];show _+_*(h+(zd:Int)*ze zd z)=_;rw[hz,yt,yu]
theorem BF(v8n v11n v12n:Nat)(o2 o0 v lo z:List Int)(n j:Nat)(t h' X:Int)(hn:v.length=n)(hn9:n≤9000)(hlo:lo.length=j)(hj:j≤9000)(h11:n+j<v11n)(hjv:j<v12n)(hj1:j<o2.length)(hv:At zd v)(hz:ze zd z=0)(hdz:At zd z)(hh: -2000000000≤h'∧h'≤2000000000)
  (hX:0≤X∧X<(zd:Int)^n) (hlen:v11n=j+n+1+z.length)
  (hfin:∀r:List Int,r.length=n+1+z.length→At zd r→ze zd r=X→Ends JO (L2 v8n v n v11n v12n (zf .i64 ((j:Int)-1)) (o2.set j t) (lo++r) o0) Q):
  ∀(k i:Nat) (w:List Int) (c:Int),i+k=n→w.length=n→At zd w→(0≤c∧c≤1)→ze zd w+(zd:Int)^n*h'=X-ze zd v+ze zd (v.take i)-(zd:Int)^i*c→
   Ends JO (L5 v8n v n v11n v12n j t c i o2 (lo++(w++h'::z)) o0) Q
 |0,i,w,c,hi,hw,hd,hc,he=>by
  have hi:i=n:=by omega
  subst hi;have e1:zf .i64 ((j:Int)+(i:Int))=((i+j:Nat):Int):=by rw[wr _ (by omega) (by omega)];omega
  have hv1:v.take i=v:=zj (by omega);rw[hv1]at he;have a1:=Aw (b:=zd) (by decide) hd;have a2:=Bv (b:=zd) (by decide) hd;rw[hw]at a2;have hp:=AP (b:=zd) (by decide) i;have e5:ze zd w+(zd:Int)^i*(h'+c)=X:=by rw[zx];omega
  have hzero:h'+c=0:=by
   rcases Int.lt_trichotomy (h'+c) 0 with g|g|g
   ·have:=zh (show h'+c≤ -1 by omega) (zt hp);rw[Int.mul_neg,yb]at this;omega
   ·exact g
   ·have:=zh (show 1≤h'+c by omega) (zt hp);rw[yb]at this;omega
  have hll:i+j<(lo++(w++h'::z)).length:=by simp;omega
  refine zl (CF ..) (zp (by simp) ?_);rw[e1,zg,zg,gH hlo hw,sH _ hlo hw,wr (h'+c) (by omega) (by omega),hzero];have t1:(decide ((0:Int)≤((i+j:Nat):Int))&&decide (((i+j:Nat):Int)<(v11n:Int)))=true:=by simp;omega
  refine zc t1 (zc (decide_eq_true hll) (zc t1 (zc (decide_eq_true hll) (zc (by simp;omega) (zc (decide_eq_true hj1) (hfin _ (by simp;omega) (Eb hd (fun d hd'=>?_)) ?_))))))
  ·rcases ye.1 hd' with rfl|hd'
   ·decide
   ·exact hdz d hd'
  ·rw[Lg _ _ _ hz,hw, ←e5,hzero]
 |k+1,i,w,c,hi,hw,hd,hc,he=>by
  have gx:=F4 hv i;have gy:=F4 hd i;have e1:zf .i64 ((i:Int)+(j:Int))=((i+j:Nat):Int):=by rw[wr _ (by omega) (by omega)];omega
  have e2:zf .i64 ((i:Int)+1)=((i+1:Nat):Int):=by rw[wr _ (by omega) (by omega)];omega
  have e3:zf .i64 (zf .i64 (w.getD i 0+v.getD i 0)+c)=w.getD i 0+v.getD i 0+c:=by
   rw[wr (w.getD i 0+v.getD i 0) (by omega) (by omega)];exact wr _ (by omega) (by omega)
  have e4:yr (w.getD i 0+v.getD i 0+c) 1000000000=(w.getD i 0+v.getD i 0+c) % 1000000000:=zC (by omega);have e5:zf .i64 (z8 (w.getD i 0+v.getD i 0+c) 1000000000)=(w.getD i 0+v.getD i 0+c)/1000000000:=by
   rw[zw (by omega)];exact wr _ (by omega) (by omega)
  have hll:i+j<(lo++(w++h'::z)).length:=by simp;omega
  refine zl (CF ..) (zc (by simp;omega) ?_);rw[e1,e2,zg,zg,gW hlo (by omega),sW _ hlo (by omega),e3,e4,e5];have t1:(decide ((0:Int)≤((i+j:Nat):Int))&&decide (((i+j:Nat):Int)<(v11n:Int)))=true:=by simp;omega
  refine zc t1 (zc (decide_eq_true hll) (zc (by simp;omega) (zc rfl (zc t1 (zc (decide_eq_true hll) (zc rfl ?_))))));refine BF v8n v11n v12n o2 o0 v lo z n j t h' X hn hn9 hlo hj h11 hjv hj1 hv hz hdz hh hX hlen hfin k (i+1) _ _ (by omega) (by simp[hw]) (FN hd i (by show 0≤_∧_<(1000000000:Int);omega)) (by omega) ?_;rw[Gd _ _ _ _ (by omega),NG,Ax];have e6:(zd:Int)^i*((w.getD i 0+v.getD i 0+c) % 1000000000-w.getD i 0)=(zd:Int)^i*v.getD i 0+(zd:Int)^i*c-(zd:Int)^i*(1000000000*((w.getD i 0+v.getD i 0+c)/1000000000)):=by
   rw[←zx, ←yc];congr 1;omega
  omega
theorem A1(v8n v11n v12n:Nat)(o2 o0 v lo z:List Int)(n j:Nat)(t h W:Int)(hn:v.length=n)(hn9:n≤9000)(hlo:lo.length=j)(hj:j≤9000)(h11:n+j<v11n)(hjv:j<v12n)(hj1:j<o2.length)(hv:At zd v)(hh:0≤h∧h<1000000000)(hlen:v11n=j+n+1+z.length)(ht:0≤t∧t<1000000000)
  (h0:∀(w:List Int) (h':Int),w.length=n→At zd w→0≤h'→ze zd w+(zd:Int)^n*h'=W-t*ze zd v→Ends JO (L2 v8n v n v11n v12n (zf .i64 ((j:Int)-1)) (o2.set j t) (lo++(w++h'::z)) o0) Q)
  (h1:∀(w:List Int) (h':Int),w.length=n→At zd w→h'<0→ -2000000000≤h'→ze zd w+(zd:Int)^n*h'=W-t*ze zd v→Ends JO (L5 v8n v n v11n v12n j (zf .i64 (t-1)) 0 0 o2 (lo++(w++h'::z)) o0) Q):
  ∀(k i:Nat) (w:List Int) (c:Int),i+k=n→w.length=n→At zd w→(0≤c∧c≤1000000000)→ze zd w+(zd:Int)^n*h=W-t*ze zd (v.take i)+(zd:Int)^i*c→
   Ends JO (L4 v8n v n v11n v12n j t c i o2 (lo++(w++h::z)) o0) Q
 |0,i,w,c,hi,hw,hd,hc,he=>by
  have hi:i=n:=by omega
  subst hi;have e1:zf .i64 ((j:Int)+(i:Int))=((i+j:Nat):Int):=by rw[wr _ (by omega) (by omega)];omega
  have hv1:v.take i=v:=zj (by omega);rw[hv1]at he;have hll:i+j<(lo++(w++h::z)).length:=by simp;omega
  have hll2:i+j<(lo++(w++(h-c)::z)).length:=by simp;omega
  have e5:ze zd w+(zd:Int)^i*(h-c)=W-t*ze zd v:=by rw[yc];omega
  refine zl (BA ..) (zp (by simp) ?_);rw[e1,zg,zg,gH hlo hw,wr (h-c) (by omega) (by omega),sH _ hlo hw,gH hlo hw];have t1:(decide ((0:Int)≤((i+j:Nat):Int))&&decide (((i+j:Nat):Int)<(v11n:Int)))=true:=by simp;omega
  refine zc t1 (zc (decide_eq_true hll) (zc t1 (zc (decide_eq_true hll) (zc t1 (zc (decide_eq_true hll2) (zq (fun d=>?_) (fun d=>?_)))))))
  ·have d:=of_decide_eq_true d;exact h1 w (h-c) hw hd d (by omega) e5
  ·have d:=of_decide_eq_false d;exact zc (by simp;omega) (zc (decide_eq_true hj1) (h0 w (h-c) hw hd (by omega) e5))
 |k+1,i,w,c,hi,hw,hd,hc,he=>by
  have gx:=F4 hv i;have gy:=F4 hd i;obtain⟨m1,m2,m3,m4,m5,m6,m7⟩:=Qf ht gx gy hc;have e1:zf .i64 ((i:Int)+(j:Int))=((i+j:Nat):Int):=by rw[wr _ (by omega) (by omega)];omega
  have e2:zf .i64 ((i:Int)+1)=((i+1:Nat):Int):=by rw[wr _ (by omega) (by omega)];omega
  have hll:i+j<(lo++(w++h::z)).length:=by simp;omega
  have t1:(decide ((0:Int)≤((i+j:Nat):Int))&&decide (((i+j:Nat):Int)<(v11n:Int)))=true:=by simp;omega
  have go:∀(x c':Int),(0≤x∧x<1000000000)→(0≤c'∧c'≤1000000000)→c+(x-w.getD i 0)=1000000000*c'-t*v.getD i 0→Ends JO (L4 v8n v n v11n v12n j t c' ((i+1:Nat):Int) o2 (lo++(w.set i x++h::z)) o0) Q:=by
   intro x c' hx hc' hxc;refine A1 v8n v11n v12n o2 o0 v lo z n j t h W hn hn9 hlo hj h11 hjv hj1 hv hh hlen ht h0 h1 k (i+1) _ _ (by omega) (by simp[hw]) (FN hd i hx) hc' ?_;rw[Gd _ _ _ _ (by omega),NG,Ax,zx t,ya t];have e6:(zd:Int)^i*c+(zd:Int)^i*(x-w.getD i 0)=(zd:Int)^i*(1000000000*c')-(zd:Int)^i*(t*v.getD i 0):=by
    rw[←zx, ←yc,hxc]
   omega
  refine zl (BA ..) (zc (by simp;omega) ?_);rw[e1,e2,zg,zg,gW hlo (by omega),m1,m2,m3,m4,m5,sW _ hlo (by omega),sW _ hlo (by omega)];refine zc (by simp;omega) (zc t1 (zc (decide_eq_true hll) (zc rfl (zc rfl (zq (fun d=>?_) (fun d=>?_))))))
  ·have d:=of_decide_eq_true d;rw[wr (w.getD i 0-(t*v.getD i 0+c) % 1000000000+1000000000) (by omega) (by omega)];refine zc t1 (zc (decide_eq_true hll) (go _ _ (by omega) (by omega) ?_));generalize t*v.getD i 0=P at*;omega
  ·have d:=of_decide_eq_false d;refine zc t1 (zc (decide_eq_true hll) (go _ _ (by omega) (by omega) ?_));generalize t*v.getD i 0=P at*;omega
theorem cL(v8n v11n v12n:Nat)(o2 o0 v lo r0:List Int)(n j:Nat)(hn:v.length=n)(hn9:n≤9000)(hlo:lo.length=j)(hj:j≤9000)(hr:n+1≤r0.length)(hlen:v11n=j+r0.length)(hjv:j<v12n)(hj1:j<o2.length)(hv:At zd v)(hd:At zd r0)(hz:ze zd (r0.drop (n+1))=0)
  (hfin:∀(q:Int) (r:List Int),r.length=r0.length→At zd r→(0≤q∧q<1000000000)→ze zd r<ze zd v→ze zd r=ze zd r0-q*ze zd v→Ends JO (L2 v8n v n v11n v12n (zf .i64 ((j:Int)-1)) (o2.set j q) (lo++r) o0) Q)
  (q:Int) (hq:0≤q∧q<1000000000) (h1:ze zd r0<(q+1)*ze zd v) (h2:q*ze zd v<ze zd r0+ze zd v):
  Ends JO (L4 v8n v n v11n v12n j q 0 0 o2 (lo++r0) o0) Q:=by
 have hdec:r0=r0.take n++r0.getD n 0::r0.drop (n+1):=by
  rw[←Co (by omega)];exact(zG n r0).symm
 have gh:=F4 hd n;have hdw:=AH hd n;have hdz:=FF hd (n+1);have hlw:(r0.take n).length=n:=by rw[zn];omega
 have hlz:(r0.drop (n+1)).length=r0.length-(n+1):=zk ..;have hW:ze zd r0=ze zd (r0.take n)+(zd:Int)^n*r0.getD n 0:=by
  conv=>lhs;rw[hdec]
  rw[Lg _ _ _ hz,hlw]
 have hVlt:=Bv (b:=zd) (by decide) hv;rw[hn]at hVlt;have hV0:=Aw (b:=zd) (by decide) hv;have hW0:=Aw (b:=zd) (by decide) hd;have hp:=AP (b:=zd) (by decide) n;rw[yk,zX]at h1;rw[hdec];refine A1 v8n v11n v12n o2 o0 v lo (r0.drop (n+1)) n j q (r0.getD n 0) (ze zd r0) hn hn9 hlo hj (by omega) hjv hj1 hv gh (by omega) hq (fun w h' a b c d=>?_) (fun w h' a b c c2 d=>?_) n 0 (r0.take n) 0 (by omega) hlw hdw (by decide) (by rw[←hW];simp[ze])
 ·have b0:=Aw (b:=zd) (by decide) b;have hz':h'=0:=by
   rcases z6 0 h' with g|g
   ·have:=zh (show 1≤h' by omega) (zt hp);omega
   ·omega
  refine hfin q _ (by simp;omega) (Eb b (fun x hx=>?_)) hq ?_ ?_
  ·rcases ye.1 hx with rfl|hx
   ·rw[hz'];decide
   ·exact hdz x hx
  ·rw[Lg _ _ _ hz,a,d];omega
  ·rw[Lg _ _ _ hz,a,d]
 ·have b0:=Bv (b:=zd) (by decide) b;rw[a]at b0;have hneg:ze zd r0-q*ze zd v<0:=by
   have:=zh (show h'≤ -1 by omega) (zt hp);rw[Int.mul_neg,yb]at this;omega
  have hq1:1≤q:=by
   rcases z6 0 q with g|g
   ·exact g
   ·have:q=0:=by omega
    subst this;rw[yh]at hneg;omega
  rw[wr (q-1) (by omega) (by omega)];refine BF v8n v11n v12n o2 o0 v lo (r0.drop (n+1)) n j (q-1) h' (ze zd r0-q*ze zd v+ze zd v) hn hn9 hlo hj (by omega) hjv hj1 hv hz hdz (by omega) (by omega) (by omega) (fun r a' b' d'=>?_) n 0 w 0 (by omega) a b (by decide) (by rw[d];simp[ze]<;>omega);refine hfin (q-1) r (by omega) b' (by omega) (by omega) ?_;rw[d',Int.sub_mul,zX];omega
theorem Bb(v8n v11n v12n:Nat)(o2 o0 v lo r0:List Int)(a2 a1 a0:List Int)(k j:Nat)(hn:v.length=k+2)(hn9:k+2≤9000)(hlo:lo.length=j)(hj:j≤9000)(hr:k+3≤r0.length)(hlen:v11n=j+r0.length)(hjv:j<v12n)(hj1:j<o2.length)(hv:At zd v)(hd:At zd r0)(hz:ze zd (r0.drop (k+3))=0)(hv1:1≤v.getD (k+1) 0)
  (hle:r0.getD (k+2) 0≤v.getD (k+1) 0) (hBV:ze zd r0<1000000000*ze zd v)
  (hfin:∀(q:Int) (r:List Int),r.length=r0.length→At zd r→(0≤q∧q<1000000000)→ze zd r<ze zd v→ze zd r=ze zd r0-q*ze zd v→Ends JO (L2 v8n v ((k+2:Nat):Int) v11n v12n (zf .i64 ((j:Int)-1)) (o2.set j q) (lo++r) o0) Q):
  ∀(f:Nat) (q r:Int),0≤q→q<f→q≤2000000000000000000→(0≤r∧r<1000000000)→q*v.getD (k+1) 0+r=r0.getD (k+2) 0*1000000000+r0.getD (k+1) 0→ze zd r0<(q+1)*ze zd v→
   Ends JO (L3 v8n v ((k+2:Nat):Int) v11n v12n j a2 a1 a0 v11n v j ((k+2:Nat):Int) q r o2 (lo++r0) o0) Q
 |0,q,r,h0,hf,_,_,_,_=>by omega
 |f+1,q,r,h0,hf,hmax,hr1,he,hup=>by
  have gv2:=F4 hv k;have gv1:=F4 hv (k+1);have gu2:=F4 hd k;have gu1:=F4 hd (k+1);have hP:=AP (b:=zd) (by decide) k;have hW:=Zj zd r0 k (by omega) hz;have hV:=Zu zd v k hn;have hu':=Aw (b:=zd) (by decide) (AH hd k);have hu'':=Bv (b:=zd) (by decide) (AH hd k);have hv':=Aw (b:=zd) (by decide) (AH hv k);have hv'':=Bv (b:=zd) (by decide) (AH hv k);have hV0:=Aw (b:=zd) (by decide) hv;rw[zn,z5 (by omega)]at hu'' hv'';have exit:∀q R:Int,0≤q→q<1000000000→q*v.getD (k+1) 0+R=r0.getD (k+2) 0*1000000000+r0.getD (k+1) 0→ze zd r0<(q+1)*ze zd v→q*v.getD k 0≤R*1000000000+r0.getD k 0→Ends JO (L4 v8n v ((k+2:Nat):Int) v11n v12n j q 0 0 o2 (lo++r0) o0) Q:=by
   intro q R q0 q1 hqe hqu hx;refine cL v8n v11n v12n o2 o0 v lo r0 (k+2) j hn hn9 hlo hj hr hlen hjv hj1 hv hd hz hfin q ⟨q0,q1⟩ hqu ?_;rw[hW,hV];exact Rj hP ⟨hv',hv''⟩ hu' ⟨q0,q1⟩ hv1 gv2.1 hqe hx
  have e1:zf .i64 (((k+2:Nat):Int)-2)=(k:Int):=by rw[wr _ (by omega) (by omega)];omega
  have e2:zf .i64 (((k+2:Nat):Int)-1)=((k+1:Nat):Int):=by rw[wr _ (by omega) (by omega)];omega
  have e3:zf .i64 (zf .i64 ((j:Int)+((k+2:Nat):Int))-2)=((k+j:Nat):Int):=by
   rw[wr ((j:Int)+((k+2:Nat):Int)) (by omega) (by omega),wr _ (by omega) (by omega)];omega
  have g3:(lo++r0).getD (k+j) 0=r0.getD k 0:=FD _ _ _ _ hlo;have b1:(decide ((0:Int)≤((k+1:Nat):Int))&&decide (((k+1:Nat):Int)<(v.length:Int)))=true:=by simp;omega
  have dec:ze zd r0<q*ze zd v→Ends JO (.ite (decide (zf .i64 (r+v.getD (k+1) 0)≥(1000000000:Int))) (L4 v8n v ((k+2:Nat):Int) v11n v12n j (zf .i64 (q-1)) 0 0 o2 (lo++r0) o0) (L3 v8n v ((k+2:Nat):Int) v11n v12n j a2 a1 a0 v11n v j ((k+2:Nat):Int) (zf .i64 (q-1)) (zf .i64 (r+v.getD (k+1) 0)) o2 (lo++r0) o0)) Q:=by
   intro hx;have hW0:=Aw (b:=zd) (by decide) hd;have hq1:1≤q:=by
    rcases z6 0 q with g|g
    ·exact g
    ·have:q=0:=by omega
     subst this;rw[yh]at hx;omega
   have he':(q-1)*v.getD (k+1) 0+(r+v.getD (k+1) 0)=r0.getD (k+2) 0*1000000000+r0.getD (k+1) 0:=by rw[Int.sub_mul,zX];omega
   have hup':ze zd r0<(q-1+1)*ze zd v:=by rw[show q-1+1=q by omega];exact hx
   rw[wr (q-1) (by omega) (by omega),wr (r+v.getD (k+1) 0) (by omega) (by omega)];refine zq (fun c=>?_) (fun c=>?_)
   ·have c:=of_decide_eq_true c;have hlt:q-1<1000000000:=by
     rcases z6 (q-1) 1000000000 with g|g
     ·exact g
     ·have a:=zr g (show 0≤v.getD (k+1) 0 by omega);have b:=zr hle (show(0:Int)≤1000000000 by omega);omega
    refine exit (q-1) _ (by omega) hlt he' hup' ?_;have a:=zh (show v.getD k 0≤999999999 by omega) (show 0≤q-1 by omega);omega
   ·have c:=of_decide_eq_false c;exact Bb v8n v11n v12n o2 o0 v lo r0 a2 a1 a0 k j hn hn9 hlo hj hr hlen hjv hj1 hv hd hz hv1 hle hBV hfin f (q-1) _ (by omega) (by omega) (by omega) (by omega) he' hup'
  refine zl (Bk ..) ?_;conv=>zeta
  rw[e1,e2,e3,zg,zg,zg,g3];refine zq (fun c=>zc b1 (dec ?_)) (fun c=>zc (by simp;omega) (zc (by simp;omega) (zc (by simp;omega) (zq (fun d=>zc b1 (dec ?_)) (fun d=>?_)))))
  ·have c:=of_decide_eq_true c;have:=zr c hV0;omega
  ·have c:=of_decide_eq_false c;have d:=of_decide_eq_true d;have a:=zh (show v.getD k 0≤999999999 by omega) h0;have b:=zB h0 gv2.1;rw[wr (q*v.getD k 0) (by omega) (by omega),wr (r*1000000000) (by omega) (by omega),wr _ (by omega) (by omega)]at d;have:=Ri (B:=zd) (u0:=r0.getD (k+2) 0) (u1:=r0.getD (k+1) 0) (u2:=r0.getD k 0) hP hv' hu'' h0 (v1:=v.getD (k+1) 0) (v2:=v.getD k 0) (r:=r) he d;rw[←hW, ←hV]at this;exact this
  ·have c:=of_decide_eq_false c;have d:=of_decide_eq_false d;have a:=zh (show v.getD k 0≤999999999 by omega) h0;have b:=zB h0 gv2.1;rw[wr (q*v.getD k 0) (by omega) (by omega),wr (r*1000000000) (by omega) (by omega),wr _ (by omega) (by omega)]at d;exact exit q r h0 (by omega) he hup (by omega)
end T209
end Go.Pe
end
section
namespace Go.Pe
open Sp
open Go.Det
theorem Hk{w:List Int}(hd:At zd w)(hn:Sp.nz w){k:Nat}(hl:w.length=k+1):0<w.getD k 0∧w.getD k 0<1000000000:=by
 have g:=F4 hd k;refine⟨?_,g.2⟩;have e:w.getLast?=some (w.getD k 0):=by
  rw[List.getLast?_eq_getElem?,hl,zM,zu,zE (by omega)];rfl
 unfold Sp.nz at hn;rw[e]at hn;have:w.getD k 0≠0:=fun h=>hn (by rw[h])
 omega
theorem DP(d:Int):ze zd [d]=d:=by simp[ze]
namespace T209
variable {Q:PV→Ob→Prop}
theorem AL(v:List Int)(k la:Nat)(f:Int)(hf:0<f∧f<1000000000)(hn:v.length=k+2)(hla:la≤9000)(hkl:k+2≤la)(hv:At zd v)(hv1:1≤v.getD (k+1) 0)(W0:Int)
  (hq:∀(u qs:List Int) ob,At zd u→At zd qs→ze zd u<ze zd v→W0=ze zd u+ze zd v*ze zd qs→Q (.tup [.dat li (Az qs),.dat li (CJ (ze zd u/f))]) ob):
  ∀(t:Nat) (u qs:List Int),t+qs.length=la-(k+2)+1→u.length=la+1→At zd u→At zd qs→ze zd (u.drop t)<ze zd v→W0=ze zd u+ze zd v*((zd:Int)^t*ze zd qs)→
   Ends JO (L2 1 v ((k+2:Nat):Int) (la+1) (la-(k+2)+1) ((t:Int)-1) (zo t 0++qs) u [f]) Q
 |0,u,qs,hl,hu,hd,hdq,hlt,he=>by
  have hlt:ze zd u<ze zd v:=hlt;have hVlt:=Bv (b:=zd) (by decide) hv;rw[hn]at hVlt;have hz:ze zd (u.drop (k+2))=0:=H8 (b:=zd) (by decide) hd (by omega) (by omega);have hvu:ze zd (u.take (k+2))=ze zd u:=by
   rw[Ca zd u (k+2) (by omega),hz,yt,yu]
  have ht:(zo 0 0++qs).take (la-(k+2)+1)=qs:=by
   rw[List.replicate_zero,zZ];exact zj (by omega)
  have htr:=Gf (AH hd (k+2));have hlr:(Az (u.take (k+2))).length≤9000:=by
   rw[FL (AH hd (k+2))];refine Nat.le_trans (PQ (k:=k+2) (Aw (by decide) (AH hd (k+2))) ?_) (by omega);show ze zd (u.take (k+2))<_;rw[hvu];omega
  have e1:AY (Az (u.take (k+2)))=ze zd u:=by
   show ze zd (Az _)=_;rw[HI,hvu]
  refine zl (AN ..) (zp (by simp) ?_);rw[zg,ht,e1];refine zc (by simp;omega) (zc rfl (zc rfl (zc (by simp;omega) (zc (Ak (Ak (Jf (by omega) htr) (decide_eq_true hf.1)) (decide_eq_true hf.2)) (zc (by simp;omega) (zm (hq u qs _ hd hdq hlt (by rw[he,yv,zX]))))))))
 |j+1,u,qs,hl,hu,hd,hdq,hlt,he=>by
  obtain⟨lo,r,rfl,hlo⟩:∃lo r:List Int,u=lo++r∧lo.length=j:=⟨u.take j,u.drop j,(zG j u).symm,by rw[zn];omega⟩;have hdlo:At zd lo:=fun d hd'=>hd d (List.mem_append.2 (.inl hd'))
  have hdr:At zd r:=fun d hd'=>hd d (List.mem_append.2 (.inr hd'))
  have hrl:r.length=la+1-j:=by rw[zF]at hu;omega
  have hdrop:∀z:List Int,(lo++z).drop j=z:=fun z=>by rw[←hlo];exact List.drop_left
  have hr0:r=r.getD 0 0::r.drop 1:=by
   have:=Co (l:=r) (i:=0) (by omega);rw[List.drop_zero]at this;exact this
  have hd1:(lo++r).drop (j+1)=r.drop 1:=by rw[Nat.add_comm j 1,Nat.add_comm 1 j, ←List.drop_drop,hdrop]
  rw[hd1]at hlt;have g0:=F4 hdr 0;have hvr:ze zd r=r.getD 0 0+1000000000*ze zd (r.drop 1):=by
   conv=>lhs;rw[hr0]
   rfl
  have hVlt:=Bv (b:=zd) (by decide) hv;rw[hn]at hVlt;have hrV:ze zd r<1000000000*ze zd v:=by rw[hvr];omega
  have hz:ze zd (r.drop (k+3))=0:=by
   refine H8 (b:=zd) (by decide) hdr (by omega) ?_;have ep:(zd:Int)^(k+3)=(zd:Int)^(k+2)*1000000000:=zL ..;rw[ep];omega
  have gu0:=F4 hdr (k+2);have gu1:=F4 hdr (k+1);have gu2:=F4 hdr k;have gv1:=F4 hv (k+1);have gv2:=F4 hv k;have hP:=AP (b:=zd) (by decide) k;have hW:=Zj zd r k (by omega) hz;have hV:=Zu zd v k hn;have hu'':=Bv (b:=zd) (by decide) (AH hdr k);have hv':=Aw (b:=zd) (by decide) (AH hv k);rw[zn,z5 (by omega)]at hu'';have hle:r.getD (k+2) 0≤v.getD (k+1) 0:=by
   have a1:=Ca zd (r.drop 1) (k+1) (by rw[zk];omega);have a2:(r.drop 1).drop (k+1)=r.getD (k+2) 0::r.drop (k+3):=by
    rw[List.drop_drop,show 1+(k+1)=k+2 by omega];exact Co (by omega)
   have a3:ze zd (r.getD (k+2) 0::r.drop (k+3))=r.getD (k+2) 0:=by
    show r.getD (k+2) 0+(zd:Int)*ze zd (r.drop (k+3))=_;rw[hz];omega
   rw[a2,a3]at a1;have b1:ze zd v=ze zd (v.take (k+1))+(zd:Int)^(k+1)*v.getD (k+1) 0:=by
    rw[←Ax,zj (by omega)]
   have b2:=Bv (b:=zd) (by decide) (AH hv (k+1));rw[zn,z5 (by omega)]at b2;have c1:=Aw (b:=zd) (by decide) (AH (FF hdr 1) (k+1));have c2:(zd:Int)^(k+1)*r.getD (k+2) 0<(zd:Int)^(k+1)*(v.getD (k+1) 0+1):=by
    rw[zx,yb];omega
   have:=zT c2 (zt (AP (by decide) (k+1)));omega
  have hfin:∀(q:Int) (r':List Int),r'.length=r.length→At zd r'→(0≤q∧q<1000000000)→ze zd r'<ze zd v→ze zd r'=ze zd r-q*ze zd v→Ends JO (L2 1 v ((k+2:Nat):Int) (la+1) (la-(k+2)+1) (zf .i64 ((j:Int)-1)) ((zo (j+1) 0++qs).set j q) (lo++r') [f]) Q:=by
   intro q r' h1 h2 h3 h4 h5;have es:(zo (j+1) (0:Int)++qs).set j q=zo j 0++(q::qs):=by
    rw[List.replicate_succ',zV];exact Cw _ _ _ _ (by simp)
   rw[es,wr ((j:Int)-1) (by omega) (by omega)];refine AL v k la f hf hn hla hkl hv hv1 W0 hq j (lo++r') (q::qs) (by simp;omega) (by simp;omega) (Eb hdlo h2) (fun d hd'=>?_) (by rw[hdrop];exact h4) ?_
   ·rcases ye.1 hd' with rfl|hd'
    ·exact h3
    ·exact hdq d hd'
   ·rw[he,Cy,Cy,hlo,h5,NG];show ze zd lo+(zd:Int)^j*ze zd r+ze zd v*((zd:Int)^j*(1000000000*ze zd qs))=ze zd lo+(zd:Int)^j*(ze zd r-q*ze zd v)+ze zd v*((zd:Int)^j*(q+1000000000*ze zd qs));have x1:ze zd v*((zd:Int)^j*q)=(zd:Int)^j*(q*ze zd v):=by
     rw[ya,zD (ze zd v) q]
    rw[yc,zx ((zd:Int)^j) q,zx (ze zd v),x1];omega
  have e0:(((j+1:Nat):Int)-1)=(j:Int):=by omega
  have e1:zf .i64 ((j:Int)+((k+2:Nat):Int))=((k+2+j:Nat):Int):=by rw[wr _ (by omega) (by omega)];omega
  have e2:zf .i64 (((k+2+j:Nat):Int)-1)=((k+1+j:Nat):Int):=by rw[wr _ (by omega) (by omega)];omega
  have e3:zf .i64 (((k+2:Nat):Int)-1)=((k+1:Nat):Int):=by rw[wr _ (by omega) (by omega)];omega
  have g1:(lo++r).getD (k+2+j) 0=r.getD (k+2) 0:=FD _ _ _ _ hlo;have g2:(lo++r).getD (k+1+j) 0=r.getD (k+1) 0:=FD _ _ _ _ hlo;have hll:(lo++r).length=la+1:=hu;have hmul:zf .i64 (zf .i64 (r.getD (k+2) 0*1000000000)+r.getD (k+1) 0)=r.getD (k+2) 0*1000000000+r.getD (k+1) 0:=by
   rw[wr (r.getD (k+2) 0*1000000000) (by omega) (by omega)];exact wr _ (by omega) (by omega)
  have htop0:0≤r.getD (k+2) 0*1000000000+r.getD (k+1) 0:=by omega
  have hq0:0≤(r.getD (k+2) 0*1000000000+r.getD (k+1) 0)/v.getD (k+1) 0:=Int.ediv_nonneg htop0 (by omega);have hqs:(r.getD (k+2) 0*1000000000+r.getD (k+1) 0)/v.getD (k+1) 0≤r.getD (k+2) 0*1000000000+r.getD (k+1) 0:=Int.ediv_le_self _ htop0;have hdm:=Int.mul_ediv_add_emod (r.getD (k+2) 0*1000000000+r.getD (k+1) 0) (v.getD (k+1) 0);have hm0:=yi (r.getD (k+2) 0*1000000000+r.getD (k+1) 0) (show v.getD (k+1) 0≠0 by omega);have hm1:=z9 (r.getD (k+2) 0*1000000000+r.getD (k+1) 0) (show 0<v.getD (k+1) 0 by omega);rw[zD]at hdm;have et:zf .i64 (z8 (r.getD (k+2) 0*1000000000+r.getD (k+1) 0) (v.getD (k+1) 0))=(r.getD (k+2) 0*1000000000+r.getD (k+1) 0)/v.getD (k+1) 0:=by
   rw[zw htop0];exact wr _ (by omega) (by omega)
  have em:yr (r.getD (k+2) 0*1000000000+r.getD (k+1) 0) (v.getD (k+1) 0)=(r.getD (k+2) 0*1000000000+r.getD (k+1) 0) % v.getD (k+1) 0:=zC htop0;have b2:(decide ((0:Int)≤((k+1:Nat):Int))&&decide (((k+1:Nat):Int)<((k+2:Nat):Int)))=true:=by simp;omega
  have bn:decide (v.getD (k+1) 0≠0)=true:=decide_eq_true (by omega);rw[e0];refine zl (AN ..) (zc (by simp) ?_);rw[hn,e1,e2,e3,zg,zg,zg,g1,g2,hmul,et,em,hll];refine zc (by simp;omega) (zc (decide_eq_true (by omega)) (zc (by simp;omega) (zc (decide_eq_true (by omega)) (zc b2 (zc bn (zc b2 (zc bn ?_)))))));refine Bb 1 (la+1) (la-(k+2)+1) _ [f] v lo r _ _ _ k j hn (by omega) hlo (by omega) (by omega) (by omega) (by omega) (by simp;omega) hv hdr hz hv1 hle hrV hfin (((r.getD (k+2) 0*1000000000+r.getD (k+1) 0)/v.getD (k+1) 0).toNat+1) _ _ hq0 (by omega) (by omega) ⟨hm0,by omega⟩ hdm ?_;rw[hW,hV];exact Kp hP (by decide) hq0 hv' gv2.1 hu'' gu2.2 hdm hm1
theorem Aj(a v:List Int)(n la:Nat)(f:Int)(hla:a.length=la)(hla9:la≤9000)(hnl:n≤la)(hq:∀u:List Int,u.length=la+1→At zd u→ze zd u=ze zd a*f→Ends JO (L2 1 v n (la+1) (la-n+1) (((la-n+1:Nat):Int)-1) (zo (la-n+1) 0) u [f]) Q):
  ∀(m:Nat) (u:List Int),u.length+m=la+1→At zd u→ze zd u=ze zd a*f→Ends JO (L1 a 1 v n u.length u [f]) Q
 |0,u,hl,hd,he=>by
  have e1:zf .i64 ((a.length:Int)+1)=((la+1:Nat):Int):=by rw[wr _ (by omega) (by omega)];omega
  have e2:zf .i64 ((u.length:Int)-(n:Int))=((la-n+1:Nat):Int):=by rw[wr _ (by omega) (by omega)];omega
  have e3:zf .i64 (((la-n+1:Nat):Int)-1)=((la-n+1:Nat):Int)-1:=wr _ (by omega) (by omega);refine zl (Ai ..) ?_;conv=>zeta
  rw[e1,e2,e3,zg];refine zp (by simp;omega) (zc (by simp;omega) ?_);have hul:u.length=la+1:=by omega
  rw[hul];exact hq u hul hd he
 |m+1,u,hl,hd,he=>by
  have e1:zf .i64 ((a.length:Int)+1)=((la+1:Nat):Int):=by rw[wr _ (by omega) (by omega)];omega
  refine zl (Ai ..) ?_;conv=>zeta
  rw[e1];refine zc (by simp;omega) (zc (by simp;omega) ?_);have:=Aj a v n la f hla hla9 hnl hq m (u++[0]) (by simp;omega) (Fb hd (by decide)) (by rw[CB,yt,yu];exact he);rw[zF]at this;exact this
set_option maxHeartbeats 1000000 in
theorem ok:Ad AR 209 Uf:=by
 refine Av (X:=JO) rfl Zy (d:=9) (by kernel_rfl) (by kernel_rfl) (by kernel_rfl) (fun(i:List Int×List Int) hi=>?_) (Ab (by kernel_rfl));obtain⟨a,b⟩:=i;have hi:(Cu a&&Cu b&&decide (a.length≤9000)&&decide (b.length≤9000)&&decide (0<AY b))=true:=hi;rw[zi,zi,zi,zi,decide_eq_true_eq,decide_eq_true_eq,decide_eq_true_eq]at hi;obtain⟨⟨⟨⟨na,nb⟩,la9⟩,lb9⟩,hb0⟩:=hi;obtain⟨_,da,za⟩:=EP na;obtain⟨_,db,zb⟩:=EP nb;have hb0:0<ze zd b:=hb0;have ha0:=Aw (b:=zd) (by decide) da;have hg:∀q r ob,q=CJ (AY a/AY b)→r=CJ (AY a % AY b)→Ae Uf (a,b) (PV.tup [PV.dat li q,PV.dat li r]) ob:=fun q r ob e1 e2=>zO rfl rfl (Prod.ext e1 e2)
 have hbne:b≠[]:=by rintro rfl;simp[ze]at hb0
 have hblen:b.length≠0:=fun h=>hbne (zz.1 h)
 refine zI (Ap a b) (zc (by rw[na,nb];rfl) (zq (fun c=>?_) (fun c=>?_)))
 ·have c:=of_decide_eq_true c;have hlt:ze zd a<ze zd b:=by
   unfold BB at c;have c:(if ze zd a<ze zd b then(-1:Int)else if ze zd a>ze zd b then 1 else 0)<0:=c;split at c
   ·assumption
   ·split at c<;>omega
  refine zm (zO rfl rfl ?_);show([],a)=(CJ (ze zd a/ze zd b),CJ (ze zd a % ze zd b));rw[Int.ediv_eq_zero_of_lt ha0 hlt,Int.emod_eq_of_lt ha0 hlt];exact Prod.ext rfl (KT (by decide) da za)
 ·have c:=of_decide_eq_false c;have hge:ze zd b≤ze zd a:=by
   rcases z6 (ze zd a) (ze zd b)with g|g
   ·have:BB (AY a) (AY b)= -1:=if_pos g;omega
   ·exact g
  have hll:b.length≤a.length:=by
   rcases Nat.lt_or_ge a.length b.length with g|g
   ·have:=DU (b:=zd) (by decide) da db zb g;omega
   ·exact g
  refine zq (fun c1=>?_) (fun c1=>?_)
  ·have c1:b.length=1:=by
    have:(b.length:Int)=1:=by simpa using c1
    omega
   obtain⟨d,rfl⟩:=List.length_eq_one_iff.1 c1;have hd:0<d∧d<1000000000:=Hk (k:=0) db zb rfl;have m0:=yi (ze zd a) (show d≠0 by omega);have m1:=z9 (ze zd a) hd.1;refine zc rfl (zc (Ak (Ak (Jf (by omega) da) (decide_eq_true hd.1)) (decide_eq_true hd.2)) (zc rfl (zm (hg _ _ _ ?_ ?_))))
   ·show CJ (ze zd a/d)=CJ (ze zd a/ze zd [d]);rw[DP]
   ·show Az [ze zd a % d]=CJ (ze zd a % ze zd [d]);rw[DP,FL (fun x hx=>by rw[z7]at hx;subst hx;show 0≤_∧_<(1000000000:Int);omega)];show CJ (ze zd [_])=_;rw[DP]
  ·have c1:b.length≠1:=by
    have:(b.length:Int)≠1:=by simpa using c1
    omega
   obtain⟨k,hk⟩:∃k,b.length=k+2:=⟨b.length-2,by omega⟩;obtain⟨y0,y1⟩:=Hk (k:=k+1) db zb hk;have e1:zf .i64 (((k+2:Nat):Int)-1)=((k+1:Nat):Int):=by rw[wr _ (by omega) (by omega)];omega
   have e2:zf .i64 (b.getD (k+1) 0+1)=b.getD (k+1) 0+1:=wr _ (by omega) (by omega);have f0:0<1000000000/(b.getD (k+1) 0+1):=by
    have:=Int.le_ediv_of_mul_le (a:=1) (b:=1000000000) (c:=b.getD (k+1) 0+1) (by omega) (by omega);omega
   have f1:1000000000/(b.getD (k+1) 0+1)<1000000000:=Int.ediv_lt_of_lt_mul (by omega) (by omega);have f2:1000000000/(b.getD (k+1) 0+1)*(b.getD (k+1) 0+1)≤1000000000:=Int.ediv_mul_le _ (by omega);have e3:zf .i64 (z8 1000000000 (b.getD (k+1) 0+1))=1000000000/(b.getD (k+1) 0+1):=by
    rw[zw (by decide)];exact wr _ (by omega) (by omega)
   rw[hk,e1,zg,e2,e3];generalize 1000000000/(b.getD (k+1) 0+1)=f at*;have hdf:At zd [f]:=fun x hx=>by rw[z7]at hx;subst hx;show 0≤_∧_<(1000000000:Int);omega
   have hvf:AY [f]=f:=DP f;rw[hvf];have hv1:(zd:Int)^(k+1)≤ze zd b*f:=by
    have a1:=CU (b:=zd) (by decide) db zb hbne;rw[hk,show k+2-1=k+1 by omega]at a1;have a2:=zh (show 1≤f by omega) (zt hb0);omega
   have hv2:ze zd b*f<(zd:Int)^(k+2):=by
    have b1:ze zd b=ze zd (b.take (k+1))+(zd:Int)^(k+1)*b.getD (k+1) 0:=by
     rw[←Ax,zj (by omega)]
    have b2:=Bv (b:=zd) (by decide) (AH db (k+1));rw[zn,z5 (by omega)]at b2;have hp:=AP (b:=zd) (by decide) (k+1);have b3:ze zd b<(zd:Int)^(k+1)*(b.getD (k+1) 0+1):=by
     rw[zx,yb];omega
    have b4:=zQ b3 f0;have b5:=zh f2 (zt hp);have b6:(zd:Int)^(k+2)=(zd:Int)^(k+1)*1000000000:=zL ..;rw[zH,zD (b.getD (k+1) 0+1) f]at b4;omega
   have hV0:0≤ze zd b*f:=zB (zt hb0) (by omega);have hU0:0≤ze zd a*f:=zB ha0 (by omega);have hU1:ze zd a*f<(zd:Int)^(a.length+1):=by
    have a1:=Bv (b:=zd) (by decide) da;have a2:=zQ a1 f0;have a3:=zh (show f≤1000000000 by omega) (zt (AP (b:=zd) (by decide) a.length));have a4:(zd:Int)^(a.length+1)=(zd:Int)^a.length*1000000000:=zL ..;omega
   have vd:=HT (b:=zd) (by decide) (ze zd b*f);have vz:=UW (b:=zd) (by decide) (ze zd b*f);have vv:ze zd (Sp.dg zd (ze zd b*f))=ze zd b*f:=Dv (by decide) hV0;have vl:=Xs (b:=zd) (by decide) vd vz (k:=k+1) (by rw[vv];exact hv1) (by rw[vv];exact hv2);have v1:=(Hk vd vz vl).1;have ud:=HT (b:=zd) (by decide) (ze zd a*f);have uv:ze zd (Sp.dg zd (ze zd a*f))=ze zd a*f:=Dv (by decide) hU0;have ul:=PQ (k:=a.length+1) hU0 hU1;have hfa:Sp.hR [f]=true:=Uv (by simp) hdf;have bd:decide ((2*(0+(CJ (AY a*f)).length)+1000)*8≤281474976710656)=true:=decide_eq_true (by have:(CJ (AY a*f)).length≤a.length+1:=ul;omega);refine zc (by simp;omega) (zc (decide_eq_true (by omega)) (zc (by rw[Uv lb9 db,hfa];rfl) (zc (by rw[Uv la9 da,hfa];rfl) (zc bd ?_))));have ez:yx 0 (CJ (AY a*f)).length=(CJ (AY a*f)).length:=Nat.zero_add _;have evl:(CJ (AY b*f)).length=k+2:=vl;rw[ez,zZ,evl];refine Aj a (CJ (AY b*f)) (k+2) a.length f rfl la9 (by omega) (fun u hul hud huv=>?_) (a.length+1-(CJ (AY a*f)).length) (CJ (AY a*f)) (by have:(CJ (AY a*f)).length≤a.length+1:=ul;omega) ud uv;have hpn:=AP (b:=zd) (by decide) (a.length-(k+2)+1);have start:ze zd (u.drop (a.length-(k+2)+1))<ze zd (CJ (AY b*f)):=by
    have a1:=Ca zd u (a.length-(k+2)+1) (by omega);have a2:=Aw (b:=zd) (by decide) (AH hud (a.length-(k+2)+1));have a3:=Bv (b:=zd) (by decide) da;have a4:=zQ a3 f0;have a5:(zd:Int)^a.length=(zd:Int)^(a.length-(k+2)+1)*(zd:Int)^(k+1):=by rw[←Int.pow_add,show a.length-(k+2)+1+(k+1)=a.length by omega]
    have a6:=CU (b:=zd) (by decide) db zb hbne;rw[hk,show k+2-1=k+1 by omega]at a6;have a7:=zr a6 (show 0≤f by omega);have a8:=zh a7 (zt hpn);rw[a5,zH]at a4;show _<ze zd (Sp.dg zd (ze zd b*f));rw[vv];refine zT (a:=(zd:Int)^(a.length-(k+2)+1)) ?_ (zt hpn);omega
   have go:=AL (Q:=Ae Uf (a,b)) (CJ (AY b*f)) k a.length f ⟨f0,f1⟩ evl la9 (by omega) vd (by have:0<(CJ (AY b*f)).getD (k+1) 0:=v1;omega) (ze zd a*f) (fun u' qs ob hud' hdq hlt' he=>by
    have vv':ze zd (CJ (AY b*f))=ze zd b*f:=vv;rw[vv']at he hlt';have e:ze zd u'=f*(ze zd a-ze zd qs*ze zd b):=by
     have x1:ze zd b*f*ze zd qs=f*(ze zd qs*ze zd b):=by
      rw[zD (ze zd b) f,zH,zD (ze zd b)]
     rw[x1,zD (ze zd a)]at he;rw[yc];omega
    have h0:=Aw (b:=zd) (by decide) hud';have r0:0≤ze zd a-ze zd qs*ze zd b:=by
     rw[e]at h0;exact Int.nonneg_of_mul_nonneg_right h0 f0
    have r1:ze zd a-ze zd qs*ze zd b<ze zd b:=by
     rw[e,zD (ze zd b) f]at hlt';exact zT hlt' (by omega)
    obtain⟨u1,u2⟩:=(Int.ediv_emod_unique (a:=ze zd a) (b:=ze zd b) (r:=ze zd a-ze zd qs*ze zd b) (q:=ze zd qs) hb0).2 ⟨by rw[zD (ze zd b)];omega,r0,r1⟩;refine hg _ _ ob ?_ ?_
    ·rw[FL hdq];show CJ (ze zd qs)=CJ (ze zd a/ze zd b);rw[u1]
    ·show CJ (ze zd u'/f)=CJ (ze zd a % ze zd b);rw[u2,e,Int.mul_ediv_cancel_left _ (by omega)]) (a.length-(k+2)+1) u [] (by simp) hul hud (fun x hx=>by cases hx) start (by rw[huv];simp[ze])
   rw[List.append_nil]at go;exact go
end T209
theorem ZI:∀g sp,kA.sp g=some sp→Ad AR g sp:=Ac T209.ok (fun g sp h=>by cases h)
namespace T170
variable {Q:PV→Ob→Prop}
theorem Aj(g:Nat)(L:Int)(hL:∀n:Nat,(n:Int)<L→Cu (CJ (n:Int))=true∧AY (CJ (n:Int))=n∧(CJ (n:Int)).length≤9000)(hq:∀ob,Q (.dat li (CJ (g:Int))) ob):∀(f x y:Nat),y<f→Nat.gcd x y=g→(x:Int)<L→(y:Int)<L→
  Ends kA (L1 (CJ (x:Int)) (CJ (y:Int))) Q
 |0,x,y,h,_,_,_=>by omega
 |f+1,x,y,hy,hg,bx,by'=>by
  obtain⟨nx,vx,lx⟩:=hL x bx;obtain⟨ny,vy,ly⟩:=hL y by'
  refine zl (Ai ..) ?_;conv=>zeta
  by_cases h0:y=0
  ·subst h0;rw[Nat.gcd_zero_right]at hg;subst hg;exact zp rfl (zm (hq _))
  ·have hlt:x % y<y:=Nat.mod_lt _ (by omega);have hl:(CJ (y:Int)).length≠0:=by
    intro h;have:=zz.1 h;rw[this]at vy;simp[AY,ze]at vy;omega
   rw[vx,vy,Rn];refine zc (by simp;omega) (zc (Ak (Ak (Ak (Ak nx ny) (decide_eq_true lx)) (decide_eq_true ly)) (decide_eq_true (by omega))) ?_);exact Aj g L hL hq f y (x % y) (by omega) (by rw[Nat.gcd_comm, ←Nat.gcd_rec,Nat.gcd_comm];exact hg) by' (by omega)
theorem RQ{a:List Int}(h:Cu a=true):a=CJ (AY a)∧0≤AY a:=by
 obtain⟨_,d,z⟩:=EP h;exact⟨KT (by decide) d z,Aw (by decide) d⟩
theorem So(n:Nat)(h:(n:Int)<(zd:Int)^9000):Cu (CJ (n:Int))=true∧AY (CJ (n:Int))=n∧(CJ (n:Int)).length≤9000:=by
 obtain⟨a,_,b,c⟩:=Ke (n:=(n:Int)) (k:=9000) (Int.natCast_nonneg n) h (by decide);exact⟨a,b,c⟩
theorem ok:Ad AR 170 LC:=by
 refine Av (X:=kA) rfl ZI (d:=9) (by kernel_rfl) (by kernel_rfl) (by kernel_rfl) (fun(i:List Int×List Int) hi=>?_) (Ab (by kernel_rfl));obtain⟨a,b⟩:=i;have hi:(Cu a&&Cu b&&decide (a.length≤9000)&&decide (b.length≤9000))=true:=hi;rw[zi,zi,zi,decide_eq_true_eq,decide_eq_true_eq]at hi;obtain⟨⟨⟨na,nb⟩,la9⟩,lb9⟩:=hi;obtain⟨ea,a0⟩:=RQ na;obtain⟨eb,b0⟩:=RQ nb;have la:AY a<(zd:Int)^9000:=zy (Bv (b:=zd) (by decide) (EP na).2.1) (AT (by decide) la9);have lb:AY b<(zd:Int)^9000:=zy (Bv (b:=zd) (by decide) (EP nb).2.1) (AT (by decide) lb9);have key:∀(x y:Nat),AY a=x→AY b=y→Ends kA (L1 a b) (Ae LC (a,b)):=by
  intro x y hx hy;rw[ea,eb,hx,hy];rw[hx]at la;rw[hy]at lb;refine Aj (Nat.gcd x y) _ So (fun ob=>zO rfl rfl ?_) (y+1) x y (Nat.lt_succ_self _) rfl la lb;have e:yp (AY (CJ (x:Int))) (AY (CJ (y:Int)))=((Nat.gcd x y:Nat):Int):=by
   rw[(So x la).2.1,(So y lb).2.1,Iu];rfl
  exact congrArg CJ e.symm
 obtain⟨x,hx⟩:=zK a0;obtain⟨y,hy⟩:=zK b0;exact zI (Ap a b) (key x y hx hy)
end T170
end Go.Pe
end
section
namespace Go.Pe
open Sp
open Go.Det
theorem aM:∀g sp,Um.sp g=some sp→Ad AR g sp:=
 Ac (CR (by kernel_rfl) (Ab (by kernel_rfl))) (Ac (CR (by kernel_rfl) (Ab (by kernel_rfl))) (Ac (CR (by kernel_rfl) (Ab (by kernel_rfl))) (Ac (CR (by kernel_rfl) (Ab (by kernel_rfl))) (fun g sp h=>by cases h))))
theorem Es:∀g sp,Ib.sp g=some sp→Ad AR g sp:=fun g sp h=>by cases h
namespace T218
variable {Q:PV→Ob→Prop}
theorem lD:∀i:Fin 10,(CY.getD i.1 0).toNat<128:=by decide
theorem D2(s:List UInt8)(i:Nat)(o:List Bool)(hi:i<10)(ho:o.length=256)(h:Ends Um (L2 s CY CY ((i+1:Nat):Int) (o.set (CY.getD i 0).toNat true)) Q):Ends Um (L2 s CY CY (i:Int) o) Q:=by
 have hl:CY.length=10:=rfl;have hc:=lD ⟨i,hi⟩;have hc:(CY.getD i 0).toNat<128:=hc;have e:zf .i64 ((i:Int)+1)=((i+1:Nat):Int):=by rw[wr _ (by omega) (by omega)];omega
 refine zl (AN ..) ?_;conv=>zeta
 rw[hl,e,zg,zg];exact zc (decide_eq_true (by omega)) (zc (Ak (decide_eq_true (by omega)) (decide_eq_true (by omega))) (zp (decide_eq_false (by omega)) (zc (Ak (decide_eq_true (show(0:Int)≤((CY.getD i 0).toNat:Int)by omega)) (decide_eq_true (by omega))) (zc (decide_eq_true (by omega)) h))))
def Tb(o:List Bool):Prop:=o.length=256∧∀c:UInt8,o.getD c.toNat false=BK c
theorem BN(s t v0:List UInt8)(v4:Int)(o0:List Bool)(v0':List UInt8)(o1 o0':List Bool)(p1 p0:List Bool)(hT:Tb p1):∀(w:List UInt8),(∀ob,Q (.dat .str (w.dropWhile BK)) ob)→Ends Um (L7 s t v0 v4 o0 v0' o1 o0' w p1 p0) Q
 |[],hq=>zl (Db ..) (zp (by simp) (zm (hq _)))
 |c::r,hq=>by
  have hc:c.toNat<256:=c.toNat_lt;have g0:(c::r).getD 0 0=c:=rfl;have e:(yn 1 (c::r)).take (zU (c::r).length 1)=r:=by show r.take ((r.length+1)-1)=r;rw[zM];exact zA
  refine zl (Db ..) ?_;conv=>zeta
  rw[g0,zg,hT.2,hT.1,e];refine zc (by simp) (zc (by simp) (zc (Ak (decide_eq_true (show(0:Int)≤(c.toNat:Int)by omega)) (decide_eq_true (by omega))) (zc (decide_eq_true hc) (zq (fun d=>?_) (fun d=>zc (by simp) ?_)))))
  ·have d:BK c=false:=by simpa using d
   rw[zJ,if_neg (by rw[d];decide)]at hq;exact zm (hq _)
  ·have d:BK c=true:=by simpa using d
   rw[zJ,if_pos d]at hq;exact BN s t v0 v4 o0 v0' o1 o0' p1 p0 hT r hq
theorem A1(s t v0:List UInt8)(v4:Int)(o0:List Bool)(o1 o0':List Bool)(hT:Tb o1):∀(n:Nat) (w:List UInt8),w.length=n→n≤1000000→(∀ob,Q (.dat .str (((w.reverse.dropWhile BK).reverse).dropWhile BK)) ob)→Ends Um (L4 s t v0 v4 o0 w o1 o0') Q
 |0,w,hl,_,hq=>by
  have:w=[]:=zz.1 hl;subst this;exact zl (BA ..) (zp (by simp) (zl (EF ..) (zp (by simp) (zm (hq _)))))
 |n+1,w,hl,hn,hq=>by
  obtain⟨p,c,rfl⟩:∃p c,w=p++[c]:=by
   have hne:w≠[]:=by rintro rfl;simp at hl
   exact⟨w.dropLast,w.getLast hne,(zY hne).symm⟩
  have hp:p.length=n:=by simpa using hl
  have hc:c.toNat<256:=c.toNat_lt;have e1:zf .i64 (((p++[c]).length:Int)-1)=(n:Int):=by rw[hl,wr _ (by omega) (by omega)];omega
  have g1:(p++[c]).getD n 0=c:=Cp _ _ _ _ hp;have t1:(p++[c]).take n=p:=by rw[←hp];exact List.take_left
  have hr:(p++[c]).reverse=c::p.reverse:=by simp
  rw[hr,zJ]at hq;refine zl (BA ..) (zc (decide_eq_true (by omega)) ?_);rw[e1,zg,g1,t1,zg,hT.2,hT.1,hl];refine zc (by simp;omega) (zc (Ak (decide_eq_true (show(0:Int)≤(c.toNat:Int)by omega)) (decide_eq_true (by omega))) (zc (decide_eq_true hc) (zq (fun d=>?_) (fun d=>zc (by simp) ?_))))
  ·have d:BK c=false:=by simpa using d
   rw[if_neg (by rw[d];decide),List.reverse_cons,List.reverse_reverse]at hq;exact BN s t v0 v4 o0 _ o1 o0' o1 o0' hT (p++[c]) hq
  ·have d:BK c=true:=by simpa using d
   rw[if_pos d]at hq;exact A1 s t v0 v4 o0 o1 o0' hT n p hp (by omega) hq
theorem mV{o:List Bool}(h1:o.length=256)(h2:∀c:Fin 256,o.getD c.1 false=(Nat.ble 48 c.1&&Nat.ble c.1 57)):Tb o:=by
 refine⟨h1,fun c=>?_⟩;have:=h2 ⟨c.toNat,c.toNat_lt⟩;rw[show o.getD c.toNat false=_ from this];unfold BK;rw[Bool.eq_iff_iff];simp[Nat.ble_eq]
set_option maxRecDepth 10000 in
theorem ok:Ad AR 218 TN:=by
 refine Av (X:=Um) rfl aM (d:=9) (by kernel_rfl) (by kernel_rfl) (by kernel_rfl) (fun(i:List UInt8×List UInt8) hi=>?_) (Ab (by kernel_rfl));obtain⟨s,t⟩:=i;have hi:(decide (t=CY)&&decide (s.length≤1000000))=true:=hi;rw[zi,decide_eq_true_eq,decide_eq_true_eq]at hi;obtain⟨rfl,hl⟩:=hi;have hq:∀ob,Ae TN (s,CY) (.dat .str (((s.reverse.dropWhile BK).reverse).dropWhile BK)) ob:=fun ob=>zO rfl rfl rfl
 refine zI (Ap s CY) (zq (fun c=>?_) (fun c=>zp (by decide) (zp (by decide) ?_)))
 ·have c:s=[]:=by simpa using c
  subst c;exact zm (hq _)
 ·refine D2 s 0 _ (by decide) rfl (D2 s 1 _ (by decide) rfl (D2 s 2 _ (by decide) rfl (D2 s 3 _ (by decide) rfl (D2 s 4 _ (by decide) rfl (D2 s 5 _ (by decide) rfl (D2 s 6 _ (by decide) rfl (D2 s 7 _ (by decide) rfl (D2 s 8 _ (by decide) rfl (D2 s 9 _ (by decide) rfl ?_)))))))));refine zl (AN ..) (zp (by decide) (zc (by decide+kernel) (zc (by decide+kernel) (zc (by decide+kernel) (zc rfl (A1 s _ _ _ _ _ _ (mV rfl ?_) s.length s rfl hl hq))))));decide+kernel
end T218
theorem ZP:∀g sp,nV.sp g=some sp→Ad AR g sp:=Ac T218.ok (fun g sp h=>by cases h)
theorem dropWhile_nil{p:UInt8→Bool}:∀ {l:List UInt8},l.dropWhile p=[]↔l.all p=true
 |[]=>by simp
 |a::l=>by
  rw[zJ,zP];cases h:p a with
  |true=>simp only[if_true,zW];exact dropWhile_nil
  |false=>simp
theorem Hr{p:UInt8→Bool}:∀ {l:List UInt8} {a:UInt8} {r:List UInt8},l.dropWhile p=a::r→p a=false
 |[],a,r,h=>by simp at h
 |b::l,a,r,h=>by
  rw[zJ]at h;cases hb:p b with
  |true=>rw[hb,if_pos rfl]at h;exact Hr h
  |false=>
   rw[hb]at h;simp at h;rw[←h.1];exact hb
theorem Kk(s:List UInt8):LL s=[]↔Am s=true:=by
 unfold LL Am;rw[dropWhile_nil,yf];constructor
 ·intro h;cases hd:s.reverse.dropWhile BK with
  |nil=>have:=dropWhile_nil.1 hd;rwa [yf]at this
  |cons a r=>
   rw[hd,zP,Hr hd]at h;cases h
 ·intro h;have:s.reverse.dropWhile BK=[]:=dropWhile_nil.2 (by rwa [yf]);rw[this];rfl
theorem T178.ok:Ad AR 178 Kd:=by
 refine Av (X:=nV) rfl ZP (d:=9) (by kernel_rfl) (by kernel_rfl) (by kernel_rfl) (fun(s:List UInt8) hl=>?_) (Ab (by kernel_rfl));have hl:s.length≤1000000:=of_decide_eq_true hl;have hq:∀v b ob,v=.bl b∨v=.dat .bool b→b=AU s→Ae Kd s v ob:=by
  rintro v b ob (rfl|rfl) hb
  ·exact zO rfl rfl hb
  ·exact zO rfl rfl hb
 refine zI (T178.Ap s) (zq (fun c=>zc ?_ (zq (fun d=>zc ?_ (zq (fun e=>zm (hq _ _ _ (.inl rfl) ?_)) (fun e=>zm (hq _ _ _ (.inr rfl) ?_)))) (fun d=>zm (hq _ _ _ (.inl rfl) ?_)))) (fun c=>zm (hq _ _ _ (.inl rfl) ?_)))
 ·exact Ak (decide_eq_true rfl) (decide_eq_true hl)
 ·have c:s≠[]:=by simpa using c
  have:s.length≠0:=fun h=>c (zz.1 h)
  exact decide_eq_true (by omega)
 ·have c:s≠[]:=by simpa using c
  have d:LL s=[]:=by simpa using d
  have d:=(Kk s).1 d;have e:s.getD 0 0≠48:=by
   intro h;rw[h]at e;exact absurd e (by decide)
  unfold AU;rw[d,decide_eq_true c,decide_eq_true e];rfl
 ·have c:s≠[]:=by simpa using c
  have d:LL s=[]:=by simpa using d
  have d:=(Kk s).1 d;have e:s.getD 0 0=48:=by
   have:((s.getD 0 0).toNat:Int)=48:=by simpa using e
   exact UInt8.toNat_inj.1 (by show _=48;omega)
  unfold AU;rw[d,decide_eq_true c,decide_eq_false (by rw[e];exact fun h=>h rfl)];show(s==[48])=decide (s=[48]);rw[Bool.eq_iff_iff];simp
 ·have d:¬LL s=[]:=by simpa using d
  have d:Am s=false:=by
   cases h:Am s with
   |true=>exact absurd ((Kk s).2 h) d
   |false=>rfl
  unfold AU;rw[d];simp
 ·have c:s=[]:=by simpa using c
  subst c;rfl
theorem T176.ok:Ad AR 176 eH:=by
 refine Av (X:=Ib) rfl Es (d:=9) (by kernel_rfl) (by kernel_rfl) (by kernel_rfl) (fun(i:List UInt8×List UInt8) hi=>?_) (Ab (by kernel_rfl));obtain⟨s,t⟩:=i;have hi:(decide (t=[45])&&decide (s.length≤1000000))=true:=hi;rw[zi,decide_eq_true_eq,decide_eq_true_eq]at hi;obtain⟨rfl,hl⟩:=hi;have hno:s.getD 0 0≠45→(s,false)=(A3 s,Sp.preB s):=fun h=>by
  unfold A3 Sp.preB;rw[if_neg h,decide_eq_false h]
 refine zI (T176.Ap s [45]) ?_;conv=>zeta
 cases s with
 |nil=>exact zp (by decide) (zm (zO rfl rfl (hno (by decide))))
 |cons c r=>
  have ht:(c::r).take 1=[c]:=rfl;refine zc (by simp;omega) (zc (by simp) ?_);show Ends Ib (.ite (!List.take 1 (c::r)==[45]) _ _) _;rw[ht];refine zq (fun d=>zm (zO rfl rfl (hno ?_))) (fun d=>zc (by simp) (zm (zO rfl rfl ?_)))
  ·show c≠45;rintro rfl;exact absurd d (by decide)
  ·have d:c=45:=by simpa using d
   subst d;show(((yn 1 ((45:UInt8)::r)).take (zU ((45:UInt8)::r).length 1)),true)=(A3 (45::r),Sp.preB (45::r));have e:(yn 1 ((45:UInt8)::r)).take (zU ((45:UInt8)::r).length 1)=r:=by show r.take ((r.length+1)-1)=r;rw[zM];exact zA
   rw[e];rfl
end Go.Pe
end
section
namespace Go.Pe
open Sp
open Go.Det
theorem fJ{F:Fz}{s:List UInt8}{c:Int}{args:List V}(h:Kv F (Ag [Sh.str,Sh.int .u8] (s,c)) args):args=[.str s,.int .u8 c]:=by
 have:=h (fun _=>none) 0;simp only[Ag,BY,A8]at this;obtain⟨a,as1,rfl,h1,b,as2,rfl,h2,rfl⟩:=this;simp only[PR,DC,List.cons.injEq,and_true]at h1 h2;rw[h1,h2]
theorem T330.ok:Ad AR 330 eE:=by
 refine .inr ⟨PK.indexByte.run,by kernel_rfl,fun F h args i ha hp=>?_⟩;obtain⟨s,c⟩:=i;have:=fJ ha;subst this;refine⟨RJ (s.findIdx? fun x=>x==c.toNat.toUInt8),rfl,fun ρ N=>?_⟩;show PR F ρ N (.dat i64 (LO s c)) _;unfold LO;cases s.findIdx? fun x=>x==c.toNat.toUInt8 with
 |none=>simp[PR,DC,RJ]
 |some i=>simp[PR,DC,RJ,Det.i64]
theorem aQ:∀g sp,nF.sp g=some sp→Ad AR g sp:=Ac T330.ok (fun g sp h=>by cases h)
theorem S5{p:UInt8→Bool}{s:List UInt8}{i:Nat}(h:s.findIdx? p=some i):i<s.length:=(List.findIdx?_eq_some_iff_getElem.1 h).1
theorem T177.ok:Ad AR 177 Y0:=by
 refine Av (X:=nF) rfl aQ (d:=9) (by kernel_rfl) (by kernel_rfl) (by kernel_rfl) (fun(i:List UInt8×List UInt8) hi=>?_) (Ab (by kernel_rfl));obtain⟨s,t⟩:=i;have hi:(decide (t=[47])&&decide (s.length≤1000000))=true:=hi;rw[zi,decide_eq_true_eq,decide_eq_true_eq]at hi;obtain⟨rfl,hl⟩:=hi;have hany:s.any (fun x=>x==47)=(s.findIdx? fun x=>x==47).isSome:=by
  rw[List.findIdx?_isSome]
 refine zI (T177.Ap s [47]) (zp (by decide) (zq (fun c=>?_) (fun c=>zc (by decide) (zc (by decide) (zc (by decide) ?_)))))
 ·have c:s=[47]:=by
   have:[47]=s:=by simpa using c
   exact this.symm
  subst c;exact zc rfl (zc rfl (zc rfl (zm (zO rfl rfl rfl))))
 ·have ei:LO s (((([47]:List UInt8).getD 0 0).toNat:Nat):Int)=match s.findIdx? (fun x=>x==47)with
   |some i=>(i:Int)
   |none=> -1:=rfl
  cases hf:s.findIdx? (fun x=>x==47)with
  |none=>
   rw[hf]at ei;have ei:LO s (((([47]:List UInt8).getD 0 0).toNat:Nat):Int)= -1:=ei;rw[ei];refine zp (by decide) (zm (zO rfl rfl ?_));show(s,[],false)=(Ay s,yq s,Bz s);unfold Ay yq Bz;rw[hany,hf];rfl
  |some k=>
   rw[hf]at ei;have ei:LO s (((([47]:List UInt8).getD 0 0).toNat:Nat):Int)=(k:Int):=ei;have hk:=S5 hf;have e1:zf .i64 ((k:Int)+(([47]:List UInt8).length:Int))=((k+1:Nat):Int):=by
    show zf .i64 ((k:Int)+1)=_;rw[wr _ (by omega) (by omega)];omega
   rw[ei,e1,zg,zg];refine zc (by simp) (zc (by simp;omega) (zc (by simp;omega) (zm (zO rfl rfl ?_))));show(s.take k,(s.drop (k+1)).take (zU s.length (k+1)),true)=(Ay s,yq s,Bz s);unfold Ay yq Bz;have e2:(s.drop (k+1)).take (zU s.length (k+1))=s.drop (k+1):=zj (by rw[zk];exact zR _);rw[hany,hf,e2];rfl
end Go.Pe
end
section
namespace Go.Pe
open Sp
open Go.Det
namespace T263
theorem Aj{Q:PV→Ob→Prop}(s:List UInt8)(hs:Am s=true)(hl:s.length≤18)(hq:∀ob,Q (.dat i64 (AA 0 s)) ob):∀(r:List UInt8) (i:Nat),s.drop i=r→i≤s.length→Ends VM (L1 s (AA 0 (s.take i)) i) Q
 |[],i,h,hi=>by
  have he:i=s.length:=drop_nil h hi;subst he;rw[zA];exact zl (Ai ..) (zp (by simp) (zm (hq _)))
 |c::r,i,h,hi=>by
  obtain⟨h1,h2,h3⟩:=drop_cons (d:=0) h;have hb:=Bo (A4 hs i);have hlen:(s.take i).length=i:=by rw[zn];omega
  rw[hlen]at hb;have hp:(10:Int)^i≤10^17:=AT (by decide) (by omega);have hc:BK c=true:=by
   unfold Am at hs;rw[zS]at hs;exact hs c (CO h)
  have hd:=De hc;have hc0:48≤c.toNat∧c.toNat≤57:=by unfold NJ at hd;omega
  have e1:zf .i64 (c.toNat:Int)=(c.toNat:Int):=wr _ (by omega) (by omega);have hp17:(10:Int)^17=100000000000000000:=by decide
  have e2:zf .i64 (zf .i64 (zf .i64 (10*AA 0 (s.take i))+(c.toNat:Int))-48)=AA 0 (s.take (i+1)):=by
   rw[Bt h,Dx];show _=10*AA 0 (s.take i)+((c.toNat:Int)-48);generalize AA 0 (s.take i)=D at*;rw[wr (10*D) (by omega) (by omega),wr (10*D+(c.toNat:Int)) (by omega) (by omega),wr _ (by omega) (by omega)];omega
  have e3:zf .i64 ((i:Int)+1)=((i+1:Nat):Int):=by rw[wr _ (by omega) (by omega)];omega
  refine zl (Ai ..) (zc (by simp;omega) ?_);rw[zg,h2,e1,e2,e3];exact zc (by simp;omega) (Aj s hs hl hq r (i+1) h3 h1)
theorem ok:Ad AR 263 PW:=by
 refine Av (X:=VM) rfl Qc (d:=9) (by kernel_rfl) (by kernel_rfl) (by kernel_rfl) (fun(s:List UInt8) hs=>?_) (Ab (by kernel_rfl));have hs:(decide (s.length≤18)&&Am s)=true:=hs;rw[zi,decide_eq_true_eq]at hs;exact zI (Ap s) (Aj s hs.2 hs.1 (fun ob=>zO rfl rfl rfl) s 0 rfl (yd _))
end T263
theorem ZJ:∀g sp,VS.sp g=some sp→Ad AR g sp:=Ac T263.ok (Ac T264.ok (fun g sp h=>by cases h))
theorem OA{neg:Bool}{w:List Int}{D:Int}(hd:At zd w)(hv:ze zd w=D):(Ew neg w,Az w)=(Sp.rN (if neg=true then -D else D),Sp.rW (if neg=true then -D else D)):=by
 have h0:=Aw (b:=zd) (by decide) hd;rw[hv]at h0;have hw:Az w=CJ D:=by rw[FL hd];show CJ (ze zd w)=_;rw[hv]
 have hnil:CJ D=[]↔D=0:=fD (by decide) h0;have ea:Ah (if neg=true then -D else D)=D:=by rw[Ar];split<;>omega
 unfold Ew Sp.rW Sp.rN;rw[ea,hw];congr 1;cases neg with
 |false=>simp;omega
 |true=>
  simp only[if_true,zW,ne_eq,hnil,decide_eq_decide];omega
end Go.Pe
namespace Go.Pe
open Sp
open Go.Det
namespace T207
variable {Q:PV→Ob→Prop}
theorem lN:(10:Int)^9=1000000000:=by decide
theorem HP{s:List UInt8}{m:Nat}(hm:m+9=s.length):AA 0 s=AA 0 (s.take m)*1000000000+AA 0 (s.drop m):=by
 conv=>lhs;rw[←zG m s]
 rw[Dx,DZ (s.drop m),zk,show s.length-m=9 by omega,lN]
theorem BO{s:List UInt8}(hs:Am s=true)(h:s.length≤9):0≤AA 0 s∧AA 0 s<1000000000:=by
 have:=Bo hs;have h2:(10:Int)^s.length≤10^9:=AT (by decide) h;rw[lN]at h2;omega
theorem BM{s:List UInt8}(hs:Am s=true)(h:s.length≤18):Dr s=true:=by
 unfold Dr;rw[hs,Bool.and_true];exact decide_eq_true h
theorem Bb(neg:Bool)(D:Int)(hq:∀(w:List Int) ob,At zd w→ze zd w=D→Q (.agg [.dat .bool (Ew neg w),.dat li (Az w)]) ob):∀(f:Nat) (s:List UInt8) (o1:List Int),s.length≤f→Am s=true→o1.length+s.length≤1500→At zd o1→ze zd o1+(zd:Int)^o1.length*AA 0 s=D→Ends VS (L3 s neg o1.length o1) Q:=by
 intro f;induction f with
 |zero=>
  intro s o1 hf hs hl hd he;have h9:s.length≤9:=by omega
  have hv:=BO hs h9;have ht:(o1++[Bh s]).take (yx o1.length 1)=o1++[Bh s]:=zj (by simp);refine zl (Bk ..) (zp (by simp;omega) (zc (BM hs (by omega)) (zc (by simp;omega) ?_)));rw[ht];refine zc (by simp;omega) (zm (hq _ _ (Fb hd hv) ?_));rw[CB];exact he
 |succ f ih=>
  intro s o1 hf hs hl hd he;by_cases h9:s.length≤9
  ·have hv:=BO hs h9;have ht:(o1++[Bh s]).take (yx o1.length 1)=o1++[Bh s]:=zj (by simp);refine zl (Bk ..) (zp (by simp;omega) (zc (BM hs (by omega)) (zc (by simp;omega) ?_)));rw[ht];refine zc (by simp;omega) (zm (hq _ _ (Fb hd hv) ?_));rw[CB];exact he
  ·obtain⟨m,hm⟩:∃m,m+9=s.length:=⟨s.length-9,by omega⟩;have e1:zf .i64 ((s.length:Int)-9)=(m:Int):=by rw[wr _ (by omega) (by omega)];omega
   have e2:(s.drop m).take (zU s.length m)=s.drop m:=zj (by rw[zk];exact zR _);have hv:=BO (BH hs m) (by rw[zk];omega);refine zl (Bk ..) (zc (by simp;omega) ?_);rw[e1,zg,e2];refine zc (by simp;omega) (zc (BM (BH hs m) (by rw[zk];omega)) (zc (by simp;omega) (zc (by simp;omega) ?_)));have:=ih (s.take m) (o1++[Bh (s.drop m)]) (by rw[zn];omega) (A4 hs m) (by simp;omega) (Fb hd hv) (by
    rw[CB,zF];show ze zd o1+(zd:Int)^o1.length*AA 0 (s.drop m)+(zd:Int)^(o1.length+1)*AA 0 (s.take m)=D;rw[NG,yo, ←zx, ←he,HP hm];congr 2;omega)
   rw[zF]at this;exact this
theorem A1(D:Int)(hq:∀(w:List Int) ob,At zd w→ze zd w=D→Q (.agg [.dat .bool (Ew false w),.dat li (Az w)]) ob):∀(f:Nat) (s:List UInt8) (o1:List Int),s.length≤f→Am s=true→o1.length+s.length≤1500→At zd o1→ze zd o1+(zd:Int)^o1.length*AA 0 s=D→Ends VS (L4 s o1.length o1) Q:=by
 intro f;induction f with
 |zero=>
  intro s o1 hf hs hl hd he;have h9:s.length≤9:=by omega
  have hv:=BO hs h9;have ht:(o1++[Bh s]).take (yx o1.length 1)=o1++[Bh s]:=zj (by simp);refine zl (BA ..) (zp (by simp;omega) (zc (BM hs (by omega)) (zc (by simp;omega) ?_)));rw[ht];refine zc (by simp;omega) (zm (hq _ _ (Fb hd hv) ?_));rw[CB];exact he
 |succ f ih=>
  intro s o1 hf hs hl hd he;by_cases h9:s.length≤9
  ·have hv:=BO hs h9;have ht:(o1++[Bh s]).take (yx o1.length 1)=o1++[Bh s]:=zj (by simp);refine zl (BA ..) (zp (by simp;omega) (zc (BM hs (by omega)) (zc (by simp;omega) ?_)));rw[ht];refine zc (by simp;omega) (zm (hq _ _ (Fb hd hv) ?_));rw[CB];exact he
  ·obtain⟨m,hm⟩:∃m,m+9=s.length:=⟨s.length-9,by omega⟩;have e1:zf .i64 ((s.length:Int)-9)=(m:Int):=by rw[wr _ (by omega) (by omega)];omega
   have e2:(s.drop m).take (zU s.length m)=s.drop m:=zj (by rw[zk];exact zR _);have hv:=BO (BH hs m) (by rw[zk];omega);refine zl (BA ..) (zc (by simp;omega) ?_);rw[e1,zg,e2];refine zc (by simp;omega) (zc (BM (BH hs m) (by rw[zk];omega)) (zc (by simp;omega) (zc (by simp;omega) ?_)));have:=ih (s.take m) (o1++[Bh (s.drop m)]) (by rw[zn];omega) (A4 hs m) (by simp;omega) (Fb hd hv) (by
    rw[CB,zF];show ze zd o1+(zd:Int)^o1.length*AA 0 (s.drop m)+(zd:Int)^(o1.length+1)*AA 0 (s.take m)=D;rw[NG,yo, ←zx, ←he,HP hm];congr 2;omega)
   rw[zF]at this;exact this
theorem Aj(neg:Bool)(s:List UInt8)(hs:Am s=true)(hl:s.length≤1499)(hq:∀(w:List Int) ob,At zd w→ze zd w=AA 0 s→Q (.agg [.dat .bool (Ew neg w),.dat li (Az w)]) ob):Ends VS (L1 s neg) Q:=by
 by_cases h9:s.length≤9
 ·have hv:=BO hs h9;refine zl (Ai ..) (zp (by simp;omega) (zc (BM hs (by omega)) (zc rfl (zc rfl (zm (hq _ _ (Fb (l:=[]) (fun x hx=>by cases hx) hv) ?_))))));show ze zd [AA 0 s]=_;exact DP _
 ·obtain⟨m,hm⟩:∃m,m+9=s.length:=⟨s.length-9,by omega⟩;have e1:zf .i64 ((s.length:Int)-9)=(m:Int):=by rw[wr _ (by omega) (by omega)];omega
  have e2:(s.drop m).take (zU s.length m)=s.drop m:=zj (by rw[zk];exact zR _);have hv:=BO (BH hs m) (by rw[zk];omega);refine zl (Ai ..) (zc (by simp;omega) ?_);rw[e1,zg,e2];refine zc (by simp;omega) (zc (BM (BH hs m) (by rw[zk];omega)) (zc rfl (zc (by simp;omega) ?_)));refine Bb neg (AA 0 s) hq m (s.take m) [Bh (s.drop m)] (by rw[zn];omega) (A4 hs m) (by simp;omega) (Fb (l:=[]) (fun x hx=>by cases hx) hv) ?_;rw[DP,HP hm];show AA 0 (s.drop m)+(zd:Int)^1*_=_;rw[zL,yv,zX,zD];exact Int.add_comm _ _
theorem AL(s:List UInt8)(hs:Am s=true)(hl:s.length≤1499)(hq:∀(w:List Int) ob,At zd w→ze zd w=AA 0 s→Q (.agg [.dat .bool (Ew false w),.dat li (Az w)]) ob):Ends VS (L2 s) Q:=by
 by_cases h9:s.length≤9
 ·have hv:=BO hs h9;refine zl (AN ..) (zp (by simp;omega) (zc (BM hs (by omega)) (zc rfl (zc rfl (zm (hq _ _ (Fb (l:=[]) (fun x hx=>by cases hx) hv) ?_))))));show ze zd [AA 0 s]=_;exact DP _
 ·obtain⟨m,hm⟩:∃m,m+9=s.length:=⟨s.length-9,by omega⟩;have e1:zf .i64 ((s.length:Int)-9)=(m:Int):=by rw[wr _ (by omega) (by omega)];omega
  have e2:(s.drop m).take (zU s.length m)=s.drop m:=zj (by rw[zk];exact zR _);have hv:=BO (BH hs m) (by rw[zk];omega);refine zl (AN ..) (zc (by simp;omega) ?_);rw[e1,zg,e2];refine zc (by simp;omega) (zc (BM (BH hs m) (by rw[zk];omega)) (zc rfl (zc (by simp;omega) ?_)));refine A1 (AA 0 s) hq m (s.take m) [Bh (s.drop m)] (by rw[zn];omega) (A4 hs m) (by simp;omega) (Fb (l:=[]) (fun x hx=>by cases hx) hv) ?_;rw[DP,HP hm];show AA 0 (s.drop m)+(zd:Int)^1*_=_;rw[zL,yv,zX,zD];exact Int.add_comm _ _
theorem ok:Ad AR 207 Qj:=by
 refine Av (X:=VS) rfl ZJ (d:=9) (by kernel_rfl) (by kernel_rfl) (by kernel_rfl) (fun(s:List UInt8) hs=>?_) (Ab (by kernel_rfl));have hs:(decide (s.length≤1499)&&(if s.getD 0 0=45 then Am (s.drop 1)else Am s))=true:=hs;rw[zi,decide_eq_true_eq]at hs;obtain⟨hl,hs⟩:=hs;have fin:∀(neg:Bool) (D:Int),CG s=(if neg=true then -D else D)→∀(w:List Int) ob,At zd w→ze zd w=D→Ae Qj s (.agg [.dat .bool (Ew neg w),.dat li (Az w)]) ob:=by
  intro neg D hr w ob hd hv;refine zO rfl rfl ?_;show(Ew neg w,Az w)=(Sp.rN (CG s),Sp.rW (CG s));rw[hr];exact OA hd hv
 refine zI (Ap s) ?_;conv=>zeta
 cases s with
 |nil=>exact zp (by decide) (AL [] rfl (by decide) (fin false 0 rfl))
 |cons c r=>
  have g0:(c::r).getD 0 0=c:=rfl;rw[g0]at hs;rw[g0];refine zc (by simp) (zc (by simp) (zq (fun d=>?_) (fun d=>?_)))
  ·have hc:c=45:=by
    have:(c.toNat:Int)=45:=by simpa using d
    exact UInt8.toNat_inj.1 (by show _=45;omega)
   rw[if_pos hc]at hs;have e:(yn 1 (c::r)).take (zU (c::r).length 1)=r:=by show r.take ((r.length+1)-1)=r;rw[zM];exact zA
   rw[d,e];refine zc (by simp) (Aj true r hs (by simp at hl;omega) (fin true _ ?_));unfold CG;rw[g0,if_pos hc,if_pos rfl];rfl
  ·have hc:c≠45:=by
    rintro rfl;exact absurd d (by decide)
   rw[if_neg hc]at hs;rw[d];refine Aj false (c::r) hs hl (fin false _ ?_);unfold CG;rw[g0,if_neg hc,if_neg (by decide)]
end T207
end Go.Pe
end
section
namespace Go.Pe
open Sp
open Go.Det
theorem Z6:∀g sp,NT.sp g=some sp→Ad AR g sp:=
 Ac T184n.ok (Ac T225.ok (Ac T186.ok (Ac T226.ok (Ac T227.ok (Ac (CR (by kernel_rfl) (Ab (by kernel_rfl))) (Ac (CR (by kernel_rfl) (Ab (by kernel_rfl))) (fun g sp h=>by cases h)))))))
theorem Py(k:Nat):BE 18 (k:Int)=((min 18 k:Nat):Int):=by unfold BE;split<;>omega
theorem dS(n:Int):zf .u8 n=n % 256:=by simp[zf,IntKind.bits,IntKind.signed]
theorem fO(k:Nat):(10:Int)^k≤(An:Int)^k:=by
 induction k with
 |zero=>exact ym _
 |succ k ih=>
  rw[zL,zL];have h1:=zr ih (show(0:Int)≤10 by decide);have h2:=zh (show(10:Int)≤(An:Int)by decide) (zt (AP (b:=An) (by decide) k));exact Int.le_trans h1 h2
theorem Fg{n:Int}(h0:0≤n)(h:n<(10:Int)^(1500:Nat)):BR (Cr n)=true:=by
 refine F7 ?_;have h1:=fO 1500;have h2:(An:Int)^1500≤(An:Int)^9000:=AT (by decide) (by decide);have h3:Ah n=n:=by rw[Ar];omega
 rw[h3];exact zy h (Int.le_trans h1 h2)
theorem Ll(m n:Int):GL (Ch m,Cf m) (Ch n,Cf n)=Ch (m*n)∧GI (Ch m,Cf m) (Ch n,Cf n)=Cf (m*n):=by
 constructor
 ·show Ch (yj (Cr _)*yj (Cr _))=_;rw[Cx,Cx]
 ·show Cf (yj (Cr _)*yj (Cr _))=_;rw[Cx,Cx]
theorem Zt{a b:Bl}(h:0≤yj a+yj b):Gz a b=Cr (yj a+yj b):=by
 unfold Gz;split
 ·next c=>
  have:=E6 c.2.2;rw[BI c.1,BI c.2.1]at h ⊢;exact(BP (by omega)).symm
 ·rfl
theorem Lz{m v:Int}(hm:0≤m)(hv:0≤v):Kq (Ch m,Cf m) (v,DE v)=Ch (m+v)∧Kx (Ch m,Cf m) (v,DE v)=Cf (m+v):=by
 have e1:yj (Ch m,Cf m)=m:=Cx m;have e2:yj (v,DE v)=v:=by rw[CH,En]
 have:=Zt (a:=(Ch m,Cf m)) (b:=(v,DE v)) (by rw[e1,e2];omega);rw[e1,e2]at this;exact⟨congrArg Prod.fst this,congrArg Prod.snd this⟩
theorem Lj(n:Nat):R3 ((10:Int),DE (10:Int)) (n:Int)=Ch (10^n)∧R2 ((10:Int),DE (10:Int)) (n:Int)=Cf (10^n):=by
 have e:Sp.pI (yj ((10:Int),DE (10:Int))) (n:Int)=10^n:=by rw[QD,CH,En,zg]
 unfold R3 R2;rw[e];exact⟨rfl,rfl⟩
theorem Yk:BR ((10:Int),DE (10:Int))=true:=by rw[CH];decide
theorem YU{n:Nat}(h:n≤18):W8 (yj ((10:Int),DE (10:Int))) (n:Int)=true:=by
 unfold W8;have e:Sp.pI (yj ((10:Int),DE (10:Int))) (n:Int)=10^n:=by rw[QD,CH,En,zg]
 rw[e];have h1:(10:Int)^n≤10^18:=AT (by decide) h;have h0:(0:Int)<10^n:=AP (by decide) n;have h2:(10:Int)^18<18446744073709551616^1:=by decide
 have h3:(18446744073709551616:Int)^(1:Nat)≤18446744073709551616^(4000:Nat):=AT (by decide) (by decide);have h4:Ah ((10:Int)^n)=10^n:=by rw[Ar];omega
 rw[h4];exact Ak (Ak (decide_eq_true (by omega)) (decide_eq_true (by omega))) (decide_eq_true (zN h1 (zy h2 h3)))
theorem Ru{v:Int}(h0:0≤v)(h:v<1000000000000000000):BR (v,DE v)=true:=by
 rw[CH];unfold BR;exact Ak (Lw (Fl (by omega) (by omega))) (decide_eq_true (yd _))
theorem Uo{w:List UInt8}(hs:Am w=true)(h:w.length≤18):0≤AA 0 w∧AA 0 w<1000000000000000000:=by
 have:=Bo hs;have h2:(10:Int)^w.length≤10^18:=AT (by decide) h;have h3:(10:Int)^18=1000000000000000000:=by decide
 omega
namespace T182
variable {Q:PV→Ob→Prop}
theorem BN(W:List UInt8)(neg:Bool)(b1:Int)(b1w:List Int)(b0:Int)(w:List UInt8)(n:Nat)(hw:w=W.take n)(hW:Am W=true)(hn:n=min 18 W.length)(h1:1≤W.length)(a o0':Int)(a0:0≤a)(hj:BR (Cr a)=true)(hj2:BR (Cr (a*10^n))=true)
  (hgo:Ends NT (L5 (W.drop n) neg (Ch (a*10^n+AA 0 w)) (Cf (a*10^n+AA 0 w)) o0') Q):
  ∀(r:List UInt8) (j:Nat),w.drop j=r→j≤w.length→Ends NT (L7 W neg b1 b1w b0 w (AA 0 (w.take j)) w.length w.length j (w.map fun b=>(b.toNat:Int)) (Ch a) (Cf a) o0') Q
 |[],j,hr,hjw=>by
  have hdw:Am w=true:=by rw[hw];exact A4 hW n
  have hwl:w.length=n:=by rw[hw,zn];omega
  have he:j=w.length:=drop_nil hr hjw;subst he;have hv:=Uo hdw (by omega);obtain⟨c,t,hc⟩:∃c t,w=c::t:=by
   cases w with
   |nil=>simp at hwl;omega
   |cons c t=>exact⟨c,t,rfl⟩
  have hc0:((((w.getD 0 0).toNat:Int)==(45:Int))=false):=by
   rw[hc]at hdw ⊢;unfold Am at hdw;rw[zP,zi]at hdw;have:=De hdw.1;unfold NJ at this;show(((c.toNat:Int)==(45:Int))=false);simp;omega
  have ht:(W.drop n).take (zU W.length n)=W.drop n:=zj (by rw[zk];exact zR _);have p0:0≤a*10^n:=zB a0 (zt (AP (by decide) n));have jp:BR (Ch (10^n),Cf (10^n))=true:=by
   refine Hn (Fg (n:=(10:Int)^n) (zt (AP (by decide) n)) ?_);have x1:(10:Int)^n≤10^18:=AT (by decide) (by omega);have x2:(10:Int)^18<10^19:=by decide
   have x3:(10:Int)^19≤10^(1500:Nat):=AT (by decide) (by decide);exact zN x1 (zy x2 x3)
  refine zl (Db ..) (zp (by simp) (zc (decide_eq_true (by omega)) ?_));rw[hc0,Py, ←hn,(Lj n).1,(Lj n).2,zA];refine zp rfl (zc rfl (zc (Ak Yk (YU (by omega))) (zc (Ak hj jp) (zc rfl ?_))));rw[(Ll _ _).1,(Ll _ _).2,(Lz p0 hv.1).1,(Lz p0 hv.1).2,zg,ht];exact zc (Ak hj2 (Ru hv.1 hv.2)) (zc (by simp;omega) hgo)
 |c::r,j,hr,hjw=>by
  have hdw:Am w=true:=by rw[hw];exact A4 hW n
  have hwl:w.length=n:=by rw[hw,zn];omega
  obtain⟨g1,g2,g3⟩:=drop_cons (d:=0) hr;have hcd:BK c=true:=by
   unfold Am at hdw;rw[zS]at hdw;exact hdw c (CO hr)
  have hd:=De hcd;have hlt:(w.take j).length=j:=by rw[zn];omega
  have hb:=Bo (A4 hdw j);rw[hlt]at hb;have hp:(10:Int)^j≤10^17:=AT (by decide) (by omega);have hp17:(10:Int)^17=100000000000000000:=by decide
  have gm:(w.map fun b=>(b.toNat:Int)).getD j 0=(c.toNat:Int):=by
   rw[zu,List.getElem?_map,zE g1];have:w[j]=c:=by rw[←g2,zu,zE g1];rfl
   rw[this];rfl
  have e8:zf .u8 ((c.toNat:Int)-48)=NJ c:=by
   rw[dS];unfold NJ at hd ⊢;omega
  have e2:zf .i64 (zf .i64 (AA 0 (w.take j)*10)+zf .i64 (NJ c))=AA 0 (w.take (j+1)):=by
   rw[Bt hr,Dx];show _=10*AA 0 (w.take j)+NJ c;generalize AA 0 (w.take j)=D at*;rw[wr (D*10) (by omega) (by omega),wr (NJ c) (by omega) (by omega),wr _ (by omega) (by omega)];omega
  have e3:zf .i64 ((j:Int)+1)=((j+1:Nat):Int):=by rw[wr _ (by omega) (by omega)];omega
  refine zl (Db ..) (zc (by simp;omega) ?_);rw[zg,gm,e8,e2,e3];refine zc (by simp;omega) (zc (by simp;omega) (zp (decide_eq_false (by omega)) ?_));exact BN W neg b1 b1w b0 w n hw hW hn h1 a o0' a0 hj hj2 hgo r (j+1) g3 g1
theorem Bb(W:List UInt8)(neg:Bool)(b1:Int)(b0:Int)(w:List UInt8)(n:Nat)(hw:w=W.take n)(hW:Am W=true)(hn:n=min 18 W.length)(h1:1≤W.length)(a o0':Int)(ha:a=0)(a0:0≤a)(hj:BR (Cr a)=true)(hj2:BR (Cr (a*10^n))=true)
  (hgo:Ends NT (L5 (W.drop n) neg (Ch (a*10^n+AA 0 w)) (Cf (a*10^n+AA 0 w)) o0') Q):
  ∀(r:List UInt8) (j:Nat),w.drop j=r→j≤w.length→Ends NT (L3 W neg b1 b0 w (AA 0 (w.take j)) w.length w.length j (w.map fun b=>(b.toNat:Int)) 0 o0') Q
 |[],j,hr,hjw=>by
  have hdw:Am w=true:=by rw[hw];exact A4 hW n
  have hwl:w.length=n:=by rw[hw,zn];omega
  have he:j=w.length:=drop_nil hr hjw;subst he;have hv:=Uo hdw (by omega);obtain⟨c,t,hc⟩:∃c t,w=c::t:=by
   cases w with
   |nil=>simp at hwl;omega
   |cons c t=>exact⟨c,t,rfl⟩
  have hc0:((((w.getD 0 0).toNat:Int)==(45:Int))=false):=by
   rw[hc]at hdw ⊢;unfold Am at hdw;rw[zP,zi]at hdw;have:=De hdw.1;unfold NJ at this;show(((c.toNat:Int)==(45:Int))=false);simp;omega
  have ht:(W.drop n).take (zU W.length n)=W.drop n:=zj (by rw[zk];exact zR _);have p0:0≤a*10^n:=zB a0 (zt (AP (by decide) n));have jp:BR (Ch (10^n),Cf (10^n))=true:=by
   refine Hn (Fg (n:=(10:Int)^n) (zt (AP (by decide) n)) ?_);have x1:(10:Int)^n≤10^18:=AT (by decide) (by omega);have x2:(10:Int)^18<10^19:=by decide
   have x3:(10:Int)^19≤10^(1500:Nat):=AT (by decide) (by decide);exact zN x1 (zy x2 x3)
  refine zl (Bk ..) (zp (by simp) (zc (decide_eq_true (by omega)) ?_));rw[hc0,Py, ←hn,(Lj n).1,(Lj n).2,zA];refine zp rfl (zc rfl (zc (Ak Yk (YU (by omega))) (zc (Ak (show BR ((0:Int),[])=true by decide) jp) (zc rfl ?_))));rw[show GL ((0:Int),[]) (Ch (10^n),Cf (10^n))=Ch (a*10^n)by rw[ha];exact(Ll 0 _).1,show GI ((0:Int),[]) (Ch (10^n),Cf (10^n))=Cf (a*10^n)by rw[ha];exact(Ll 0 _).2,(Lz p0 hv.1).1,(Lz p0 hv.1).2,zg,ht];exact zc (Ak hj2 (Ru hv.1 hv.2)) (zc (by simp;omega) hgo)
 |c::r,j,hr,hjw=>by
  have hdw:Am w=true:=by rw[hw];exact A4 hW n
  have hwl:w.length=n:=by rw[hw,zn];omega
  obtain⟨g1,g2,g3⟩:=drop_cons (d:=0) hr;have hcd:BK c=true:=by
   unfold Am at hdw;rw[zS]at hdw;exact hdw c (CO hr)
  have hd:=De hcd;have hlt:(w.take j).length=j:=by rw[zn];omega
  have hb:=Bo (A4 hdw j);rw[hlt]at hb;have hp:(10:Int)^j≤10^17:=AT (by decide) (by omega);have hp17:(10:Int)^17=100000000000000000:=by decide
  have gm:(w.map fun b=>(b.toNat:Int)).getD j 0=(c.toNat:Int):=by
   rw[zu,List.getElem?_map,zE g1];have:w[j]=c:=by rw[←g2,zu,zE g1];rfl
   rw[this];rfl
  have e8:zf .u8 ((c.toNat:Int)-48)=NJ c:=by
   rw[dS];unfold NJ at hd ⊢;omega
  have e2:zf .i64 (zf .i64 (AA 0 (w.take j)*10)+zf .i64 (NJ c))=AA 0 (w.take (j+1)):=by
   rw[Bt hr,Dx];show _=10*AA 0 (w.take j)+NJ c;generalize AA 0 (w.take j)=D at*;rw[wr (D*10) (by omega) (by omega),wr (NJ c) (by omega) (by omega),wr _ (by omega) (by omega)];omega
  have e3:zf .i64 ((j:Int)+1)=((j+1:Nat):Int):=by rw[wr _ (by omega) (by omega)];omega
  refine zl (Bk ..) (zc (by simp;omega) ?_);rw[zg,gm,e8,e2,e3];refine zc (by simp;omega) (zc (by simp;omega) (zp (decide_eq_false (by omega)) ?_));exact Bb W neg b1 b0 w n hw hW hn h1 a o0' ha a0 hj hj2 hgo r (j+1) g3 g1
theorem cN(W:List UInt8)(neg:Bool)(o1:Int)(o1w:List Int)(o0:Int)(hW:Am W=true)(h1:1≤W.length)(n:Nat)(hn:n=min 18 W.length)
  (h:Ends NT (L7 W neg o1 o1w o0 (W.take n) 0 (W.take n).length (W.take n).length 0 ((W.take n).map fun b=>(b.toNat:Int)) o1 o1w o0) Q):Ends NT (L5 W neg o1 o1w o0) Q:=by
 have hwl:(W.take n).length=n:=by rw[zn];omega
 have hdw:=A4 hW n;have hc:((((W.take n).getD 0 0).toNat:Int)==(45:Int))=false∧((((W.take n).getD 0 0).toNat:Int)==(43:Int))=false:=by
  cases hq:W.take n with
  |nil=>rw[hq]at hwl;simp at hwl;omega
  |cons c t=>
   rw[hq]at hdw;unfold Am at hdw;rw[zP,zi]at hdw;have:=De hdw.1;unfold NJ at this;show(((c.toNat:Int)==(45:Int))=false)∧(((c.toNat:Int)==(43:Int))=false);constructor<;>(simp;omega)
 refine zl (CF ..) (zc (by simp;omega) ?_);rw[Py, ←hn,zg,hc.1,hc.2];exact zc (by simp;omega) (zc (decide_eq_true (by omega)) (zc (decide_eq_true (by omega)) (zc (decide_eq_true (by omega)) (zp rfl (zc (decide_eq_true (by omega)) (zp rfl h))))))
theorem cT(W:List UInt8)(neg:Bool)(o1:Int)(o0:Int)(hW:Am W=true)(h1:1≤W.length)(n:Nat)(hn:n=min 18 W.length)
  (h:Ends NT (L3 W neg o1 o0 (W.take n) 0 (W.take n).length (W.take n).length 0 ((W.take n).map fun b=>(b.toNat:Int)) o1 o0) Q):Ends NT (L1 W neg o1 o0) Q:=by
 have hwl:(W.take n).length=n:=by rw[zn];omega
 have hdw:=A4 hW n;have hc:((((W.take n).getD 0 0).toNat:Int)==(45:Int))=false∧((((W.take n).getD 0 0).toNat:Int)==(43:Int))=false:=by
  cases hq:W.take n with
  |nil=>rw[hq]at hwl;simp at hwl;omega
  |cons c t=>
   rw[hq]at hdw;unfold Am at hdw;rw[zP,zi]at hdw;have:=De hdw.1;unfold NJ at this;show(((c.toNat:Int)==(45:Int))=false)∧(((c.toNat:Int)==(43:Int))=false);constructor<;>(simp;omega)
 refine zl (Ai ..) (zc (by simp;omega) ?_);rw[Py, ←hn,zg,hc.1,hc.2];exact zc (by simp;omega) (zc (decide_eq_true (by omega)) (zc (decide_eq_true (by omega)) (zc (decide_eq_true (by omega)) (zp rfl (zc (decide_eq_true (by omega)) (zp rfl h))))))
theorem jP(n:Int)(h:0≤n):(Hs (Ch n,Cf n),HC (Ch n,Cf n))=Cr (-n):=by
 show E3 (Cr n)=_;unfold E3;split
 ·next c=>
  have:=Cx n;rw[BI c.1]at this;rw[this,BP (n:= -n)];by_cases hb: -9223372036854775808<n∧n<9223372036854775808
  ·omega
  ·exfalso;have e:Cr n=(1,BL (Ah n)):=by unfold Cr;rw[if_neg hb,if_neg (by omega)]
   rw[e]at this;have:(1:Int)=n:=this;omega
 ·rw[Cx]
theorem TT{a D:Int}{W:List UInt8}{n:Nat}(ha:0≤a)(hW:Am W=true)(hn:n≤W.length)(hD:a*10^W.length+AA 0 W=D):(a*10^n+AA 0 (W.take n))*10^(W.drop n).length+AA 0 (W.drop n)=D∧a≤D∧a*10^n≤D:=by
 have hs:AA 0 W=AA 0 (W.take n)*10^(W.drop n).length+AA 0 (W.drop n):=by
  conv=>lhs;rw[←zG n W]
  rw[Dx,DZ]
 have hl:W.length=n+(W.drop n).length:=by rw[zk];omega
 have hp:(10:Int)^W.length=10^n*10^(W.drop n).length:=by rw[←Int.pow_add, ←hl]
 have hb:=(Bo hW).1;have e1:a*10^W.length=a*10^n*10^(W.drop n).length:=by rw[hp,zH]
 have one:∀k:Nat,(1:Int)≤10^k:=fun k=>by have:=AP (show(0:Int)<10 by decide) k;omega
 have l1:a≤a*10^W.length:=by have:=zh (one W.length) ha;omega
 have l2:a*10^n≤a*10^n*10^(W.drop n).length:=by
  have:=zh (one (W.drop n).length) (zB ha (show(0:Int)≤10^n by have:=one n;omega));omega
 refine⟨?_,by omega,by omega⟩;rw[yk, ←e1];omega
theorem BF(neg:Bool)(o0 D:Int)(hD1:D<(10:Int)^(1500:Nat))(hq:∀ob,Q (.agg [.dat i64 (Ch (if neg=true then -D else D)),.dat (.nlist u64) (Cf (if neg=true then -D else D))]) ob):∀(f:Nat) (W:List UInt8) (a:Int),W.length<f→W.length≤1500→0≤a→Am W=true→a*10^W.length+AA 0 W=D→Ends NT (L5 W neg (Ch a) (Cf a) o0) Q
 |0,W,a,hf,_,_,_,_=>by omega
 |f+1,W,a,hf,h15,ha,hW,he=>by
  cases hW0:W with
  |nil=>
   subst hW0;have he:a=D:=by rw[←he];simp[AA]
   subst he;have hok:=Fg ha hD1;refine zl (CF ..) (zp (by simp) (zq (fun c=>zc (Hy hok).1 (zm ?_)) (fun c=>zm ?_)))
   ·have:=jP a ha;rw[c,if_pos rfl]at hq;have x1:Hs (Ch a,Cf a)=Ch (-a):=congrArg Prod.fst this;have x2:HC (Ch a,Cf a)=Cf (-a):=congrArg Prod.snd this;rw[x1,x2];exact hq _
   ·rw[c,if_neg (by decide)]at hq;exact hq _
  |cons c t=>
   rw[←hW0];have h1:1≤W.length:=by rw[hW0];simp
   obtain⟨r1,r2,r3⟩:=TT (n:=min 18 W.length) ha hW (by omega) he;have hv:=(Bo (A4 hW (min 18 W.length))).1;have hp:0≤a*10^(min 18 W.length):=zB ha (zt (AP (by decide) _));refine cN W neg _ _ o0 hW h1 _ rfl (BN W neg _ _ o0 _ _ rfl hW rfl h1 a o0 ha (Fg ha (zN r2 hD1)) (Fg hp (zN r3 hD1)) ?_ _ 0 rfl (yd _));exact BF neg o0 D hD1 hq f (W.drop (min 18 W.length)) _ (by rw[zk];omega) (by rw[zk];omega) (by omega) (BH hW _) r1
theorem Aj(neg:Bool)(W:List UInt8)(h15:W.length≤1499)(hW:Am W=true)(hq:∀ob,Q (.agg [.dat i64 (Ch (if neg=true then -AA 0 W else AA 0 W)),.dat (.nlist u64) (Cf (if neg=true then -AA 0 W else AA 0 W))]) ob)(hq0:W=[]→∀ob v,(v=.agg [.dat i64 0,.nil]∨v=.agg [.dat i64 (Hs ((0:Int),[])),.dat (.nlist u64) (HC ((0:Int),[]))])→Q v ob):Ends NT (L1 W neg 0 0) Q:=by
 cases hW0:W with
 |nil=>
  refine zl (Ai ..) (zp (by simp) (zq (fun c=>zc (by decide) (zm (hq0 hW0 _ _ (.inr rfl)))) (fun c=>zm (hq0 hW0 _ _ (.inl rfl)))))
 |cons c t=>
  rw[←hW0];have h1:1≤W.length:=by rw[hW0];simp
  have hD1:AA 0 W<(10:Int)^(1500:Nat):=zy (Bo hW).2 (AT (by decide) (by omega));obtain⟨r1,r2,r3⟩:=TT (a:=0) (n:=min 18 W.length) (D:=AA 0 W) (ym _) hW (by omega) (by rw[yh,Int.zero_add]);have hv:=(Bo (A4 hW (min 18 W.length))).1;refine cT W neg 0 0 hW h1 _ rfl (Bb W neg 0 0 _ _ rfl hW rfl h1 0 0 rfl (ym _) (by decide) (by rw[yh];decide) ?_ _ 0 rfl (yd _));exact BF neg 0 _ hD1 hq (W.length+1) (W.drop (min 18 W.length)) _ (by rw[zk];omega) (by rw[zk];omega) (by omega) (BH hW _) r1
theorem ok:Ad AR 182 MJ:=by
 refine Av (X:=NT) rfl Z6 (d:=9) (by kernel_rfl) (by kernel_rfl) (by kernel_rfl) (fun(s:List UInt8) hs=>?_) (Ab (by kernel_rfl));have hs:(decide (s.length≤1499)&&(if s.getD 0 0=45 then Am (s.drop 1)else Am s))=true:=hs;rw[zi,decide_eq_true_eq]at hs;obtain⟨hl,hs⟩:=hs;have fin:∀D,CG s=D→∀ob,Ae MJ s (.agg [.dat i64 (Ch D),.dat (.nlist u64) (Cf D)]) ob:=by
  rintro D rfl ob;exact zO rfl rfl rfl
 have fin0:CG s=0→∀ob v,(v=.agg [.dat i64 0,.nil]∨v=.agg [.dat i64 (Hs ((0:Int),[])),.dat (.nlist u64) (HC ((0:Int),[]))])→Ae MJ s v ob:=by
  rintro h ob v (rfl|rfl)
  ·refine zO rfl rfl ?_;show((0:Int),([]:List Int))=(Ch (CG s),Cf (CG s));rw[h];rfl
  ·refine zO rfl rfl ?_;show E3 ((0:Int),([]:List Int))=(Ch (CG s),Cf (CG s));rw[h];rfl
 refine zI (Ap s) ?_;conv=>zeta
 cases s with
 |nil=>
  refine zp (by decide) (zp (by decide) (zl (AN ..) (zp (by decide) (zm (fin0 rfl _ _ (.inl rfl))))))
 |cons c r=>
  have ht:(c::r).take 1=[c]:=rfl;have g0:(c::r).getD 0 0=c:=rfl;rw[g0]at hs;have e:(yn 1 (c::r)).take (zU (c::r).length 1)=r:=by show r.take ((r.length+1)-1)=r;rw[zM];exact zA
  have b1:decide (((c::r).length:Int)≥1)=true:=decide_eq_true (by simp;omega);have b2:decide (1≤(c::r).length)=true:=decide_eq_true (by simp);rw[ht,e];refine zc b1 (zc b2 (zc b1 (zc b2 (zq (fun d=>?_) (fun d=>?_)))))
  ·have hc:c=45:=by simpa using d
   rw[if_pos hc]at hs;rw[d];have hr:CG (c::r)= -AA 0 r:=by unfold CG;rw[g0,if_pos hc];rfl
   refine zc (by simp) (Aj true r (by simp at hl;omega) hs (fin _ (by rw[hr,if_pos rfl])) (fun h0=>fin0 (by rw[hr,h0];rfl)))
  ·have hc:c≠45:=by rintro rfl;exact absurd d (by decide)
   rw[if_neg hc]at hs;rw[d];have hr:CG (c::r)=AA 0 (c::r):=by unfold CG;rw[g0,if_neg hc]
   exact Aj false (c::r) hl hs (fin _ (by rw[hr,if_neg (by decide)])) (fun h0=>by cases h0)
end T182
end Go.Pe
end
section
namespace Go.Pe
open Sp
open Go.Det
namespace T179
theorem loop{Q:PV→Ob→Prop}(l:List Int)(hl:l.length≤1000000):∀(r:List Int) (i:Nat),l.drop i=r→i≤l.length→Q (.dat i64 (yw r)) []→Ends Ib (L1 l ((l.length:Int)) i) Q
 |[],i,h,hi,hq=>by
  refine zl (Ai ..) ?_;conv=>zeta
  have:¬i<l.length:=by
   intro h1;have:=List.drop_eq_getElem_cons h1;rw[h]at this;cases this
  have he:i=l.length:=by omega
  subst he;simpa [yw]using hq
 |x::r,i,h,hi,hq=>by
  obtain⟨h1,h2,h3⟩:=drop_cons (d:=0) h;refine zl (Ai ..) ?_;conv=>zeta
  rw[AI,if_pos (by simp;omega),AI,if_pos (by simp;omega),AI];simp only[zg,h2];by_cases hx:x=0
  ·subst hx;rw[if_neg (by simp),wr _ (by omega) (by omega)];exact loop l hl r (i+1) h3 h1 (by simpa [yw]using hq)
  ·rw[if_pos (by simpa using hx)];simpa [yw,hx]using hq
theorem ok:Ad AR 179 CD:=by
 refine Av (X:=Ib) rfl Es (d:=9) (by kernel_rfl) (by kernel_rfl) rfl (fun l hl=>?_) (Ab (by kernel_rfl));refine zI (Ap l) ?_;conv=>zeta
 exact loop l (by simpa [CD]using hl) l 0 rfl (yd _) (zO rfl rfl rfl)
end T179
theorem T180.ok:Ad AR 180 Ir:=by
 refine Av (X:=Ib) rfl Es (d:=9) (by kernel_rfl) (by kernel_rfl) rfl (fun⟨c,e⟩ _=>?_) (Ab (by kernel_rfl));refine zI (T180.Ap c e) ?_;conv=>zeta
 have key:∀x:Int,x=Dk c e→Ae Ir (c,e) (.dat i64 x) []:=fun x hx=>zO rfl rfl hx
 simp only[AI,Bc];cases c
 ·exact key _ rfl
 ·exact key _ rfl
theorem Ze:∀g sp,JP.sp g=some sp→Ad AR g sp:=
 Ac T179.ok (Ac T180.ok (Ac T176.ok (Ac T177.ok (Ac T178.ok (Ac T181.ok (Ac T182.ok (Ac T183.ok (Ac T184n.ok (fun g sp h=>by cases h)))))))))
theorem Gx{s:List UInt8}(h:AU s=true):s≠[]∧Am s=true:=by
 unfold AU at h;rw[zi,zi,decide_eq_true_eq]at h;exact h.1
theorem G6{s:List UInt8}(h:Am s=true)(hl:s.length≤1499):DA s=true∧CG s=AA 0 s:=by
 have h0:s.getD 0 0≠45:=by
  cases s with
  |nil=>decide
  |cons c r=>
   unfold Am at h;rw[zP,zi]at h;have:=De h.1;rintro he;have he:c=45:=he;subst he;exact absurd this (by decide)
 unfold DA CG;rw[if_neg h0,if_neg h0,h,Bool.and_true];exact⟨decide_eq_true hl,rfl⟩
theorem eF{a b L:Int}(ha:0≤a)(hb:0≤b)(h1:a<L)(h2:b<L):0≤yp a b∧yp a b<L:=by
 rw[Iu];obtain⟨x,rfl⟩:=zK ha;obtain⟨y,rfl⟩:=zK hb;have e:Int.gcd (x:Int) (y:Int)=Nat.gcd x y:=rfl;rw[e];refine⟨Int.natCast_nonneg _,?_⟩;rcases Nat.eq_zero_or_pos x with h|h
 ·subst h;rw[Nat.gcd_zero_left];exact h2
 ·have:=Nat.gcd_le_left y h;omega
namespace T136
variable {Q:PV→Ob→Prop}
def E(A B:List UInt8)(br form:Bool):Int:=if form=false then 1 else if 600<A.length∨600<B.length then 4 else if br=true∧yp (AA 0 A) (AA 0 B)≠1 then 1 else 0
theorem GF(A B:List UInt8)(br:Bool)(hA:Am A=true)(hB:br=true→Am B=true)(lA:A.length≤600)(lB:B.length≤600)(hq:∀ob,Q (.dat i64 (if br=true∧yp (AA 0 A) (AA 0 B)≠1 then 1 else 0)) ob):Ends JP (L8 A B br) Q:=by
 refine zl (EF ..) (zq (fun c=>?_) (fun c=>?_))
 ·have hB:=hB c;obtain⟨r1,r2⟩:=G6 hA (by omega);obtain⟨r3,r4⟩:=G6 hB (by omega);have bA:=Bo hA;have bB:=Bo hB;have uA:AA 0 A<(10:Int)^(1500:Nat):=zy bA.2 (AT (by decide) (by omega));have uB:AA 0 B<(10:Int)^(1500:Nat):=zy bB.2 (AT (by decide) (by omega));have e1:CN A=Ch (AA 0 A):=by unfold CN;rw[r2]
  have e2:CV A=Cf (AA 0 A):=by unfold CV;rw[r2]
  have e3:CN B=Ch (AA 0 B):=by unfold CN;rw[r4]
  have e4:CV B=Cf (AA 0 B):=by unfold CV;rw[r4]
  have g1:RM (Ch (AA 0 A),Cf (AA 0 A)) (Ch (AA 0 B),Cf (AA 0 B))=Ch (yp (AA 0 A) (AA 0 B)):=by
   unfold RM;rw[Ol,Ol]
  have g2:Sd (Ch (AA 0 A),Cf (AA 0 A)) (Ch (AA 0 B),Cf (AA 0 B))=Cf (yp (AA 0 A) (AA 0 B)):=by
   unfold Sd;rw[Ol,Ol]
  obtain⟨l1,l2⟩:=eF bA.1 bB.1 uA uB;have ec:VA (Ch (yp (AA 0 A) (AA 0 B)),Cf (yp (AA 0 A) (AA 0 B))) ((1:Int),DE (1:Int))=BB (yp (AA 0 A) (AA 0 B)) 1:=by
   unfold VA;rw[Ol,CH,En]
  rw[e1,e2,e3,e4,g1,g2,ec];have j1:BR ((1:Int),DE (1:Int))=true:=by rw[CH];decide
  refine zc r1 (zc r3 (zc (Ak (Hn (Fg bA.1 uA)) (Hn (Fg bB.1 uB))) (zc rfl (zc (Ak (Hn (Fg l1 l2)) j1) ?_))));refine zl (Jl ..) (zc rfl (zm ?_));generalize yp (AA 0 A) (AA 0 B)=g at*;have:Dk (BB g 1 !=0) 1=if br=true∧g≠1 then 1 else 0:=by
   unfold BB Dk;by_cases h:g=1
   ·subst h;rw[c];rfl
   ·have x3:(if br=true∧g≠1 then(1:Int)else 0)=1:=if_pos ⟨c,h⟩;rw[x3];rcases Int.lt_or_gt_of_ne h with q|q
    ·rw[if_pos q];rfl
    ·rw[if_neg (by omega),if_pos q];rfl
  rw[this];exact hq _
 ·refine zl Hx (zc rfl (zm ?_));rw[if_neg (by rw[c];simp)]at hq;exact hq _
theorem BN(A B:List UInt8)(br form c d:Bool)(hc:c= !form)(hd:d=true↔600<A.length∨600<B.length)(hf:form=true→Am A=true∧(br=true→Am B=true))(hq:∀ob,Q (.dat i64 (E A B br form)) ob):Ends JP (L7 A B br (yw [Dk c 1,Dk d 4])) Q:=by
 subst hc;unfold E at hq;cases form with
 |false=>
  refine zl (Db ..) (zc ?_ (zm (hq _)));cases d<;>rfl
 |true=>
  rw[if_neg (by decide)]at hq;cases d with
  |true=>
   rw[if_pos (hd.1 rfl)]at hq;exact zl (Db ..) (zc rfl (zm (hq _)))
  |false=>
   have hn:¬(600<A.length∨600<B.length):=fun h=>by have:=hd.2 h;cases this
   rw[if_neg hn]at hq;obtain⟨f1,f2⟩:=hf rfl;exact zl (Db ..) (zp rfl (GF A B br f1 f2 (by omega) (by omega) hq))
theorem A1(A B:List UInt8)(br form:Bool)(hf:form=true→Am A=true∧(br=true→Am B=true))(hq:∀ob,Q (.dat i64 (E A B br form)) ob):Ends JP (L4 A B br form) Q:=by
 refine zl (BA ..) (zc rfl (zq (fun c=>zc rfl (zc rfl ?_)) (fun c=>zc rfl (zc rfl ?_))))
 ·have c:=of_decide_eq_true c;exact BN A B br form _ _ rfl ⟨fun _=>.inl (by omega),fun _=>rfl⟩ hf hq
 ·have c:=of_decide_eq_false c;exact BN A B br form _ _ rfl ⟨fun h=>.inr (by have:=of_decide_eq_true h;omega),fun h=>decide_eq_true (by omega)⟩ hf hq
theorem BF(A B:List UInt8)(br:Bool)(hq:∀ob,Q (.dat i64 (E A B br false)) ob):Ends JP (L5 A B br) Q:=by
 refine zl (CF ..) (zc rfl (zq (fun c=>zc rfl (zc rfl ?_)) (fun c=>zc rfl (zc rfl ?_))))
 ·have c:=of_decide_eq_true c;exact BN A B br false _ _ rfl ⟨fun _=>.inl (by omega),fun _=>rfl⟩ (fun h=>by cases h) hq
 ·have c:=of_decide_eq_false c;exact BN A B br false _ _ rfl ⟨fun h=>.inr (by have:=of_decide_eq_true h;omega),fun h=>decide_eq_true (by omega)⟩ (fun h=>by cases h) hq
theorem HS(A B:List UInt8)(br:Bool)(hf:Am A=true∧(br=true→Am B=true))(hq:∀ob,Q (.dat i64 (E A B br true)) ob):Ends JP (L6 A B br) Q:=by
 refine zl (C2 ..) (zc rfl (zq (fun c=>zc rfl (zc rfl ?_)) (fun c=>zc rfl (zc rfl ?_))))
 ·have c:=of_decide_eq_true c;exact BN A B br true _ _ rfl ⟨fun _=>.inl (by omega),fun _=>rfl⟩ (fun _=>hf) hq
 ·have c:=of_decide_eq_false c;exact BN A B br true _ _ rfl ⟨fun h=>.inr (by have:=of_decide_eq_true h;omega),fun h=>decide_eq_true (by omega)⟩ (fun _=>hf) hq
theorem QL{F:Tr}(A B:List UInt8)(br:Bool)(lB:B.length≤1000000)(hA:Am A=true)(form:Bool)(hform:form=(!br||(AU B&&decide (B≠[48])&&decide (B≠[49]))))(hq:∀ob,Q (.dat i64 (E A B br form)) ob)
  (h:(br=true→Ends JP (.ite (decide (B.length≤1000000)) (.ite (AU B) (.ite (!B==[(48:UInt8)]) (L4 A B br (!B==[(49:UInt8)])) (L5 A B br)) (L5 A B br)) .fail) Q)→(br=false→form=true)→Ends JP F Q):Ends JP F Q:=by
 refine h (fun hb=>zc (decide_eq_true lB) ?_) (fun hb=>by rw[hform,hb];rfl);rw[hb]at hform;refine zq (fun c=>zq (fun d=>?_) (fun d=>?_)) (fun c=>?_)
 ·have d:B≠[48]:=by simpa using d
  have e:form=(!B==[(49:UInt8)]):=by
   rw[hform,c,decide_eq_true d];by_cases h:B=[49]
   ·rw[h];rfl
   ·rw[decide_eq_true h];simp[h]
  rw[←e];exact A1 A B br form (fun _=>⟨hA,fun _=>(Gx c).2⟩) hq
 ·have d:B=[48]:=by simpa using d
  have e:form=false:=by rw[hform,decide_eq_false (fun h=>h d)];simp
  rw[e]at hq;exact BF A B br hq
 ·have e:form=false:=by rw[hform,c];simp
  rw[e]at hq;exact BF A B br hq
theorem Dl(s:List UInt8):(Ay s).length≤s.length∧(yq s).length≤s.length:=by
 unfold Ay yq;cases s.findIdx? (fun x=>x==47)with
 |none=>simp
 |some i=>simp;omega
theorem U4(s:List UInt8):(A3 s).length≤s.length:=by
 unfold A3;split
 ·simp
 ·exact zR _
theorem ok:Ad AR 136 E5:=by
 refine Av (X:=JP) rfl Ze (d:=9) (by kernel_rfl) (by kernel_rfl) (by kernel_rfl) (fun(a:List UInt8) hl=>?_) (Ab (by kernel_rfl));have hl:a.length≤1000000:=of_decide_eq_true hl;have l1:=U4 a;obtain⟨l2,l3⟩:=Dl (A3 a);have hq:∀form,form=GP a→∀ob,Ae E5 a (.dat i64 (E (Ay (A3 a)) (yq (A3 a)) (Bz (A3 a)) form)) ob:=by
  rintro form rfl ob;exact zO rfl rfl rfl
 have hfm:GP a=(AU (Ay (A3 a))&&(!Sp.preB a||decide (Ay (A3 a)≠[48]))&&(!Bz (A3 a)||(AU (yq (A3 a))&&decide (yq (A3 a)≠[48])&&decide (yq (A3 a)≠[49])))):=rfl;refine zI (Ap a) (zc (Ak (decide_eq_true rfl) (decide_eq_true hl)) (zc (Ak (decide_eq_true rfl) (decide_eq_true (by omega))) (zc (decide_eq_true (by omega)) ?_)));generalize Ay (A3 a)=A at*;generalize yq (A3 a)=B at*;generalize Bz (A3 a)=br at*;refine zq (fun c=>?_) (fun c=>?_)
 ·have hA:=(Gx c).2;refine zq (fun d=>?_) (fun d=>?_)
  ·have ef:GP a=(!br||(AU B&&decide (B≠[48])&&decide (B≠[49]))):=by rw[hfm,c,d];rfl
   refine QL A B br (by omega) hA (GP a) ef (hq _ rfl) (fun h1 h2=>zl (Ai ..) (zq h1 (fun e=>?_)));have h3:=h2 e;exact HS A B br ⟨hA,fun h=>by rw[e]at h;cases h⟩ (hq true h3.symm)
  ·by_cases hz:A=[48]
   ·have ef:GP a=false:=by rw[hfm,d,decide_eq_false (fun h=>h hz)];simp
    have e8:(!A==[(48:UInt8)])=false:=by rw[hz];rfl
    rw[e8];refine zl (AN ..) (zq (fun e=>zp rfl (BF A B br (hq false ef.symm))) (fun e=>A1 A B br false (fun h=>by cases h) (hq false ef.symm)))
   ·have e8:(!A==[(48:UInt8)])=true:=by simp[hz]
    have ef:GP a=(!br||(AU B&&decide (B≠[48])&&decide (B≠[49]))):=by rw[hfm,c,d,decide_eq_true hz];rfl
    rw[e8];refine QL A B br (by omega) hA (GP a) ef (hq _ rfl) (fun h1 h2=>zl (AN ..) (zq (fun e=>zc rfl (h1 e)) (fun e=>?_)));have h3:=h2 e;exact A1 A B br true (fun _=>⟨hA,fun h=>by rw[e]at h;cases h⟩) (hq true h3.symm)
 ·have ef:GP a=false:=by rw[hfm,c];simp
  exact zl (Bk ..) (zq (fun e=>BF A B br (hq false ef.symm)) (fun e=>BF A B br (hq false ef.symm)))
end T136
end Go.Pe
end
