import Derived.Test.YtnbinppdjnlhpaaGreatDoorX12
import Derived.Test.YtnbinppdjnlhpaaGreatDoorX13
import Derived.Test.YtnbinppdjnlhpaaGreatDoorX11
import Derived.Test.YtnbinppdjnlhpaaGreatDoorX10
/- A part of a proof (no law is stated here). Made by program out of texts by AI agents. -/
open Go.Pe.Ends renaming tt → zc, leaf → zg, ite → zi, Ag → zj, ff → zl, eq → zu
open Go.IntKind renaming wrap → zd, i64 → ze
open Bool renaming and_eq_true → zf, true_and → zX, and_false → yc, and_true → yf
open Int renaming toNat_natCast → zh, tdiv → zk, mul_le_mul_of_nonneg_right → zp, lt_of_lt_of_le → zt, mul_le_mul_of_nonneg_left → zx, eq_ofNat_of_zero_le → zy, le_of_lt → zA, lt_of_le_of_lt → zE, tdiv_eq_ediv_of_nonneg → zG, tmod_eq_emod_of_nonneg → zH, natCast_nonneg → zN, mul_nonneg → zV, pow_succ → z5, le_trans → z6, le_refl → yk, tmod → yn, toNat → yo
open List renaming length_drop → zm, take_of_length_le → zo, length_append → zq, length_cons → zw, length_take → zz, length → zD, getD_eq_getElem?_getD → zF, getElem?_eq_getElem → zK, take_length → zL, all_cons → zO, length_singleton → zP, all_eq_true → zQ, perm_middle → zR, take → zW, append_nil → zY, drop → z8, findIdx?_cons → yb, append_assoc → ye, length_eq_zero_iff → yh, length_nil → yj, getD → yp
open Go.Sp renaming AG → zn, gI → zr, B9 → zZ, preB → z7, vI → z9, first → yg
open Go.Pe.Ae renaming of → zB
open UInt8 renaming toNat_inj → zC, ofNat → zJ
open Nat renaming zero_le → zI, le_refl → zM, sub → zS, add_sub_cancel → ya, zero_add → yi
open Go.Pe.Tr renaming fail → zT, ite → zU
open List.Perm renaming refl → yd, cons → ym
section
namespace Go.Pe
open Sp
open Go.Det
theorem Zp:∀g sp,Nu.sp g=some sp→Ad AT g sp:=
 Ac T184n.ok (Ac T225.ok (Ac T186.ok (Ac T226.ok (Ac T227.ok (Ac (CQ (by kernel_rfl) (Ab (by kernel_rfl))) (Ac (CQ (by kernel_rfl) (Ab (by kernel_rfl))) (fun g sp h=>by cases h)))))))
theorem P4(k:Nat):Cs 18 (k:Int)=((min 18 k:Nat):Int):=by unfold Cs;split<;>omega
theorem bP(n:Int):zd .u8 n=n % 256:=by simp[zd,IntKind.bits,IntKind.signed]
theorem dW(k:Nat):(10:Int)^k≤(Am:Int)^k:=by
 induction k with
 |zero=>exact yk _
 |succ k ih=>
  rw[z5,z5];have h1:=zp ih (show(0:Int)≤10 by decide);have h2:=zx (show(10:Int)≤(Am:Int)by decide) (zA (AQ (b:=Am) (by decide) k));exact z6 h1 h2
theorem EZ{n:Int}(h0:0≤n)(h:n<(10:Int)^(1500:Nat)):BL (Co n)=true:=by
 refine Gz ?_;have h1:=dW 1500;have h2:(Am:Int)^1500≤(Am:Int)^9000:=AU (by decide) (by decide);have h3:Ah n=n:=by rw[Aq];omega
 rw[h3];exact zt h (z6 h1 h2)
theorem K8(m n:Int):GH (Cc m,Cb m) (Cc n,Cb n)=Cc (m*n)∧GB (Cc m,Cb m) (Cc n,Cb n)=Cb (m*n):=by
 constructor
 ·show Cc (z9 (Co _)*z9 (Co _))=_;rw[Cu,Cu]
 ·show Cb (z9 (Co _)*z9 (Co _))=_;rw[Cu,Cu]
theorem Y9{a b:Bj}(h:0≤z9 a+z9 b):F6 a b=Co (z9 a+z9 b):=by
 unfold F6;split
 ·next c=>
  have:=E9 c.2.2;rw[BF c.1,BF c.2.1]at h ⊢;exact(BI (by omega)).symm
 ·rfl
theorem KU{m v:Int}(hm:0≤m)(hv:0≤v):J6 (Cc m,Cb m) (v,Dz v)=Cc (m+v)∧Kg (Cc m,Cb m) (v,Dz v)=Cb (m+v):=by
 have e1:z9 (Cc m,Cb m)=m:=Cu m;have e2:z9 (v,Dz v)=v:=by rw[CE,Es]
 have:=Y9 (a:=(Cc m,Cb m)) (b:=(v,Dz v)) (by rw[e1,e2];omega);rw[e1,e2]at this;exact⟨congrArg Prod.fst this,congrArg Prod.snd this⟩
theorem KO(n:Nat):Q4 ((10:Int),Dz (10:Int)) (n:Int)=Cc (10^n)∧Qu ((10:Int),Dz (10:Int)) (n:Int)=Cb (10^n):=by
 have e:Sp.pI (z9 ((10:Int),Dz (10:Int))) (n:Int)=10^n:=by rw[Pv,CE,Es,zh]
 unfold Q4 Qu;rw[e];exact⟨rfl,rfl⟩
theorem VH:BL ((10:Int),Dz (10:Int))=true:=by rw[CE];decide
theorem VV{n:Nat}(h:n≤18):V6 (z9 ((10:Int),Dz (10:Int))) (n:Int)=true:=by
 unfold V6;have e:Sp.pI (z9 ((10:Int),Dz (10:Int))) (n:Int)=10^n:=by rw[Pv,CE,Es,zh]
 rw[e];have h1:(10:Int)^n≤10^18:=AU (by decide) h;have h0:(0:Int)<10^n:=AQ (by decide) n;have h2:(10:Int)^18<18446744073709551616^1:=by decide
 have h3:(18446744073709551616:Int)^(1:Nat)≤18446744073709551616^(4000:Nat):=AU (by decide) (by decide);have h4:Ah ((10:Int)^n)=10^n:=by rw[Aq];omega
 rw[h4];exact Aj (Aj (decide_eq_true (by omega)) (decide_eq_true (by omega))) (decide_eq_true (zE h1 (zt h2 h3)))
theorem QC{v:Int}(h0:0≤v)(h:v<1000000000000000000):BL (v,Dz v)=true:=by
 rw[CE];unfold BL;exact Aj (KZ (Fg (by omega) (by omega))) (decide_eq_true (zI _))
theorem Up{w:List UInt8}(hs:Al w=true)(h:w.length≤18):0≤AA 0 w∧AA 0 w<1000000000000000000:=by
 have:=Bo hs;have h2:(10:Int)^w.length≤10^18:=AU (by decide) h;have h3:(10:Int)^18=1000000000000000000:=by decide
 omega
namespace T182
variable {Q:PV→Ob→Prop}
theorem BY(W:List UInt8)(neg:Bool)(b1:Int)(b1w:List Int)(b0:Int)(w:List UInt8)(n:Nat)(hw:w=W.take n)(hW:Al W=true)(hn:n=min 18 W.length)(h1:1≤W.length)(a o0':Int)(a0:0≤a)(hj:BL (Co a)=true)(hj2:BL (Co (a*10^n))=true)
  (hgo:Ends Nu (L5 (W.drop n) neg (Cc (a*10^n+AA 0 w)) (Cb (a*10^n+AA 0 w)) o0') Q):
  ∀(r:List UInt8) (j:Nat),w.drop j=r→j≤w.length→Ends Nu (L7 W neg b1 b1w b0 w (AA 0 (w.take j)) w.length w.length j (w.map fun b=>(b.toNat:Int)) (Cc a) (Cb a) o0') Q
 |[],j,hr,hjw=>by
  have hdw:Al w=true:=by rw[hw];exact A4 hW n
  have hwl:w.length=n:=by rw[hw,zz];omega
  have he:j=w.length:=drop_nil hr hjw;subst he;have hv:=Up hdw (by omega);obtain⟨c,t,hc⟩:∃c t,w=c::t:=by
   cases w with
   |nil=>simp at hwl;omega
   |cons c t=>exact⟨c,t,rfl⟩
  have hc0:((((w.getD 0 0).toNat:Int)==(45:Int))=false):=by
   rw[hc]at hdw ⊢;unfold Al at hdw;rw[zO,zf]at hdw;have:=Da hdw.1;unfold MO at this;show(((c.toNat:Int)==(45:Int))=false);simp;omega
  have ht:(W.drop n).take (zS W.length n)=W.drop n:=zo (by rw[zm];exact zM _);have p0:0≤a*10^n:=zV a0 (zA (AQ (by decide) n));have jp:BL (Cc (10^n),Cb (10^n))=true:=by
   refine GZ (EZ (n:=(10:Int)^n) (zA (AQ (by decide) n)) ?_);have x1:(10:Int)^n≤10^18:=AU (by decide) (by omega);have x2:(10:Int)^18<10^19:=by decide
   have x3:(10:Int)^19≤10^(1500:Nat):=AU (by decide) (by decide);exact zE x1 (zt x2 x3)
  refine zj (Dw ..) (zl (by simp) (zc (decide_eq_true (by omega)) ?_));rw[hc0,P4, ←hn,(KO n).1,(KO n).2,zL];refine zl rfl (zc rfl (zc (Aj VH (VV (by omega))) (zc (Aj hj jp) (zc rfl ?_))));rw[(K8 _ _).1,(K8 _ _).2,(KU p0 hv.1).1,(KU p0 hv.1).2,zh,ht];exact zc (Aj hj2 (QC hv.1 hv.2)) (zc (by simp;omega) hgo)
 |c::r,j,hr,hjw=>by
  have hdw:Al w=true:=by rw[hw];exact A4 hW n
  have hwl:w.length=n:=by rw[hw,zz];omega
  obtain⟨g1,g2,g3⟩:=drop_cons (d:=0) hr;have hcd:BE c=true:=by
   unfold Al at hdw;rw[zQ]at hdw;exact hdw c (CR hr)
  have hd:=Da hcd;have hlt:(w.take j).length=j:=by rw[zz];omega
  have hb:=Bo (A4 hdw j);rw[hlt]at hb;have hp:(10:Int)^j≤10^17:=AU (by decide) (by omega);have hp17:(10:Int)^17=100000000000000000:=by decide
  have gm:(w.map fun b=>(b.toNat:Int)).getD j 0=(c.toNat:Int):=by
   rw[zF,List.getElem?_map,zK g1];have:w[j]=c:=by rw[←g2,zF,zK g1];rfl
   rw[this];rfl
  have e8:zd .u8 ((c.toNat:Int)-48)=MO c:=by
   rw[bP];unfold MO at hd ⊢;omega
  have e2:zd .i64 (zd .i64 (AA 0 (w.take j)*10)+zd .i64 (MO c))=AA 0 (w.take (j+1)):=by
   rw[HY hr,Dv];show _=10*AA 0 (w.take j)+MO c;generalize AA 0 (w.take j)=D at*;rw[wr (D*10) (by omega) (by omega),wr (MO c) (by omega) (by omega),wr _ (by omega) (by omega)];omega
  have e3:zd .i64 ((j:Int)+1)=((j+1:Nat):Int):=by rw[wr _ (by omega) (by omega)];omega
  refine zj (Dw ..) (zc (by simp;omega) ?_);rw[zh,gm,e8,e2,e3];refine zc (by simp;omega) (zc (by simp;omega) (zl (decide_eq_false (by omega)) ?_));exact BY W neg b1 b1w b0 w n hw hW hn h1 a o0' a0 hj hj2 hgo r (j+1) g3 g1
theorem Bt(W:List UInt8)(neg:Bool)(b1:Int)(b0:Int)(w:List UInt8)(n:Nat)(hw:w=W.take n)(hW:Al W=true)(hn:n=min 18 W.length)(h1:1≤W.length)(a o0':Int)(ha:a=0)(a0:0≤a)(hj:BL (Co a)=true)(hj2:BL (Co (a*10^n))=true)
  (hgo:Ends Nu (L5 (W.drop n) neg (Cc (a*10^n+AA 0 w)) (Cb (a*10^n+AA 0 w)) o0') Q):
  ∀(r:List UInt8) (j:Nat),w.drop j=r→j≤w.length→Ends Nu (L3 W neg b1 b0 w (AA 0 (w.take j)) w.length w.length j (w.map fun b=>(b.toNat:Int)) 0 o0') Q
 |[],j,hr,hjw=>by
  have hdw:Al w=true:=by rw[hw];exact A4 hW n
  have hwl:w.length=n:=by rw[hw,zz];omega
  have he:j=w.length:=drop_nil hr hjw;subst he;have hv:=Up hdw (by omega);obtain⟨c,t,hc⟩:∃c t,w=c::t:=by
   cases w with
   |nil=>simp at hwl;omega
   |cons c t=>exact⟨c,t,rfl⟩
  have hc0:((((w.getD 0 0).toNat:Int)==(45:Int))=false):=by
   rw[hc]at hdw ⊢;unfold Al at hdw;rw[zO,zf]at hdw;have:=Da hdw.1;unfold MO at this;show(((c.toNat:Int)==(45:Int))=false);simp;omega
  have ht:(W.drop n).take (zS W.length n)=W.drop n:=zo (by rw[zm];exact zM _);have p0:0≤a*10^n:=zV a0 (zA (AQ (by decide) n));have jp:BL (Cc (10^n),Cb (10^n))=true:=by
   refine GZ (EZ (n:=(10:Int)^n) (zA (AQ (by decide) n)) ?_);have x1:(10:Int)^n≤10^18:=AU (by decide) (by omega);have x2:(10:Int)^18<10^19:=by decide
   have x3:(10:Int)^19≤10^(1500:Nat):=AU (by decide) (by decide);exact zE x1 (zt x2 x3)
  refine zj (Bm ..) (zl (by simp) (zc (decide_eq_true (by omega)) ?_));rw[hc0,P4, ←hn,(KO n).1,(KO n).2,zL];refine zl rfl (zc rfl (zc (Aj VH (VV (by omega))) (zc (Aj (show BL ((0:Int),[])=true by decide) jp) (zc rfl ?_))));rw[show GH ((0:Int),[]) (Cc (10^n),Cb (10^n))=Cc (a*10^n)by rw[ha];exact(K8 0 _).1,show GB ((0:Int),[]) (Cc (10^n),Cb (10^n))=Cb (a*10^n)by rw[ha];exact(K8 0 _).2,(KU p0 hv.1).1,(KU p0 hv.1).2,zh,ht];exact zc (Aj hj2 (QC hv.1 hv.2)) (zc (by simp;omega) hgo)
 |c::r,j,hr,hjw=>by
  have hdw:Al w=true:=by rw[hw];exact A4 hW n
  have hwl:w.length=n:=by rw[hw,zz];omega
  obtain⟨g1,g2,g3⟩:=drop_cons (d:=0) hr;have hcd:BE c=true:=by
   unfold Al at hdw;rw[zQ]at hdw;exact hdw c (CR hr)
  have hd:=Da hcd;have hlt:(w.take j).length=j:=by rw[zz];omega
  have hb:=Bo (A4 hdw j);rw[hlt]at hb;have hp:(10:Int)^j≤10^17:=AU (by decide) (by omega);have hp17:(10:Int)^17=100000000000000000:=by decide
  have gm:(w.map fun b=>(b.toNat:Int)).getD j 0=(c.toNat:Int):=by
   rw[zF,List.getElem?_map,zK g1];have:w[j]=c:=by rw[←g2,zF,zK g1];rfl
   rw[this];rfl
  have e8:zd .u8 ((c.toNat:Int)-48)=MO c:=by
   rw[bP];unfold MO at hd ⊢;omega
  have e2:zd .i64 (zd .i64 (AA 0 (w.take j)*10)+zd .i64 (MO c))=AA 0 (w.take (j+1)):=by
   rw[HY hr,Dv];show _=10*AA 0 (w.take j)+MO c;generalize AA 0 (w.take j)=D at*;rw[wr (D*10) (by omega) (by omega),wr (MO c) (by omega) (by omega),wr _ (by omega) (by omega)];omega
  have e3:zd .i64 ((j:Int)+1)=((j+1:Nat):Int):=by rw[wr _ (by omega) (by omega)];omega
  refine zj (Bm ..) (zc (by simp;omega) ?_);rw[zh,gm,e8,e2,e3];refine zc (by simp;omega) (zc (by simp;omega) (zl (decide_eq_false (by omega)) ?_));exact Bt W neg b1 b0 w n hw hW hn h1 a o0' ha a0 hj hj2 hgo r (j+1) g3 g1
theorem ZW(W:List UInt8)(neg:Bool)(o1:Int)(o1w:List Int)(o0:Int)(hW:Al W=true)(h1:1≤W.length)(n:Nat)(hn:n=min 18 W.length)
  (h:Ends Nu (L7 W neg o1 o1w o0 (W.take n) 0 (W.take n).length (W.take n).length 0 ((W.take n).map fun b=>(b.toNat:Int)) o1 o1w o0) Q):Ends Nu (L5 W neg o1 o1w o0) Q:=by
 have hwl:(W.take n).length=n:=by rw[zz];omega
 have hdw:=A4 hW n;have hc:((((W.take n).getD 0 0).toNat:Int)==(45:Int))=false∧((((W.take n).getD 0 0).toNat:Int)==(43:Int))=false:=by
  cases hq:W.take n with
  |nil=>rw[hq]at hwl;simp at hwl;omega
  |cons c t=>
   rw[hq]at hdw;unfold Al at hdw;rw[zO,zf]at hdw;have:=Da hdw.1;unfold MO at this;show(((c.toNat:Int)==(45:Int))=false)∧(((c.toNat:Int)==(43:Int))=false);constructor<;>(simp;omega)
 refine zj (CZ ..) (zc (by simp;omega) ?_);rw[P4, ←hn,zh,hc.1,hc.2];exact zc (by simp;omega) (zc (decide_eq_true (by omega)) (zc (decide_eq_true (by omega)) (zc (decide_eq_true (by omega)) (zl rfl (zc (decide_eq_true (by omega)) (zl rfl h))))))
theorem bD(W:List UInt8)(neg:Bool)(o1:Int)(o0:Int)(hW:Al W=true)(h1:1≤W.length)(n:Nat)(hn:n=min 18 W.length)
  (h:Ends Nu (L3 W neg o1 o0 (W.take n) 0 (W.take n).length (W.take n).length 0 ((W.take n).map fun b=>(b.toNat:Int)) o1 o0) Q):Ends Nu (L1 W neg o1 o0) Q:=by
 have hwl:(W.take n).length=n:=by rw[zz];omega
 have hdw:=A4 hW n;have hc:((((W.take n).getD 0 0).toNat:Int)==(45:Int))=false∧((((W.take n).getD 0 0).toNat:Int)==(43:Int))=false:=by
  cases hq:W.take n with
  |nil=>rw[hq]at hwl;simp at hwl;omega
  |cons c t=>
   rw[hq]at hdw;unfold Al at hdw;rw[zO,zf]at hdw;have:=Da hdw.1;unfold MO at this;show(((c.toNat:Int)==(45:Int))=false)∧(((c.toNat:Int)==(43:Int))=false);constructor<;>(simp;omega)
 refine zj (Ai ..) (zc (by simp;omega) ?_);rw[P4, ←hn,zh,hc.1,hc.2];exact zc (by simp;omega) (zc (decide_eq_true (by omega)) (zc (decide_eq_true (by omega)) (zc (decide_eq_true (by omega)) (zl rfl (zc (decide_eq_true (by omega)) (zl rfl h))))))
theorem fJ(n:Int)(h:0≤n):(Ho (Cc n,Cb n),GR (Cc n,Cb n))=Co (-n):=by
 show EV (Co n)=_;unfold EV;split
 ·next c=>
  have:=Cu n;rw[BF c.1]at this;rw[this,BI (n:= -n)];by_cases hb: -9223372036854775808<n∧n<9223372036854775808
  ·omega
  ·exfalso;have e:Co n=(1,BG (Ah n)):=by unfold Co;rw[if_neg hb,if_neg (by omega)]
   rw[e]at this;have:(1:Int)=n:=this;omega
 ·rw[Cu]
theorem Uo{a D:Int}{W:List UInt8}{n:Nat}(ha:0≤a)(hW:Al W=true)(hn:n≤W.length)(hD:a*10^W.length+AA 0 W=D):(a*10^n+AA 0 (W.take n))*10^(W.drop n).length+AA 0 (W.drop n)=D∧a≤D∧a*10^n≤D:=by
 have hs:AA 0 W=AA 0 (W.take n)*10^(W.drop n).length+AA 0 (W.drop n):=by
  conv=>lhs;rw[←List.take_append_drop n W]
  rw[Dv,DW]
 have hl:W.length=n+(W.drop n).length:=by rw[zm];omega
 have hp:(10:Int)^W.length=10^n*10^(W.drop n).length:=by rw[←Int.pow_add, ←hl]
 have hb:=(Bo hW).1;have e1:a*10^W.length=a*10^n*10^(W.drop n).length:=by rw[hp,Int.mul_assoc]
 have one:∀k:Nat,(1:Int)≤10^k:=fun k=>by have:=AQ (show(0:Int)<10 by decide) k;omega
 have l1:a≤a*10^W.length:=by have:=zx (one W.length) ha;omega
 have l2:a*10^n≤a*10^n*10^(W.drop n).length:=by
  have:=zx (one (W.drop n).length) (zV ha (show(0:Int)≤10^n by have:=one n;omega));omega
 refine⟨?_,by omega,by omega⟩;rw[Int.add_mul, ←e1];omega
theorem BP(neg:Bool)(o0 D:Int)(hD1:D<(10:Int)^(1500:Nat))(hq:∀ob,Q (.agg [.dat i64 (Cc (if neg=true then -D else D)),.dat (.nlist u64) (Cb (if neg=true then -D else D))]) ob):∀(f:Nat) (W:List UInt8) (a:Int),W.length<f→W.length≤1500→0≤a→Al W=true→a*10^W.length+AA 0 W=D→Ends Nu (L5 W neg (Cc a) (Cb a) o0) Q
 |0,W,a,hf,_,_,_,_=>by omega
 |f+1,W,a,hf,h15,ha,hW,he=>by
  cases hW0:W with
  |nil=>
   subst hW0;have he:a=D:=by rw[←he];simp[AA]
   subst he;have hok:=EZ ha hD1;refine zj (CZ ..) (zl (by simp) (zi (fun c=>zc (G6 hok).1 (zg ?_)) (fun c=>zg ?_)))
   ·have:=fJ a ha;rw[c,if_pos rfl]at hq;have x1:Ho (Cc a,Cb a)=Cc (-a):=congrArg Prod.fst this;have x2:GR (Cc a,Cb a)=Cb (-a):=congrArg Prod.snd this;rw[x1,x2];exact hq _
   ·rw[c,if_neg (by decide)]at hq;exact hq _
  |cons c t=>
   rw[←hW0];have h1:1≤W.length:=by rw[hW0];simp
   obtain⟨r1,r2,r3⟩:=Uo (n:=min 18 W.length) ha hW (by omega) he;have hv:=(Bo (A4 hW (min 18 W.length))).1;have hp:0≤a*10^(min 18 W.length):=zV ha (zA (AQ (by decide) _));refine ZW W neg _ _ o0 hW h1 _ rfl (BY W neg _ _ o0 _ _ rfl hW rfl h1 a o0 ha (EZ ha (zE r2 hD1)) (EZ hp (zE r3 hD1)) ?_ _ 0 rfl (zI _));exact BP neg o0 D hD1 hq f (W.drop (min 18 W.length)) _ (by rw[zm];omega) (by rw[zm];omega) (by omega) (BC hW _) r1
theorem Ak(neg:Bool)(W:List UInt8)(h15:W.length≤1499)(hW:Al W=true)(hq:∀ob,Q (.agg [.dat i64 (Cc (if neg=true then -AA 0 W else AA 0 W)),.dat (.nlist u64) (Cb (if neg=true then -AA 0 W else AA 0 W))]) ob)(hq0:W=[]→∀ob v,(v=.agg [.dat i64 0,.nil]∨v=.agg [.dat i64 (Ho ((0:Int),[])),.dat (.nlist u64) (GR ((0:Int),[]))])→Q v ob):Ends Nu (L1 W neg 0 0) Q:=by
 cases hW0:W with
 |nil=>
  refine zj (Ai ..) (zl (by simp) (zi (fun c=>zc (by decide) (zg (hq0 hW0 _ _ (.inr rfl)))) (fun c=>zg (hq0 hW0 _ _ (.inl rfl)))))
 |cons c t=>
  rw[←hW0];have h1:1≤W.length:=by rw[hW0];simp
  have hD1:AA 0 W<(10:Int)^(1500:Nat):=zt (Bo hW).2 (AU (by decide) (by omega));obtain⟨r1,r2,r3⟩:=Uo (a:=0) (n:=min 18 W.length) (D:=AA 0 W) (yk _) hW (by omega) (by rw[Int.zero_mul,Int.zero_add]);have hv:=(Bo (A4 hW (min 18 W.length))).1;refine bD W neg 0 0 hW h1 _ rfl (Bt W neg 0 0 _ _ rfl hW rfl h1 0 0 rfl (yk _) (by decide) (by rw[Int.zero_mul];decide) ?_ _ 0 rfl (zI _));exact BP neg 0 _ hD1 hq (W.length+1) (W.drop (min 18 W.length)) _ (by rw[zm];omega) (by rw[zm];omega) (by omega) (BC hW _) r1
theorem ok:Ad AT 182 MF:=by
 refine Av (X:=Nu) rfl Zp (d:=9) (by kernel_rfl) (by kernel_rfl) (by kernel_rfl) (fun(s:List UInt8) hs=>?_) (Ab (by kernel_rfl));have hs:(decide (s.length≤1499)&&(if s.getD 0 0=45 then Al (s.drop 1)else Al s))=true:=hs;rw[zf,decide_eq_true_eq]at hs;obtain⟨hl,hs⟩:=hs;have fin:∀D,CD s=D→∀ob,Ae MF s (.agg [.dat i64 (Cc D),.dat (.nlist u64) (Cb D)]) ob:=by
  rintro D rfl ob;exact zB rfl rfl rfl
 have fin0:CD s=0→∀ob v,(v=.agg [.dat i64 0,.nil]∨v=.agg [.dat i64 (Ho ((0:Int),[])),.dat (.nlist u64) (GR ((0:Int),[]))])→Ae MF s v ob:=by
  rintro h ob v (rfl|rfl)
  ·refine zB rfl rfl ?_;show((0:Int),([]:List Int))=(Cc (CD s),Cb (CD s));rw[h];rfl
  ·refine zB rfl rfl ?_;show EV ((0:Int),([]:List Int))=(Cc (CD s),Cb (CD s));rw[h];rfl
 refine zu (An s) ?_;conv=>zeta
 cases s with
 |nil=>
  refine zl (by decide) (zl (by decide) (zj (AM ..) (zl (by decide) (zg (fin0 rfl _ _ (.inl rfl))))))
 |cons c r=>
  have ht:(c::r).take 1=[c]:=rfl;have g0:(c::r).getD 0 0=c:=rfl;rw[g0]at hs;have e:(z8 1 (c::r)).take (zS (c::r).length 1)=r:=by show r.take ((r.length+1)-1)=r;rw[ya];exact zL
  have b1:decide (((c::r).length:Int)≥1)=true:=decide_eq_true (by simp;omega);have b2:decide (1≤(c::r).length)=true:=decide_eq_true (by simp);rw[ht,e];refine zc b1 (zc b2 (zc b1 (zc b2 (zi (fun d=>?_) (fun d=>?_)))))
  ·have hc:c=45:=by simpa using d
   rw[if_pos hc]at hs;rw[d];have hr:CD (c::r)= -AA 0 r:=by unfold CD;rw[g0,if_pos hc];rfl
   refine zc (by simp) (Ak true r (by simp at hl;omega) hs (fin _ (by rw[hr,if_pos rfl])) (fun h0=>fin0 (by rw[hr,h0];rfl)))
  ·have hc:c≠45:=by rintro rfl;exact absurd d (by decide)
   rw[if_neg hc]at hs;rw[d];have hr:CD (c::r)=AA 0 (c::r):=by unfold CD;rw[g0,if_neg hc]
   exact Ak false (c::r) hl hs (fin _ (by rw[hr,if_neg (by decide)])) (fun h0=>by cases h0)
end T182
end Go.Pe
end
section
namespace Go.Pe
open Sp
open Go.Det
namespace T179
theorem loop{Q:PV→Ob→Prop}(l:List Int)(hl:l.length≤1000000):∀(r:List Int) (i:Nat),l.drop i=r→i≤l.length→Q (.dat i64 (yg r)) []→Ends HZ (L1 l ((l.length:Int)) i) Q
 |[],i,h,hi,hq=>by
  refine zj (Ai ..) ?_;conv=>zeta
  have:¬i<l.length:=by
   intro h1;have:=List.drop_eq_getElem_cons h1;rw[h]at this;cases this
  have he:i=l.length:=by omega
  subst he;simpa [yg]using hq
 |x::r,i,h,hi,hq=>by
  obtain⟨h1,h2,h3⟩:=drop_cons (d:=0) h;refine zj (Ai ..) ?_;conv=>zeta
  rw[AL,if_pos (by simp;omega),AL,if_pos (by simp;omega),AL];simp only[zh,h2];by_cases hx:x=0
  ·subst hx;rw[if_neg (by simp),wr _ (by omega) (by omega)];exact loop l hl r (i+1) h3 h1 (by simpa [yg]using hq)
  ·rw[if_pos (by simpa using hx)];simpa [yg,hx]using hq
theorem ok:Ad AT 179 C2:=by
 refine Av (X:=HZ) rfl EA (d:=9) (by kernel_rfl) (by kernel_rfl) rfl (fun l hl=>?_) (Ab (by kernel_rfl));refine zu (An l) ?_;conv=>zeta
 exact loop l (by simpa [C2]using hl) l 0 rfl (zI _) (zB rfl rfl rfl)
end T179
theorem T180.ok:Ad AT 180 J5:=by
 refine Av (X:=HZ) rfl EA (d:=9) (by kernel_rfl) (by kernel_rfl) rfl (fun⟨c,e⟩ _=>?_) (Ab (by kernel_rfl));refine zu (T180.An c e) ?_;conv=>zeta
 have key:∀x:Int,x=Ew c e→Ae J5 (c,e) (.dat i64 x) []:=fun x hx=>zB rfl rfl hx
 simp only[AL,Bb];cases c
 ·exact key _ rfl
 ·exact key _ rfl
theorem ZX:∀g sp,Jx.sp g=some sp→Ad AT g sp:=
 Ac T179.ok (Ac T180.ok (Ac T176.ok (Ac T177.ok (Ac T178.ok (Ac T181.ok (Ac T182.ok (Ac T183.ok (Ac T184n.ok (fun g sp h=>by cases h)))))))))
theorem Gs{s:List UInt8}(h:AV s=true):s≠[]∧Al s=true:=by
 unfold AV at h;rw[zf,zf,decide_eq_true_eq]at h;exact h.1
theorem GP{s:List UInt8}(h:Al s=true)(hl:s.length≤1499):Du s=true∧CD s=AA 0 s:=by
 have h0:s.getD 0 0≠45:=by
  cases s with
  |nil=>decide
  |cons c r=>
   unfold Al at h;rw[zO,zf]at h;have:=Da h.1;rintro he;have he:c=45:=he;subst he;exact absurd this (by decide)
 unfold Du CD;rw[if_neg h0,if_neg h0,h,yf];exact⟨decide_eq_true hl,rfl⟩
theorem bQ{a b L:Int}(ha:0≤a)(hb:0≤b)(h1:a<L)(h2:b<L):0≤zr a b∧zr a b<L:=by
 rw[Iz];obtain⟨x,rfl⟩:=zy ha;obtain⟨y,rfl⟩:=zy hb;have e:Int.gcd (x:Int) (y:Int)=Nat.gcd x y:=rfl;rw[e];refine⟨zN _,?_⟩;rcases Nat.eq_zero_or_pos x with h|h
 ·subst h;rw[Nat.gcd_zero_left];exact h2
 ·have:=Nat.gcd_le_left y h;omega
namespace T136
variable {Q:PV→Ob→Prop}
def E(A B:List UInt8)(br form:Bool):Int:=if form=false then 1 else if 600<A.length∨600<B.length then 4 else if br=true∧zr (AA 0 A) (AA 0 B)≠1 then 1 else 0
theorem Gi(A B:List UInt8)(br:Bool)(hA:Al A=true)(hB:br=true→Al B=true)(lA:A.length≤600)(lB:B.length≤600)(hq:∀ob,Q (.dat i64 (if br=true∧zr (AA 0 A) (AA 0 B)≠1 then 1 else 0)) ob):Ends Jx (L8 A B br) Q:=by
 refine zj (E7 ..) (zi (fun c=>?_) (fun c=>?_))
 ·have hB:=hB c;obtain⟨r1,r2⟩:=GP hA (by omega);obtain⟨r3,r4⟩:=GP hB (by omega);have bA:=Bo hA;have bB:=Bo hB;have uA:AA 0 A<(10:Int)^(1500:Nat):=zt bA.2 (AU (by decide) (by omega));have uB:AA 0 B<(10:Int)^(1500:Nat):=zt bB.2 (AU (by decide) (by omega));have e1:CP A=Cc (AA 0 A):=by unfold CP;rw[r2]
  have e2:CI A=Cb (AA 0 A):=by unfold CI;rw[r2]
  have e3:CP B=Cc (AA 0 B):=by unfold CP;rw[r4]
  have e4:CI B=Cb (AA 0 B):=by unfold CI;rw[r4]
  have g1:QK (Cc (AA 0 A),Cb (AA 0 A)) (Cc (AA 0 B),Cb (AA 0 B))=Cc (zr (AA 0 A) (AA 0 B)):=by
   unfold QK;rw[N7,N7]
  have g2:QE (Cc (AA 0 A),Cb (AA 0 A)) (Cc (AA 0 B),Cb (AA 0 B))=Cb (zr (AA 0 A) (AA 0 B)):=by
   unfold QE;rw[N7,N7]
  obtain⟨l1,l2⟩:=bQ bA.1 bB.1 uA uB;have ec:UE (Cc (zr (AA 0 A) (AA 0 B)),Cb (zr (AA 0 A) (AA 0 B))) ((1:Int),Dz (1:Int))=Bz (zr (AA 0 A) (AA 0 B)) 1:=by
   unfold UE;rw[N7,CE,Es]
  rw[e1,e2,e3,e4,g1,g2,ec];have j1:BL ((1:Int),Dz (1:Int))=true:=by rw[CE];decide
  refine zc r1 (zc r3 (zc (Aj (GZ (EZ bA.1 uA)) (GZ (EZ bB.1 uB))) (zc rfl (zc (Aj (GZ (EZ l1 l2)) j1) ?_))));refine zj (Mg ..) (zc rfl (zg ?_));generalize zr (AA 0 A) (AA 0 B)=g at*;have:Ew (Bz g 1 !=0) 1=if br=true∧g≠1 then 1 else 0:=by
   unfold Bz Ew;by_cases h:g=1
   ·subst h;rw[c];rfl
   ·have x3:(if br=true∧g≠1 then(1:Int)else 0)=1:=if_pos ⟨c,h⟩;rw[x3];rcases Int.lt_or_gt_of_ne h with q|q
    ·rw[if_pos q];rfl
    ·rw[if_neg (by omega),if_pos q];rfl
  rw[this];exact hq _
 ·refine zj Ld (zc rfl (zg ?_));rw[if_neg (by rw[c];simp)]at hq;exact hq _
theorem BY(A B:List UInt8)(br form c d:Bool)(hc:c= !form)(hd:d=true↔600<A.length∨600<B.length)(hf:form=true→Al A=true∧(br=true→Al B=true))(hq:∀ob,Q (.dat i64 (E A B br form)) ob):Ends Jx (L7 A B br (yg [Ew c 1,Ew d 4])) Q:=by
 subst hc;unfold E at hq;cases form with
 |false=>
  refine zj (Dw ..) (zc ?_ (zg (hq _)));cases d<;>rfl
 |true=>
  rw[if_neg (by decide)]at hq;cases d with
  |true=>
   rw[if_pos (hd.1 rfl)]at hq;exact zj (Dw ..) (zc rfl (zg (hq _)))
  |false=>
   have hn:¬(600<A.length∨600<B.length):=fun h=>by have:=hd.2 h;cases this
   rw[if_neg hn]at hq;obtain⟨f1,f2⟩:=hf rfl;exact zj (Dw ..) (zl rfl (Gi A B br f1 f2 (by omega) (by omega) hq))
theorem A5(A B:List UInt8)(br form:Bool)(hf:form=true→Al A=true∧(br=true→Al B=true))(hq:∀ob,Q (.dat i64 (E A B br form)) ob):Ends Jx (L4 A B br form) Q:=by
 refine zj (BB ..) (zc rfl (zi (fun c=>zc rfl (zc rfl ?_)) (fun c=>zc rfl (zc rfl ?_))))
 ·have c:=of_decide_eq_true c;exact BY A B br form _ _ rfl ⟨fun _=>.inl (by omega),fun _=>rfl⟩ hf hq
 ·have c:=of_decide_eq_false c;exact BY A B br form _ _ rfl ⟨fun h=>.inr (by have:=of_decide_eq_true h;omega),fun h=>decide_eq_true (by omega)⟩ hf hq
theorem BP(A B:List UInt8)(br:Bool)(hq:∀ob,Q (.dat i64 (E A B br false)) ob):Ends Jx (L5 A B br) Q:=by
 refine zj (CZ ..) (zc rfl (zi (fun c=>zc rfl (zc rfl ?_)) (fun c=>zc rfl (zc rfl ?_))))
 ·have c:=of_decide_eq_true c;exact BY A B br false _ _ rfl ⟨fun _=>.inl (by omega),fun _=>rfl⟩ (fun h=>by cases h) hq
 ·have c:=of_decide_eq_false c;exact BY A B br false _ _ rfl ⟨fun h=>.inr (by have:=of_decide_eq_true h;omega),fun h=>decide_eq_true (by omega)⟩ (fun h=>by cases h) hq
theorem Ht(A B:List UInt8)(br:Bool)(hf:Al A=true∧(br=true→Al B=true))(hq:∀ob,Q (.dat i64 (E A B br true)) ob):Ends Jx (L6 A B br) Q:=by
 refine zj (DP ..) (zc rfl (zi (fun c=>zc rfl (zc rfl ?_)) (fun c=>zc rfl (zc rfl ?_))))
 ·have c:=of_decide_eq_true c;exact BY A B br true _ _ rfl ⟨fun _=>.inl (by omega),fun _=>rfl⟩ (fun _=>hf) hq
 ·have c:=of_decide_eq_false c;exact BY A B br true _ _ rfl ⟨fun h=>.inr (by have:=of_decide_eq_true h;omega),fun h=>decide_eq_true (by omega)⟩ (fun _=>hf) hq
theorem QW{F:Tr}(A B:List UInt8)(br:Bool)(lB:B.length≤1000000)(hA:Al A=true)(form:Bool)(hform:form=(!br||(AV B&&decide (B≠[48])&&decide (B≠[49]))))(hq:∀ob,Q (.dat i64 (E A B br form)) ob)
  (h:(br=true→Ends Jx (.ite (decide (B.length≤1000000)) (.ite (AV B) (.ite (!B==[(48:UInt8)]) (L4 A B br (!B==[(49:UInt8)])) (L5 A B br)) (L5 A B br)) .fail) Q)→(br=false→form=true)→Ends Jx F Q):Ends Jx F Q:=by
 refine h (fun hb=>zc (decide_eq_true lB) ?_) (fun hb=>by rw[hform,hb];rfl);rw[hb]at hform;refine zi (fun c=>zi (fun d=>?_) (fun d=>?_)) (fun c=>?_)
 ·have d:B≠[48]:=by simpa using d
  have e:form=(!B==[(49:UInt8)]):=by
   rw[hform,c,decide_eq_true d];by_cases h:B=[49]
   ·rw[h];rfl
   ·rw[decide_eq_true h];simp[h]
  rw[←e];exact A5 A B br form (fun _=>⟨hA,fun _=>(Gs c).2⟩) hq
 ·have d:B=[48]:=by simpa using d
  have e:form=false:=by rw[hform,decide_eq_false (fun h=>h d)];simp
  rw[e]at hq;exact BP A B br hq
 ·have e:form=false:=by rw[hform,c];simp
  rw[e]at hq;exact BP A B br hq
theorem Dg(s:List UInt8):(Ay s).length≤s.length∧(zn s).length≤s.length:=by
 unfold Ay zn;cases s.findIdx? (fun x=>x==47)with
 |none=>simp
 |some i=>simp;omega
theorem Uh(s:List UInt8):(A3 s).length≤s.length:=by
 unfold A3;split
 ·simp
 ·exact zM _
theorem ok:Ad AT 136 E5:=by
 refine Av (X:=Jx) rfl ZX (d:=9) (by kernel_rfl) (by kernel_rfl) (by kernel_rfl) (fun(a:List UInt8) hl=>?_) (Ab (by kernel_rfl));have hl:a.length≤1000000:=of_decide_eq_true hl;have l1:=Uh a;obtain⟨l2,l3⟩:=Dg (A3 a);have hq:∀form,form=GK a→∀ob,Ae E5 a (.dat i64 (E (Ay (A3 a)) (zn (A3 a)) (Bw (A3 a)) form)) ob:=by
  rintro form rfl ob;exact zB rfl rfl rfl
 have hfm:GK a=(AV (Ay (A3 a))&&(!z7 a||decide (Ay (A3 a)≠[48]))&&(!Bw (A3 a)||(AV (zn (A3 a))&&decide (zn (A3 a)≠[48])&&decide (zn (A3 a)≠[49])))):=rfl;refine zu (An a) (zc (Aj (decide_eq_true rfl) (decide_eq_true hl)) (zc (Aj (decide_eq_true rfl) (decide_eq_true (by omega))) (zc (decide_eq_true (by omega)) ?_)));generalize Ay (A3 a)=A at*;generalize zn (A3 a)=B at*;generalize Bw (A3 a)=br at*;refine zi (fun c=>?_) (fun c=>?_)
 ·have hA:=(Gs c).2;refine zi (fun d=>?_) (fun d=>?_)
  ·have ef:GK a=(!br||(AV B&&decide (B≠[48])&&decide (B≠[49]))):=by rw[hfm,c,d];rfl
   refine QW A B br (by omega) hA (GK a) ef (hq _ rfl) (fun h1 h2=>zj (Ai ..) (zi h1 (fun e=>?_)));have h3:=h2 e;exact Ht A B br ⟨hA,fun h=>by rw[e]at h;cases h⟩ (hq true h3.symm)
  ·by_cases hz:A=[48]
   ·have ef:GK a=false:=by rw[hfm,d,decide_eq_false (fun h=>h hz)];simp
    have e8:(!A==[(48:UInt8)])=false:=by rw[hz];rfl
    rw[e8];refine zj (AM ..) (zi (fun e=>zl rfl (BP A B br (hq false ef.symm))) (fun e=>A5 A B br false (fun h=>by cases h) (hq false ef.symm)))
   ·have e8:(!A==[(48:UInt8)])=true:=by simp[hz]
    have ef:GK a=(!br||(AV B&&decide (B≠[48])&&decide (B≠[49]))):=by rw[hfm,c,d,decide_eq_true hz];rfl
    rw[e8];refine QW A B br (by omega) hA (GK a) ef (hq _ rfl) (fun h1 h2=>zj (AM ..) (zi (fun e=>zc rfl (h1 e)) (fun e=>?_)));have h3:=h2 e;exact A5 A B br true (fun _=>⟨hA,fun h=>by rw[e]at h;cases h⟩) (hq true h3.symm)
 ·have ef:GK a=false:=by rw[hfm,c];simp
  exact zj (Bm ..) (zi (fun e=>BP A B br (hq false ef.symm)) (fun e=>BP A B br (hq false ef.symm)))
end T136
end Go.Pe
end
section
namespace Go.Pe
open Sp
open Go.Det
theorem EE(c:UInt8)(r:List UInt8):Ay (c::r)=if c=47 then[]else c::Ay r:=by
 unfold Ay;rw[yb];by_cases h:c=47
 ·subst h;rfl
 ·rw[if_neg (by simpa using h),if_neg h];cases r.findIdx? (fun x=>x==47)<;>rfl
namespace T167
theorem Ak{Q:PV→Ob→Prop}(s:List UInt8)(hl:s.length≤1000000):∀(r:List UInt8) (i:Nat),s.drop i=r→i≤s.length→(∀ob,Q (.dat i64 (((i+(Ay r).length:Nat)):Int)) ob)→Ends HZ (L1 s i) Q
 |[],i,h,hi,hq=>by
  have he:i=s.length:=drop_nil h hi;subst he;exact zj (Ai ..) (zl (by simp) (zg (hq _)))
 |c::r,i,h,hi,hq=>by
  obtain⟨h1,h2,h3⟩:=drop_cons (d:=0) h;have e3:zd .i64 ((i:Int)+1)=((i+1:Nat):Int):=by rw[wr _ (by omega) (by omega)];omega
  rw[EE]at hq;refine zj (Ai ..) (zc (by simp;omega) ?_);rw[zh,h2,e3];refine zc (by simp;omega) (zi (fun d=>?_) (fun d=>?_))
  ·have hc:c=47:=by
    have:(c.toNat:Int)=47:=by simpa using d
    exact zC.1 (by show _=47;omega)
   rw[if_pos hc]at hq;exact zg (hq _)
  ·have hc:c≠47:=by rintro rfl;exact absurd d (by decide)
   rw[if_neg hc]at hq;refine Ak s hl r (i+1) h3 h1 (fun ob=>?_);have:=hq ob;rw[zw]at this;rw[show i+1+(Ay r).length=i+((Ay r).length+1)by omega];exact this
theorem ok:Ad AT 167 M6:=by
 refine Av (X:=HZ) rfl EA (d:=9) (by kernel_rfl) (by kernel_rfl) (by kernel_rfl) (fun(s:List UInt8) hl=>?_) (Ab (by kernel_rfl));have hl:s.length≤1000000:=of_decide_eq_true hl;refine zu (An s) (Ak s hl s 0 rfl (zI _) (fun ob=>zB rfl rfl ?_));rw[yi];rfl
end T167
namespace T168
variable {Q:PV→Ob→Prop}
theorem Rq{s:List UInt8}{r:List UInt8}{c:UInt8}{i:Nat}(h:s.drop i=c::r):Al (s.drop i)=(BE c&&Al (s.drop (i+1))):=by
 obtain⟨_,_,h3⟩:=drop_cons (d:=0) h;rw[h3,h];rfl
theorem Ak(s:List UInt8)(hl:s.length≤1000000):∀(r:List UInt8) (i:Nat),s.drop i=r→i≤s.length→(∀ob,Q (.bl (Al (s.drop i))) ob)→Ends HZ (L1 s s i) Q
 |[],i,h,hi,hq=>by
  have he:i=s.length:=drop_nil h hi;rw[h]at hq;subst he;exact zj (Ai ..) (zl (by simp) (zg (hq _)))
 |c::r,i,h,hi,hq=>by
  obtain⟨h1,h2,h3⟩:=drop_cons (d:=0) h;have e3:zd .i64 ((i:Int)+1)=((i+1:Nat):Int):=by rw[wr _ (by omega) (by omega)];omega
  rw[Rq h]at hq;refine zj (Ai ..) (zc (by simp;omega) ?_);rw[zh,h2,e3];refine zc (by simp;omega) (zi (fun d=>?_) (fun d=>zc (by simp;omega) (zi (fun e=>?_) (fun e=>?_))))
  ·have d:=of_decide_eq_true d;have hn:BE c=false:=by unfold BE;rw[decide_eq_false (by omega)];rfl
   rw[hn]at hq;exact zg (hq _)
  ·have e:=of_decide_eq_true e;have hn:BE c=false:=by unfold BE;rw[decide_eq_false (p:=c.toNat≤57) (by omega),yc]
   rw[hn]at hq;exact zg (hq _)
  ·have d:=of_decide_eq_false d;have e:=of_decide_eq_false e;have hn:BE c=true:=by unfold BE;exact Aj (decide_eq_true (by omega)) (decide_eq_true (by omega))
   rw[hn,zX]at hq;exact Ak s hl r (i+1) h3 h1 hq
theorem AN(s:List UInt8)(hl:s.length≤1000000):∀(r:List UInt8) (i:Nat),s.drop i=r→i≤s.length→(∀ob,Q (.bl (Al (s.drop i))) ob)→Ends HZ (L2 s s i) Q
 |[],i,h,hi,hq=>by
  have he:i=s.length:=drop_nil h hi;rw[h]at hq;subst he;exact zj (AM ..) (zl (by simp) (zg (hq _)))
 |c::r,i,h,hi,hq=>by
  obtain⟨h1,h2,h3⟩:=drop_cons (d:=0) h;have e3:zd .i64 ((i:Int)+1)=((i+1:Nat):Int):=by rw[wr _ (by omega) (by omega)];omega
  rw[Rq h]at hq;refine zj (AM ..) (zc (by simp;omega) ?_);rw[zh,h2,e3];refine zc (by simp;omega) (zi (fun d=>?_) (fun d=>zc (by simp;omega) (zi (fun e=>?_) (fun e=>?_))))
  ·have d:=of_decide_eq_true d;have hn:BE c=false:=by unfold BE;rw[decide_eq_false (by omega)];rfl
   rw[hn]at hq;exact zg (hq _)
  ·have e:=of_decide_eq_true e;have hn:BE c=false:=by unfold BE;rw[decide_eq_false (p:=c.toNat≤57) (by omega),yc]
   rw[hn]at hq;exact zg (hq _)
  ·have d:=of_decide_eq_false d;have e:=of_decide_eq_false e;have hn:BE c=true:=by unfold BE;exact Aj (decide_eq_true (by omega)) (decide_eq_true (by omega))
   rw[hn,zX]at hq;exact AN s hl r (i+1) h3 h1 hq
theorem ok:Ad AT 168 JS:=by
 refine Av (X:=HZ) rfl EA (d:=9) (by kernel_rfl) (by kernel_rfl) (by kernel_rfl) (fun(s:List UInt8) hl=>?_) (Ab (by kernel_rfl));have hl:s.length≤1000000:=of_decide_eq_true hl;have hq:∀b ob,b=AV s→Ae JS s (.bl b) ob:=fun b ob hb=>zB rfl rfl hb
 refine zu (An s) ?_;conv=>zeta
 cases s with
 |nil=>exact zc rfl (zg (hq _ _ rfl))
 |cons c r=>
  have g0:(c::r).getD 0 0=c:=rfl;rw[g0];refine zl (by simp;omega) (zi (fun d=>zc (by simp) (zi (fun e=>zg (hq _ _ ?_)) (fun e=>?_))) (fun d=>?_))
  ·have d:=of_decide_eq_true d;have hc:c=48:=by
    have:(c.toNat:Int)=48:=by simpa using e
    exact zC.1 (by show _=48;omega)
   have hr:r≠[]:=by rintro rfl;simp at d
   unfold AV;rw[g0,decide_eq_false (p:=c≠48) (fun h=>h hc),decide_eq_false (p:=c::r=[48]) (by intro h;simp at h;exact hr h.2)];simp
  ·have hc:c≠48:=by rintro rfl;exact absurd e (by decide)
   refine Ak (c::r) hl (c::r) 0 rfl (zI _) (fun ob=>hq _ _ ?_);unfold AV;rw[g0,decide_eq_true hc];simp
  ·have d:=of_decide_eq_false d;have hr:r=[]:=by
    have:r.length=0:=by simp at d;omega
    exact yh.1 this
   subst hr;refine AN [c] hl [c] 0 rfl (zI _) (fun ob=>hq _ _ ?_);unfold AV;rw[g0];by_cases hc:c=48
   ·subst hc;rfl
   ·rw[decide_eq_true hc];simp
end T168
theorem aY:∀g sp,aK.sp g=some sp→Ad AT g sp:=Ac T264.ok (fun g sp h=>by cases h)
namespace T208
variable {Q:PV→Ob→Prop}
theorem MW{v:Int}(hv: -9223372036854775808≤v∧v<9223372036854775808):∃q d:Nat,Ah v=d+1000000000*q∧d<1000000000∧zd .i64 (zk v 1000000000)=(if v<0 then -(q:Int)else q)∧yn v 1000000000=(if v<0 then -(d:Int)else d):=by
 refine⟨v.natAbs/1000000000,v.natAbs % 1000000000,by rw[Aq];omega,by omega,?_,?_⟩
 ·by_cases h:v<0
  ·have:=Int.neg_tdiv (-v) 1000000000;rw[Int.neg_neg]at this;rw[this,zG (by omega),if_pos h,wr _ (by omega) (by omega)];omega
  ·rw[zG (by omega),if_neg h,wr _ (by omega) (by omega)];omega
 ·by_cases h:v<0
  ·have:=Int.neg_tmod (-v) 1000000000;rw[Int.neg_neg]at this;rw[this,zH (by omega),if_pos h];omega
  ·rw[zH (by omega),if_neg h];omega
theorem AN(neg:Bool)(D:Int)(hq:∀(w:List Int) ob,At zZ w→Sp.val zZ w=D→Q (.agg [.dat .bool (Ey neg w),.dat li (Az w)]) ob):∀(f:Nat) (v:Int) (o1:List Int),Ah v<f→(-9223372036854775808≤v∧v<9223372036854775808)→o1.length≤100→(Ah v≠0→Ah v*1000000000^o1.length≤9223372036854775808)→At zZ o1→Sp.val zZ o1+(zZ:Int)^o1.length*Ah v=D→Ends aK (L2 v o1.length neg o1) Q
 |0,v,o1,hf,hv,ho,hb,hd,he=>by
  have:=AE v;omega
 |f+1,v,o1,hf,hv,ho,hb,hd,he=>by
  obtain⟨q,d,s1,s2,s3,s4⟩:=MW hv;by_cases h0:v=0
  ·subst h0;have e0:Ah 0=0:=rfl;rw[e0,Int.mul_zero,Int.add_zero]at he;refine zj (AM ..) (zl rfl ?_);rw[zL];exact zc (by simp;omega) (zg (hq _ _ hd he))
  ·have hne:Ah v≠0:=by rw[Aq];omega
   have hbb:=hb hne;have ho10:o1.length≤10:=by
    rcases Nat.lt_or_ge 10 o1.length with g|g
    ·exfalso;have x1:(1000000000:Int)^11≤1000000000^o1.length:=AU (by decide) g;have x2:(9223372036854775808:Int)<1000000000^11:=by decide
     have x3:=zp (show 1≤Ah v by have:=AE v;omega) (show(0:Int)≤1000000000^o1.length by omega);omega
    ·exact g
   have eq:Ah (if v<0 then -(q:Int)else q)=q:=by rw[Aq];split<;>omega
   have go:Ends aK (L2 (if v<0 then -(q:Int)else q) (Nat.add o1.length 1) neg (o1++[(d:Int)])) Q:=by
    have:=AN neg D hq f (if v<0 then -(q:Int)else q) (o1++[(d:Int)]) (by rw[eq];omega) (by have:=Aq v;split<;>omega) (by simp;omega) (fun _=>by
     rw[eq,zq];show(q:Int)*1000000000^(o1.length+1)≤_;rw[z5, ←Int.mul_assoc,Int.mul_right_comm];have x1:=zp (show(q:Int)*1000000000≤Ah v by omega) (show(0:Int)≤1000000000^o1.length from zA (AQ (by decide) _));omega) (Fa hd (by omega)) (by
     rw[eq,CA,zq];show Sp.val zZ o1+(zZ:Int)^o1.length*(d:Int)+(zZ:Int)^(o1.length+1)*(q:Int)=D;rw[L0,Int.add_assoc, ←Int.mul_add, ←he,s1])
    rw[zq]at this;exact this
   refine zj (AM ..) (zc (by simpa using h0) (zc rfl ?_));rw[s3,s4];refine zi (fun c=>zc (by simp;omega) (zc rfl ?_)) (fun c=>zc (by simp;omega) (zc rfl ?_))
   ·have c:=of_decide_eq_true c;have hn:v<0:=by split at c<;>omega
    rw[if_pos hn]at c;rw[if_pos hn,if_pos hn];rw[if_pos hn]at go;have e5:zd .i64 (0 - -(d:Int))=(d:Int):=by rw[wr _ (by omega) (by omega)];omega
    rw[e5];exact go
   ·have c:=of_decide_eq_false c;have e5:(if v<0 then -(d:Int)else(d:Int))=(d:Int):=by split at c<;>split<;>omega
    rw[e5];exact go
theorem ok:Ad AT 208 I0:=by
 refine Av (X:=aK) rfl aY (d:=9) (by kernel_rfl) (by kernel_rfl) (by kernel_rfl) (fun(v:Int) hv=>?_) (Ab (by kernel_rfl));have hv:=E9 (n:=v) hv;have fin:∀(w:List Int) ob,At zZ w→Sp.val zZ w=Ah v→Ae I0 v (.agg [.dat .bool (Ey (decide (v<0)) w),.dat li (Az w)]) ob:=by
  intro w ob hd hw;refine zB rfl rfl ?_;have:=Oe (neg:=decide (v<0)) hd hw;have e:(if decide (v<0)=true then -Ah v else Ah v)=v:=by
   rw[Aq];by_cases h:v<0
   ·rw[if_pos (decide_eq_true h)];omega
   ·rw[if_neg (by simpa using h)];omega
  rw[e]at this;exact this
 obtain⟨q,d,s1,s2,s3,s4⟩:=MW hv;have hn:=AE v;refine zu (An v) ?_;conv=>zeta
 by_cases h0:v=0
 ·subst h0;exact zj (Ai ..) (zl rfl (zc rfl (zg (fin [] _ (fun x hx=>by cases hx) rfl))))
 ·have eq:Ah (if v<0 then -(q:Int)else q)=q:=by rw[Aq];split<;>omega
  have go:Ends aK (L2 (if v<0 then -(q:Int)else q) 1 (decide (v<0)) [(d:Int)]) (Ae I0 v):=by
   refine AN (decide (v<0)) (Ah v) fin (q+1) _ [(d:Int)] (by rw[eq];omega) (by have:=Aq v;split<;>omega) (by simp) (fun _=>?_) (fun x hx=>by rw[List.mem_singleton]at hx;subst hx;show 0≤_∧_<(1000000000:Int);omega) ?_
   ·rw[eq];show(q:Int)*1000000000^1≤_;have:=Aq v;omega
   ·rw[eq,DI,s1];show(d:Int)+(1000000000:Int)^1*(q:Int)=_;omega
  refine zj (Ai ..) (zc (by simpa using h0) (zc rfl ?_));rw[s3,s4];refine zi (fun c=>zc rfl (zc rfl ?_)) (fun c=>zc rfl (zc rfl ?_))
  ·have c:=of_decide_eq_true c;have hn:v<0:=by split at c<;>omega
   rw[if_pos hn]at c;rw[if_pos hn,if_pos hn];rw[if_pos hn]at go;have e5:zd .i64 (0 - -(d:Int))=(d:Int):=by rw[wr _ (by omega) (by omega)];omega
   rw[e5];exact go
  ·have c:=of_decide_eq_false c;have e5:(if v<0 then -(d:Int)else(d:Int))=(d:Int):=by split at c<;>split<;>omega
   rw[e5];exact go
end T208
theorem aR:∀g sp,jK.sp g=some sp→Ad AT g sp:=Ac T167.ok (Ac T207.ok (Ac T208.ok (fun g sp h=>by cases h)))
theorem BT:∀(s:List UInt8),Ay s=s.take (Ay s).length∧(Bw s=true→(Ay s).length<s.length∧zn s=s.drop ((Ay s).length+1))∧(Bw s=false→Ay s=s∧zn s=[])
 |[]=>⟨rfl,(fun h=>(by cases h)),fun _=>⟨rfl,rfl⟩⟩
 |c::r=>by
  obtain⟨h1,h2,h3⟩:=BT r;have hB:zn (c::r)=if c=47 then r else zn r:=by
   unfold zn;rw[yb];by_cases h:c=47
   ·subst h;rfl
   ·rw[if_neg (by simpa using h),if_neg h];cases r.findIdx? (fun x=>x==47)<;>rfl
  have hC:Bw (c::r)=(decide (c=47)||Bw r):=by
   unfold Bw;rw[List.any_cons];congr 1
  rw[EE,hB,hC];by_cases h:c=47
  ·rw[if_pos h,if_pos h,decide_eq_true h];exact⟨rfl,(fun _=>⟨by simp,rfl⟩),fun h=>by cases h⟩
  ·rw[if_neg h,if_neg h,decide_eq_false h];refine⟨?_,fun g=>?_,fun g=>?_⟩
   ·rw[zw,List.take_succ_cons, ←h1]
   ·obtain⟨k1,k2⟩:=h2 g;refine⟨by simp;omega,?_⟩;rw[zw,List.drop_succ_cons];exact k2
   ·obtain⟨k1,k2⟩:=h3 g;exact⟨by rw[k1],k2⟩
theorem T169.ok:Ad AT 169 OD:=by
 refine Av (X:=jK) rfl aR (d:=9) (by kernel_rfl) (by kernel_rfl) (by kernel_rfl) (fun(a:List UInt8) ha=>?_) (Ab (by kernel_rfl));have ha:(Du (Ay a)&&Du (zn a)&&decide (a.length≤1499))=true:=ha;rw[zf,zf,decide_eq_true_eq]at ha;obtain⟨⟨ra,rb⟩,hl⟩:=ha;obtain⟨c1,c2,c3⟩:=BT a;have es:AS a=((Ay a).length:Int):=rfl;have hle:(Ay a).length≤a.length:=(T136.Dg a).1;refine zu (T169.An a) (zc (decide_eq_true (by omega)) (zi (fun c=>?_) (fun c=>?_)))
 ·have c:(Ay a).length=a.length:=by
   have:((Ay a).length:Int)=(a.length:Int):=by simpa [es]using c
   omega
  have hc:Bw a=false:=by
   cases h:Bw a with
   |false=>rfl
   |true=>have:=(c2 h).1;omega
  obtain⟨k1,k2⟩:=c3 hc;rw[k1]at ra;refine zc ra (zc rfl (zg (zB rfl rfl ?_)));show((Ep a,Eo a),(false,Sp.rW 1))=((GO a,Fo a),(Hd a,Fv a));unfold GO Fo Hd Fv GW GC Ep Eo;rw[k1,hc];rfl
 ·have hlt:(Ay a).length<a.length:=by
   have:((Ay a).length:Int)≠(a.length:Int):=by simpa [es]using c
   omega
  have hc:Bw a=true:=by
   cases h:Bw a with
   |true=>rfl
   |false=>have:=(c3 h).1;rw[this]at hlt;omega
  obtain⟨k1,k2⟩:=c2 hc;have e1:zd .i64 (((Ay a).length:Int)+1)=(((Ay a).length+1:Nat):Int):=by rw[wr _ (by omega) (by omega)];omega
  have e2:(a.drop ((Ay a).length+1)).take (zS a.length ((Ay a).length+1))=a.drop ((Ay a).length+1):=zo (by rw[zm];exact zM _);rw[es,e1,zh,zh,e2, ←c1, ←k2];refine zc (by simp;omega) (zc (by simp;omega) (zc ra (zc rb (zg (zB rfl rfl ?_)))));show((Ep (Ay a),Eo (Ay a)),(Ep (zn a),Eo (zn a)))=((GO a,Fo a),(Hd a,Fv a));unfold GO Fo Hd Fv GW GC Ep Eo;rw[hc];rfl
theorem YM:∀g sp,P5.sp g=some sp→Ad AT g sp:=Ac T167.ok (Ac T168.ok (Ac T169.ok (Ac T170.ok (fun g sp h=>by cases h))))
namespace T128
variable {Q:PV→Ob→Prop}
theorem Zt{g:Int}(h0:0≤g):CG g=[1]↔g=1:=by
 constructor
 ·intro h;have:=Dj (b:=zZ) (by decide) h0;have h:Sp.dg zZ g=[1]:=h;rw[h]at this;rw[←this];rfl
 ·rintro rfl;rfl
theorem A5(s:List UInt8)(hA:Al (Ay s)=true)(hB:Bw s=true→Al (zn s)=true)(lA:(Ay s).length≤600)(lB:(zn s).length≤600)(hl:s.length≤1499)
  (hq:∀ob,Q (.dat i64 (if Bw s=true∧zr (AA 0 (Ay s)) (AA 0 (zn s))≠1 then 1 else 0)) ob):Ends P5 (L4 s (AS s)) Q:=by
 obtain⟨c1,c2,c3⟩:=BT s;have es:AS s=((Ay s).length:Int):=rfl;refine zj (BB ..) ?_;conv=>zeta
 rw[es];refine zi (fun c=>?_) (fun c=>?_)
 ·have c:=of_decide_eq_true c;have hc:Bw s=true:=by
   cases h:Bw s with
   |true=>rfl
   |false=>have:=(c3 h).1;rw[this]at c;omega
  have hB:=hB hc;obtain⟨r1,r2⟩:=GP hA (by omega);obtain⟨r3,r4⟩:=GP hB (by omega);have bA:=Bo hA;have bB:=Bo hB;have tR:∀k:Nat,(10:Int)^k≤(zZ:Int)^k:=by
   intro k;induction k with
   |zero=>exact yk _
   |succ k ih=>
    rw[z5,z5];have h1:=zp ih (show(0:Int)≤10 by decide);have h2:=zx (show(10:Int)≤(zZ:Int)by decide) (zA (AQ (b:=zZ) (by decide) k));exact z6 h1 h2
  have uA:AA 0 (Ay s)<(zZ:Int)^600:=zt bA.2 (z6 (tR _) (AU (by decide) lA));have uB:AA 0 (zn s)<(zZ:Int)^600:=zt bB.2 (z6 (tR _) (AU (by decide) lB));have e1:Fo s=CG (AA 0 (Ay s)):=by
   unfold Fo GW Sp.rW;rw[r2,show Ah (AA 0 (Ay s))=AA 0 (Ay s)by rw[Aq];omega]
  have e2:Fv s=CG (AA 0 (zn s)):=by
   unfold Fv GC Sp.rW;rw[if_pos hc,r4,show Ah (AA 0 (zn s))=AA 0 (zn s)by rw[Aq];omega]
  obtain⟨n1,_,v1,l1⟩:=JI (k:=600) bA.1 uA (by decide);obtain⟨n2,_,v2,l2⟩:=JI (k:=600) bB.1 uB (by decide);have rat:IU s=true:=by
   unfold IU;rw[r1,r3];exact decide_eq_true hl
  rw[e1,e2];refine zc rat (zj (CZ ..) (zc (Aj (Aj (Aj n1 n2) (decide_eq_true (by omega))) (decide_eq_true (by omega))) ?_));have ec:KY (CG (AA 0 (Ay s))) (CG (AA 0 (zn s)))=CG (zr (AA 0 (Ay s)) (AA 0 (zn s))):=by
   unfold KY;rw[v1,v2]
  rw[ec];obtain⟨g0,_⟩:=bQ bA.1 bB.1 uA uB;generalize zr (AA 0 (Ay s)) (AA 0 (zn s))=g at*;have h1:=Zt g0;by_cases h:g=1
  ·rw[if_neg (fun x=>x.2 h)]at hq;rw[h1.2 h];exact zj (DP ..) (zl rfl (zc rfl (zl rfl (zg (hq _)))))
  ·rw[if_pos ⟨hc,h⟩]at hq;have hne:CG g≠[1]:=fun x=>h (h1.1 x)
   refine zj (DP ..) (zi (fun d=>zg (hq _)) (fun d=>?_));have d:(CG g).length=1:=by
    have:((CG g).length:Int)=1:=by simpa using d
    omega
   obtain⟨x,hx⟩:=List.length_eq_one_iff.1 d;rw[hx]at hne ⊢;have hx1:x≠1:=fun e=>hne (by rw[e])
   exact zc rfl (zc (by simpa using hx1) (zg (hq _)))
 ·have c:=of_decide_eq_false c;have hc:Bw s=false:=by
   cases h:Bw s with
   |false=>rfl
   |true=>have:=(c2 h).1;omega
  rw[if_neg (fun x=>by rw[hc]at x;cases x.1)]at hq;exact zg (hq _)
theorem AN(s:List UInt8)(hA:Al (Ay s)=true)(hl:s.length≤1000000)(hq:∀ob,Q (.dat i64 (T136.E (Ay s) (zn s) (Bw s) (!Bw s||(AV (zn s)&&decide (zn s≠[48])&&decide (zn s≠[49]))))) ob):Ends P5 (L2 s (AS s)) Q:=by
 obtain⟨c1,c2,c3⟩:=BT s;have es:AS s=((Ay s).length:Int):=rfl;have hle:=T136.Dg s;have big:(Bw s=true→Al (zn s)=true)→(∀ob,Q (.dat i64 (T136.E (Ay s) (zn s) (Bw s) true)) ob)→Ends P5 (L3 s (AS s)) Q:=by
  intro hB hq;unfold T136.E at hq;rw[if_neg (by decide)]at hq;have hlen:s.length=(Ay s).length+(if Bw s=true then 1+(zn s).length else 0):=by
   cases h:Bw s with
   |true=>obtain⟨k1,k2⟩:=c2 h;rw[if_pos rfl,k2,zm];omega
   |false=>obtain⟨k1,k2⟩:=c3 h;rw[if_neg (by decide),k1];rfl
  have hB0:Bw s=false→(zn s).length=0:=fun h=>by rw[(c3 h).2];rfl
  refine zj (Bm ..) ?_;conv=>zeta
  rw[es,wr ((s.length:Int)-((Ay s).length:Int)) (by omega) (by omega),wr _ (by omega) (by omega)];refine zi (fun c=>?_) (fun c=>zi (fun d=>?_) (fun d=>?_))
  ·have c:=of_decide_eq_true c;rw[if_pos (.inl (by omega))]at hq;exact zg (hq _)
  ·have c:=of_decide_eq_false c;have d:=of_decide_eq_true d;have:600<(zn s).length:=by split at hlen<;>omega
   rw[if_pos (.inr this)]at hq;exact zg (hq _)
  ·have c:=of_decide_eq_false c;have d:=of_decide_eq_false d;have hb:(zn s).length≤600:=by
    cases h:Bw s with
    |true=>rw[h,if_pos rfl]at hlen;omega
    |false=>have:=hB0 h;omega
   rw[if_neg (by omega)]at hq;exact A5 s hA hB (by omega) hb (by split at hlen<;>omega) hq
 refine zj (AM ..) ?_;conv=>zeta
 cases hc:Bw s with
 |false=>
  rw[hc]at hq;have hn:¬(AS s<(s.length:Int)):=by rw[es,(c3 hc).1];omega
  exact zl (decide_eq_false hn) (big (fun h=>by rw[hc]at h;cases h) (by rw[hc];exact hq))
 |true=>
  rw[hc]at hq;obtain⟨k1,k2⟩:=c2 hc;have e1:zd .i64 (((Ay s).length:Int)+1)=(((Ay s).length+1:Nat):Int):=by rw[wr _ (by omega) (by omega)];omega
  have e2:(s.drop ((Ay s).length+1)).take (zS s.length ((Ay s).length+1))=s.drop ((Ay s).length+1):=zo (by rw[zm];exact zM _);rw[es,e1,zh,e2, ←k2];rw[es]at big;have bad:(!true||(AV (zn s)&&decide (zn s≠[48])&&decide (zn s≠[49])))=false→∀ob,Q (.dat i64 1) ob:=by
   intro h ob;have:=hq ob;rw[h]at this;exact this
  refine zc (by simp;omega) (zc (by simp;omega) (zc (decide_eq_true (by omega)) (zi (fun d=>zg (bad ?_ _)) (fun d=>zc (by simp;omega) (zi (fun e=>zg (bad ?_ _)) (fun e=>zc (by simp;omega) (zi (fun f=>zg (bad ?_ _)) (fun f=>?_))))))))
  ·have d:AV (zn s)=false:=by simpa using d
   rw[d];rfl
  ·have e:zn s=[48]:=by simpa using e
   rw[decide_eq_false (p:=zn s≠[48]) (fun h=>h e)];simp
  ·have f:zn s=[49]:=by simpa using f
   rw[decide_eq_false (p:=zn s≠[49]) (fun h=>h f)];simp
  ·have d:AV (zn s)=true:=by simpa using d
   have e:zn s≠[48]:=by simpa using e
   have f:zn s≠[49]:=by simpa using f
   rw[d,decide_eq_true e,decide_eq_true f]at hq;exact big (fun _=>(Gs d).2) (by rw[hc];exact hq)
theorem Ak(a s:List UInt8)(hs:s=A3 a)(hl:a.length≤1000000)(hq:∀ob,Q (.dat i64 (Bk a)) ob):Ends P5 (L1 a s) Q:=by
 obtain⟨c1,c2,c3⟩:=BT s;have es:AS s=((Ay s).length:Int):=rfl;have hsl:s.length≤a.length:=by rw[hs];exact T136.Uh a
 have hle:=T136.Dg s;have hE:Bk a=T136.E (Ay s) (zn s) (Bw s) (AV (Ay s)&&(!z7 a||decide (Ay s≠[48]))&&(!Bw s||(AV (zn s)&&decide (zn s≠[48])&&decide (zn s≠[49])))):=by rw[hs];rfl
 rw[hE]at hq;have tk:s.take (Ay s).length=Ay s:=c1.symm;refine zj (Ai ..) ?_;conv=>zeta
 rw[show AS s=((Ay s).length:Int)from rfl,zh,tk];refine zc (decide_eq_true (by omega)) (zc (by simp;omega) (zc (decide_eq_true (by omega)) (zi (fun d=>?_) (fun d=>?_))))
 ·have d:AV (Ay s)=false:=by simpa using d
  rw[d]at hq;exact zg (hq _)
 ·have d:AV (Ay s)=true:=by simpa using d
  have hA:=(Gs d).2;have hne:a.length≠0:=by
   intro h;have h:=yh.1 h;have:s=[]:=by rw[hs,h];rfl
   rw[this]at d;exact absurd d (by decide)
  rw[d,zX]at hq;refine zc (decide_eq_true (by omega)) (zi (fun e=>zc (by simp;omega) (zi (fun f=>?_) (fun f=>?_))) (fun e=>?_))
  ·have hp:z7 a=true:=by
    unfold z7;refine decide_eq_true (zC.1 ?_);have:((a.getD 0 0).toNat:Int)=45:=by simpa using e
    show _=45;omega
   have f:Ay s=[48]:=by simpa using f
   rw[hp,decide_eq_false (p:=Ay s≠[48]) (fun h=>h f)]at hq;exact zg (hq _)
  ·have f:Ay s≠[48]:=by simpa using f
   rw[decide_eq_true f,Bool.or_true,zX]at hq;exact AN s hA (by omega) hq
  ·have hp:z7 a=false:=by
    unfold z7;refine decide_eq_false (fun h=>?_);rw[h]at e;exact absurd e (by decide)
   rw[hp,Bool.not_false,Bool.true_or,zX]at hq;exact AN s hA (by omega) hq
theorem ok:Ad AT 128 E5:=by
 refine Av (X:=P5) rfl YM (d:=9) (by kernel_rfl) (by kernel_rfl) (by kernel_rfl) (fun(a:List UInt8) hl=>?_) (Ab (by kernel_rfl));have hl:a.length≤1000000:=of_decide_eq_true hl;have hq:∀ob,Ae E5 a (.dat i64 (Bk a)) ob:=fun ob=>zB rfl rfl rfl
 refine zu (An a) ?_;conv=>zeta
 cases a with
 |nil=>exact zl rfl (Ak [] [] rfl hl hq)
 |cons c r=>
  have g0:(c::r).getD 0 0=c:=rfl;rw[g0];refine zc (by simp) (zc (by simp) (zi (fun d=>zc (by simp) ?_) (fun d=>?_)))
  ·have hc:c=45:=by
    have:(c.toNat:Int)=45:=by simpa using d
    exact zC.1 (by show _=45;omega)
   have e:(z8 1 (c::r)).take (zS (c::r).length 1)=r:=by show r.take ((r.length+1)-1)=r;rw[ya];exact zL
   rw[e];exact Ak (c::r) r (by unfold A3;rw[g0,if_pos hc];rfl) hl hq
  ·have hc:c≠45:=by rintro rfl;exact absurd d (by decide)
   exact Ak (c::r) (c::r) (by unfold A3;rw[g0,if_neg hc]) hl hq
end T128
end Go.Pe
end
section
namespace Go.Pe
open Sp
open Go.Det
theorem aN:∀g sp,jB.sp g=some sp→Ad AT g sp:=Ac T177.ok (Ac T182.ok (Ac T184n.ok (fun g sp h=>by cases h)))
theorem T137.ok:Ad AT 137 V5:=by
 refine Av (X:=jB) rfl aN (d:=9) (by kernel_rfl) (by kernel_rfl) (by kernel_rfl) (fun(a:List UInt8) ha=>?_) (Ab (by kernel_rfl));have ha:(Du (Ay a)&&Du (zn a)&&decide (a.length≤1499))=true:=ha;rw[zf,zf,decide_eq_true_eq]at ha;obtain⟨⟨ra,rb⟩,hl⟩:=ha;refine zu (T137.An a) (zc (Aj (decide_eq_true rfl) (decide_eq_true (by omega))) (zi (fun c=>zc ra (zc rfl (zg (zB rfl rfl ?_)))) (fun c=>zc ra (zc rb (zg (zB rfl rfl ?_))))))
 ·have c:Bw a=false:=by simpa using c
  show((CP (Ay a),CI (Ay a)),((1:Int),Dz 1))=((Mn a,Ln a),(JN a,JU a));unfold JN JU GC;rw[c,TK];rfl
 ·have c:Bw a=true:=by simpa using c
  show((CP (Ay a),CI (Ay a)),(CP (zn a),CI (zn a)))=((Mn a,Ln a),(JN a,JU a));unfold JN JU GC;rw[c];rfl
theorem ZF:∀g sp,jE.sp g=some sp→Ad AT g sp:=Ac T186.ok (Ac T183.ok (fun g sp h=>by cases h))
theorem La{a:Bj}(h:NH a=true):BL a=true∧Ah (z9 a)<(Am:Int)^4000:=by
 unfold NH at h;rw[zf,decide_eq_true_eq]at h;refine⟨?_,Hr h.1 h.2 (by decide)⟩;unfold BL;exact Aj h.1 (decide_eq_true (by omega))
theorem Ub{x y:Int}(hx:Ah x<(Am:Int)^4000)(hy:Ah y<(Am:Int)^4000):BL (Co (x*y))=true:=by
 refine Gz ?_;rw[I1];have h0:=AE x;have h1:=AE y;have hp:=AQ (b:=Am) (by decide) 4000;have a1:=zx (zA hy) h0;have a2:=Int.mul_lt_mul_of_pos_right hx hp;have a3:(Am:Int)^4000*(Am:Int)^4000=(Am:Int)^8000:=(Int.pow_add _ 4000 4000).symm;have a4:(Am:Int)^8000≤(Am:Int)^9000:=AU (by decide) (by decide);rw[a3]at a2;exact zE a1 (zt a2 a4)
theorem T138.ok:Ad AT 138 Wk:=by
 refine Av (X:=jE) rfl ZF (d:=9) (by kernel_rfl) (by kernel_rfl) (by kernel_rfl) (fun(i:((Int×List Int)×(Int×List Int))×((Int×List Int)×(Int×List Int))) hi=>?_) (Ab (by kernel_rfl));obtain⟨a,b⟩:=i;have hi:((NH a.1&&NH a.2)&&(NH b.1&&NH b.2))=true:=hi;rw[zf,zf,zf]at hi;obtain⟨⟨a1,a2⟩,b1,b2⟩:=hi;obtain⟨a1,la1⟩:=La a1;obtain⟨a2,la2⟩:=La a2;obtain⟨b1,lb1⟩:=La b1;obtain⟨b2,lb2⟩:=La b2;refine zu (T138.An a b) (zc (Aj a1 b2) (zc (Aj b1 a2) (zc (Aj (Ub la1 lb2) (Ub lb1 la2)) (zg (zB rfl rfl ?_)))));show Bz (z9 (SK a.1 b.2)) (z9 (SK b.1 a.2))=Bz _ _;rw[Sv,Sv]
theorem Tu:∀g sp,gK.sp g=some sp→Ad AT g sp:=Ac T167.ok (fun g sp h=>by cases h)
theorem T203.ok:Ad AT 203 Wa:=by
 refine Av (X:=HZ) rfl EA (d:=9) (by kernel_rfl) (by kernel_rfl) (by kernel_rfl) (fun(a:List UInt8) hl=>?_) (Ab (by kernel_rfl));have hl:a.length≤1000000:=of_decide_eq_true hl;have hq:∀s ob,s=A3 a→Ae Wa a (.dat .str s) ob:=fun s ob h=>zB rfl rfl h
 refine zu (T203.An a) (zi (fun c=>zl rfl (zg (hq _ _ ?_))) (fun c=>?_))
 ·have c:a=[48]:=by simpa using c
  subst c;rfl
 ·cases a with
  |nil=>exact zl rfl (zl rfl (zg (hq _ _ rfl)))
  |cons x r=>
   have g0:(x::r).getD 0 0=x:=rfl;have e:(z8 1 (x::r)).take (zS (x::r).length 1)=r:=by show r.take ((r.length+1)-1)=r;rw[ya];exact zL
   rw[g0,e];refine zc (by simp) (zc (by simp) (zi (fun d=>zc rfl (zc (by simp) (zg (hq _ _ ?_)))) (fun d=>zl rfl (zg (hq _ _ ?_)))))
   ·have hc:x=45:=by
     have:(x.toNat:Int)=45:=by simpa using d
     exact zC.1 (by show _=45;omega)
    unfold A3;rw[g0,if_pos hc];rfl
   ·have hc:x≠45:=by rintro rfl;exact absurd d (by decide)
    unfold A3;rw[g0,if_neg hc]
theorem T204.ok:Ad AT 204 cD:=by
 refine Av (X:=gK) rfl Tu (d:=9) (by kernel_rfl) (by kernel_rfl) (by kernel_rfl) (fun(a:List UInt8) hl=>?_) (Ab (by kernel_rfl));have hle:=(T136.Dg a).1;refine zu (T204.An a) (zc hl ?_);rw[show AS a=((Ay a).length:Int)from rfl,zh];exact zc (by simp;omega) (zg (zB rfl rfl (BT a).1.symm))
theorem T205.ok:Ad AT 205 WH:=by
 refine Av (X:=gK) rfl Tu (d:=9) (by kernel_rfl) (by kernel_rfl) (by kernel_rfl) (fun(a:List UInt8) hl=>?_) (Ab (by kernel_rfl));have hl':a.length≤1000000:=of_decide_eq_true hl;obtain⟨c1,c2,c3⟩:=BT a;have hq:∀s ob,s=RM a→Ae WH a (.dat .str s) ob:=fun s ob h=>zB rfl rfl h
 have hle:=(T136.Dg a).1;have es:AS a=((Ay a).length:Int):=rfl;refine zu (T205.An a) (zc hl ?_);rw[es];cases hc:Bw a with
 |false=>
  refine zc (by rw[(c3 hc).1];simp) (zg (hq _ _ ?_));unfold RM;rw[hc];rfl
 |true=>
  obtain⟨k1,k2⟩:=c2 hc;have e1:zd .i64 (((Ay a).length:Int)+1)=(((Ay a).length+1:Nat):Int):=by rw[wr _ (by omega) (by omega)];omega
  have e2:(a.drop ((Ay a).length+1)).take (zS a.length ((Ay a).length+1))=a.drop ((Ay a).length+1):=zo (by rw[zm];exact zM _);rw[e1,zh,e2];refine zl (by simp;omega) (zc (by simp;omega) (zg (hq _ _ ?_)));unfold RM;rw[hc,k2];rfl
theorem Yr:∀g sp,kK.sp g=some sp→Ad AT g sp:=Ac T128.ok (Ac T203.ok (Ac T204.ok (Ac T205.ok (fun g sp h=>by cases h))))
theorem T166.ok:Ad AT 166 XD:=by
 refine Av (X:=kK) rfl Yr (d:=9) (by kernel_rfl) (by kernel_rfl) (by kernel_rfl) (fun(i:List UInt8×Int) hi=>?_) (Ab (by kernel_rfl));obtain⟨a,n⟩:=i;have hi:(decide (a.length≤1000000)&&decide (0≤n)&&decide (n≤1000))=true:=hi;rw[zf,zf,decide_eq_true_eq,decide_eq_true_eq,decide_eq_true_eq]at hi;obtain⟨⟨hl,h0⟩,h1⟩:=hi;have hq:∀v b ob,v=.bl b∨v=.dat .bool b→b=Nx a n→Ae XD (a,n) v ob:=by
  rintro v b ob (rfl|rfl) hb
  ·exact zB rfl rfl hb
  ·exact zB rfl rfl hb
 have e1:zd .i64 (zd .i64 (2*n)+2)=2*n+2:=by rw[wr (2*n) (by omega) (by omega)];exact wr _ (by omega) (by omega)
 have hle:=(T136.Dg a).1;refine zu (T166.An a n) ?_;conv=>zeta
 rw[e1];refine zi (fun c=>zc (decide_eq_true hl) (zi (fun d=>zc (decide_eq_true hl) (zc (decide_eq_true (by omega)) (zi (fun e=>zc (decide_eq_true hl) (zg (hq _ _ _ (.inr rfl) ?_))) (fun e=>zg (hq _ _ _ (.inl rfl) ?_))))) (fun d=>zg (hq _ _ _ (.inl rfl) ?_)))) (fun c=>zg (hq _ _ _ (.inl rfl) ?_))
 ·have d:Bk a=0:=by simpa using d
  unfold Nx;rw[c,e,decide_eq_true d];rfl
 ·unfold Nx;rw[e];simp
 ·have d:Bk a≠0:=by simpa using d
  unfold Nx;rw[decide_eq_false d];simp
 ·unfold Nx;rw[c];rfl
theorem Z1:∀g sp,kG.sp g=some sp→Ad AT g sp:=Ac T128.ok (Ac T166.ok (fun g sp h=>by cases h))
theorem T126.ok:Ad AT 126 JM:=by
 refine Av (X:=kG) rfl Z1 (d:=9) (by kernel_rfl) (by kernel_rfl) (by kernel_rfl) (fun(i:List UInt8×Int) hi=>?_) (Ab (by kernel_rfl));obtain⟨a,n⟩:=i;have hi':(decide (0≤n)&&decide (n≤1000))=true:=hi;rw[zf,decide_eq_true_eq,decide_eq_true_eq]at hi';obtain⟨h0,h1⟩:=hi';have hq:∀v b ob,v=.bl b∨v=.dat .bool b→b=Bp a n→Ae JM (a,n) v ob:=by
  rintro v b ob (rfl|rfl) hb
  ·exact zB rfl rfl hb
  ·exact zB rfl rfl hb
 refine zu (T126.An a n) (zi (fun c=>zc (decide_eq_true (by have:=of_decide_eq_true c;omega)) (zi (fun d=>zg (hq _ _ _ (.inl rfl) ?_)) (fun d=>zc (Aj (Aj (decide_eq_true (by have:=of_decide_eq_true c;omega)) (decide_eq_true h0)) (decide_eq_true h1)) (zg (hq _ _ _ (.inr rfl) ?_))))) (fun c=>zg (hq _ _ _ (.inl rfl) ?_)))
 ·have c:=of_decide_eq_true c;have d:Bk a≠0:=by simpa using d
  unfold Bp;rw[decide_eq_true (p:=a.length≤40) (by omega),decide_eq_true d];rfl
 ·have c:=of_decide_eq_true c;have d:Bk a=0:=by simpa using d
  unfold Bp;rw[decide_eq_true (p:=a.length≤40) (by omega),decide_eq_false (fun h=>h d)];rfl
 ·have c:=of_decide_eq_false c;unfold Bp;rw[decide_eq_false (p:=a.length≤40) (by omega)];rfl
end Go.Pe
end
section
namespace Go.Pe
open Sp
open Go.Det
namespace T272
variable {Q:PV→Ob→Prop}
theorem Ak(g:Nat)(hq:∀ob,Q (.dat i64 (g:Int)) ob):∀(f x y:Nat),y<f→Nat.gcd x y=g→Ends HZ (L1 (x:Int) (y:Int)) Q
 |0,x,y,h,_=>by omega
 |f+1,x,y,hy,hg=>by
  refine zj (Ai ..) ?_;conv=>zeta
  by_cases h0:y=0
  ·subst h0;rw[Nat.gcd_zero_right]at hg;subst hg;exact zl rfl (zg (hq _))
  ·have e:yn (x:Int) (y:Int)=((x % y:Nat):Int):=by rw[zH (zN x)];rfl
   rw[e];have hlt:x % y<y:=Nat.mod_lt _ (by omega);exact zc (by simp;omega) (zc (by simp;omega) (Ak g hq f y (x % y) (by omega) (by rw[Nat.gcd_comm, ←Nat.gcd_rec,Nat.gcd_comm];exact hg)))
theorem ok:Ad AT 272 bK:=by
 refine Av (X:=HZ) rfl EA (d:=9) (by kernel_rfl) (by kernel_rfl) (by kernel_rfl) (fun(i:Int×Int) hi=>?_) (Ab (by kernel_rfl));obtain⟨a,b⟩:=i;have hi:(decide (0≤a)&&decide (a<9223372036854775808)&&decide (0≤b)&&decide (b<9223372036854775808))=true:=hi;rw[zf,zf,zf,decide_eq_true_eq,decide_eq_true_eq,decide_eq_true_eq,decide_eq_true_eq]at hi;obtain⟨⟨⟨a0,_⟩,b0⟩,_⟩:=hi;obtain⟨x,rfl⟩:=zy a0;obtain⟨y,rfl⟩:=zy b0;refine zu (An x y) (Ak (Nat.gcd x y) (fun ob=>zB rfl rfl ?_) (y+1) x y (Nat.lt_succ_self _) rfl);show((Nat.gcd x y:Nat):Int)=zr (x:Int) (y:Int);rw[Iz];rfl
end T272
namespace T130
theorem ok:Ad AT 130 Pg:=by
 refine Av (X:=HZ) rfl EA (d:=9) (by kernel_rfl) (by kernel_rfl) (by kernel_rfl) (fun(s:List UInt8) hl=>?_) (Ab (by kernel_rfl));have hq:∀v ob,v=FG s→Ae Pg s (.dat i64 v) ob:=fun v ob hb=>zB rfl rfl hb
 refine zu (An s) (zi (fun c=>zg (hq _ _ ?_)) (fun c=>?_))
 ·have c:s=[48]:=by simpa using c
  unfold FG;rw[if_pos c]
 ·have c:¬s=[48]:=by simpa using c
  cases s with
  |nil=>exact zl rfl (zg (hq _ _ rfl))
  |cons x r=>
   have g0:(x::r).getD 0 0=x:=rfl;rw[g0];refine zc (by simp) (zc (by simp) (zi (fun d=>zg (hq _ _ ?_)) (fun d=>zg (hq _ _ ?_))))
   ·have hx:x=45:=by
     have:(x.toNat:Int)=45:=by simpa using d
     exact zC.1 (by show _=45;omega)
    unfold FG;rw[if_neg c,g0,if_pos hx]
   ·have hx:x≠45:=by rintro rfl;exact absurd d (by decide)
    unfold FG;rw[if_neg c,g0,if_neg hx]
end T130
theorem Y8:∀g sp,kC.sp g=some sp→Ad AT g sp:=Ac T130.ok (fun g sp h=>by cases h)
theorem T174.ok:Ad AT 174 Xg:=by
 refine Av (X:=kC) rfl Y8 (d:=9) (by kernel_rfl) (by kernel_rfl) (by kernel_rfl) (fun(s:List UInt8) hl=>?_) (Ab (by kernel_rfl));have hl:s.length≤1000000:=of_decide_eq_true hl;have hq:∀v ob,v=Jd s→Ae Xg s (.dat .str v) ob:=fun v ob hb=>zB rfl rfl hb
 refine zu (T174.An s) (zc (decide_eq_true hl) ?_);unfold Jd at hq;unfold FG;by_cases c:s=[48]
 ·rw[if_pos c];rw[if_pos c]at hq;exact zl rfl (zc (decide_eq_true hl) (zc rfl (zg (hq _ _ rfl))))
 ·rw[if_neg c];rw[if_neg c]at hq;by_cases d:s.getD 0 0=45
  ·rw[if_pos d];rw[if_pos d]at hq;have hn:s≠[]:=by rintro rfl;exact absurd d (by decide)
   have hp:1≤s.length:=List.length_pos_iff.2 hn;refine zc rfl (zc (by simp;omega) (zg (hq _ _ ?_)));exact zo (by rw[zm];exact zM _)
  ·rw[if_neg d];rw[if_neg d]at hq;exact zl rfl (zc (decide_eq_true hl) (zl rfl (zc (by simp;omega) (zg (hq _ _ rfl)))))
namespace T273
theorem Vp:∀k:Fin 10,zW (zS (k.1+1) k.1) (z8 k.1 [(48:UInt8),49,50,51,52,53,54,55,56,57])=[zJ (48+k.1)]:=by decide
theorem Ak{Q:PV→Ob→Prop}(l:Nat)(hl:l≤20):∀(f n:Nat) (acc:List UInt8),n<9223372036854775808→n<10^f→l≤acc.length+f→acc.length+f≤64→(∀ob,Q (.dat .str (IT (f+1) n l acc)) ob)→Ends HZ (L1 (n:Int) (l:Int) acc) Q:=by
 intro f;induction f with
 |zero=>
  intro n acc hn hf hle h64 hq;have h0:n=0:=by rw[Nat.pow_zero]at hf;omega
  subst h0;unfold IT at hq;rw[if_pos ⟨rfl,by omega⟩]at hq;exact zj (Ai ..) (zl rfl (zl (by simp;omega) (zg (hq _))))
 |succ f ih=>
  intro n acc hn hf hle h64 hq;have e1:yn (n:Int) 10=((n % 10:Nat):Int):=by rw[zH (zN n)];rfl
  have e2:zd .i64 (((n % 10:Nat):Int)+1)=((n % 10+1:Nat):Int):=by rw[wr _ (by omega) (by omega)];omega
  have e3:zd .i64 (zk (n:Int) 10)=((n/10:Nat):Int):=by rw[zG (zN n),wr _ (by omega) (by omega)];rfl
  have hd:=Vp ⟨n % 10,Nat.mod_lt _ (by decide)⟩;have hd:zW (zS (n % 10+1) (n % 10)) (z8 (n % 10) [(48:UInt8),49,50,51,52,53,54,55,56,57])=[zJ (48+n % 10)]:=hd;have hm:n % 10<10:=Nat.mod_lt _ (by decide);rw[Nat.pow_succ]at hf;refine zj (Ai ..) ?_;conv=>zeta
  rw[e1,e2,e3,zh,zh,hd];by_cases hz:n=0∧l≤acc.length
  ·obtain⟨z1,z2⟩:=hz;subst z1;unfold IT at hq;rw[if_pos ⟨rfl,z2⟩]at hq;exact zl rfl (zl (by simp;omega) (zg (hq _)))
  ·have hq2:∀ob,Q (.dat .str (IT (f+1) (n/10) l (zJ (48+n % 10)::acc))) ob:=by
    intro ob;have:=hq ob;unfold IT at this;rw[if_neg hz]at this;exact this
   have go:Ends HZ (L1 ((n/10:Nat):Int) (l:Int) ([zJ (48+n % 10)]++acc)) Q:=ih (n/10) (zJ (48+n % 10)::acc) (by omega) (by omega) (by rw[zw];omega) (by rw[zw];omega) hq2;refine zi (fun _=>?_) (fun c=>zc ?_ ?_)
   ·exact zc rfl (zc rfl (zc (by simp;omega) (zc (by simp;omega) (zc rfl go))))
   ·have c:=of_decide_eq_false c;exact decide_eq_true (by omega)
   ·exact zc rfl (zc rfl (zc (by simp;omega) (zc (by simp;omega) (zc rfl go))))
theorem ok:Ad AT 273 Rm:=by
 refine Av (X:=HZ) rfl EA (d:=9) (by kernel_rfl) (by kernel_rfl) (by kernel_rfl) (fun(i:Int×Int) hi=>?_) (Ab (by kernel_rfl));obtain⟨a,b⟩:=i;have hi:(decide (0≤a)&&decide (a<9223372036854775808)&&decide (0≤b)&&decide (b≤20))=true:=hi;rw[zf,zf,zf,decide_eq_true_eq,decide_eq_true_eq,decide_eq_true_eq,decide_eq_true_eq]at hi;obtain⟨⟨⟨a0,a1⟩,b0⟩,b1⟩:=hi;obtain⟨x,rfl⟩:=zy a0;obtain⟨y,rfl⟩:=zy b0;refine zu (An x y) (Ak y (by omega) 63 x [] (by omega) (by omega) (by show y≤0+63;omega) (by decide) (fun ob=>zB rfl rfl ?_));show IT 64 x y []=IT 64 (x:Int).toNat (y:Int).toNat [];rw[zh,zh]
end T273
theorem YI:∀g sp,M3.sp g=some sp→Ad AT g sp:=Ac T263.ok (Ac T167.ok (fun g sp h=>by cases h))
namespace T211
variable {Q:PV→Ob→Prop}
theorem BY(neg:Bool)(n d:Int)(h0:0≤n)(h1:n<1000000000)(hq:∀ob,Q (.tup [.dat i64 (if neg=true then -n else n),.dat i64 d,.bl true]) ob):Ends M3 (L7 neg n d) Q:=by
 refine zj (Dw ..) ?_;conv=>zeta
 cases neg with
 |true=>
  refine zc rfl (zg ?_);rw[wr _ (by omega) (by omega),Int.zero_sub];exact hq _
 |false=>exact zl rfl (zg (hq _))
theorem BP(s:List UInt8)(neg:Bool)(n:Int)(h0:0≤n)(h1:n<1000000000)(hl:s.length≤20)(lb:(zn s).length≤9)(db:Al (zn s)=true)(hq:∀ob,Q (.tup [.dat i64 (if neg=true then -n else n),.dat i64 (if Bw s=true then AA 0 (zn s)else 1),.bl true]) ob):Ends M3 (L5 s neg (AS s) n 1) Q:=by
 obtain⟨c1,c2,c3⟩:=BT s;refine zj (CZ ..) ?_;conv=>zeta
 have es:AS s=((Ay s).length:Int):=rfl;have hle:=(T136.Dg s).1;cases hc:Bw s with
 |true=>
  rw[hc]at hq;obtain⟨k1,k2⟩:=c2 hc;have e3:zd .i64 (AS s+1)=(((Ay s).length+1:Nat):Int):=by rw[es,wr _ (by omega) (by omega)];omega
  have hl2:(zn s).length=s.length-((Ay s).length+1):=by rw[k2,zm]
  have et:(zn s).take (zS s.length ((Ay s).length+1))=zn s:=zo (by show _≤s.length-_;omega);rw[e3,zh, ←k2,et];exact zc (by simp[es];omega) (zc (by simp;omega) (zc (T207.BJ db (by omega)) (BY neg n _ h0 h1 hq)))
 |false=>
  obtain⟨k1,k2⟩:=c3 hc;rw[hc]at hq;exact zl (by simp[es,k1]) (BY neg n 1 h0 h1 hq)
theorem Bt(s:List UInt8)(neg:Bool)(hl:s.length≤20)(la:(Ay s).length≤9)(lb:(zn s).length≤9)(da:Al (Ay s)=true)(db:Al (zn s)=true)(hq:∀n ob,n=AA 0 (Ay s)→Q (.tup [.dat i64 (if neg=true then -n else n),.dat i64 (if Bw s=true then AA 0 (zn s)else 1),.bl true]) ob):Ends M3 (L3 s neg ) Q:=by
 obtain⟨c1,c2,c3⟩:=BT s;have es:AS s=((Ay s).length:Int):=rfl;have hle:=(T136.Dg s).1;have hlen:s.length-(Ay s).length≤10:=by
  cases hc:Bw s with
  |true=>
   obtain⟨k1,k2⟩:=c2 hc;have:(zn s).length=s.length-((Ay s).length+1):=by rw[k2,zm]
   omega
  |false=>rw[(c3 hc).1];omega
 have et:zW (yo (AS s)) s=Ay s:=by rw[es,zh];exact c1.symm
 obtain⟨v0,v1⟩:=T207.BH da la;refine zj (Bm ..) ?_;conv=>zeta
 rw[et];refine zc (by simp;omega) (zl (by simp[es];omega) (zl ?_ (zc (by simp[es];omega) (zc (T207.BJ da (by omega)) ?_))))
 ·rw[es,wr _ (by omega) (by omega)];exact decide_eq_false (by omega)
 ·exact BP s neg (AA 0 (Ay s)) v0 v1 hl lb db (fun ob=>hq _ ob rfl)
theorem Gi(n d:Int)(hq:∀ob,Q (.tup [.dat i64 n,.dat i64 d,.bl true]) ob):Ends M3 (L8 n d) Q:=by
 refine zj (E7 ..) ?_;conv=>zeta
 exact zg (hq _)
theorem Ht(s:List UInt8)(n:Int)(hl:s.length≤20)(lb:(zn s).length≤9)(db:Al (zn s)=true)(hq:∀ob,Q (.tup [.dat i64 n,.dat i64 (if Bw s=true then AA 0 (zn s)else 1),.bl true]) ob):Ends M3 (L6 s (AS s) n 1) Q:=by
 obtain⟨c1,c2,c3⟩:=BT s;refine zj (DP ..) ?_;conv=>zeta
 have es:AS s=((Ay s).length:Int):=rfl;have hle:=(T136.Dg s).1;cases hc:Bw s with
 |true=>
  rw[hc]at hq;obtain⟨k1,k2⟩:=c2 hc;have e3:zd .i64 (AS s+1)=(((Ay s).length+1:Nat):Int):=by rw[es,wr _ (by omega) (by omega)];omega
  have hl2:(zn s).length=s.length-((Ay s).length+1):=by rw[k2,zm]
  have et:(zn s).take (zS s.length ((Ay s).length+1))=zn s:=zo (by show _≤s.length-_;omega);rw[e3,zh, ←k2,et];exact zc (by simp[es];omega) (zc (by simp;omega) (zc (T207.BJ db (by omega)) (Gi n _ hq)))
 |false=>
  obtain⟨k1,k2⟩:=c3 hc;rw[hc]at hq;exact zl (by simp[es,k1]) (Gi n 1 hq)
theorem A5(s:List UInt8)(hl:s.length≤20)(la:(Ay s).length≤9)(lb:(zn s).length≤9)(da:Al (Ay s)=true)(db:Al (zn s)=true)(hq:∀n ob,n=AA 0 (Ay s)→Q (.tup [.dat i64 n,.dat i64 (if Bw s=true then AA 0 (zn s)else 1),.bl true]) ob):Ends M3 (L4 s ) Q:=by
 obtain⟨c1,c2,c3⟩:=BT s;have es:AS s=((Ay s).length:Int):=rfl;have hle:=(T136.Dg s).1;have hlen:s.length-(Ay s).length≤10:=by
  cases hc:Bw s with
  |true=>
   obtain⟨k1,k2⟩:=c2 hc;have:(zn s).length=s.length-((Ay s).length+1):=by rw[k2,zm]
   omega
  |false=>rw[(c3 hc).1];omega
 have et:zW (yo (AS s)) s=Ay s:=by rw[es,zh];exact c1.symm
 obtain⟨v0,v1⟩:=T207.BH da la;refine zj (BB ..) ?_;conv=>zeta
 rw[et];refine zc (by simp;omega) (zl (by simp[es];omega) (zl ?_ (zc (by simp[es];omega) (zc (T207.BJ da (by omega)) ?_))))
 ·rw[es,wr _ (by omega) (by omega)];exact decide_eq_false (by omega)
 ·exact Ht s (AA 0 (Ay s)) hl lb db (fun ob=>hq _ ob rfl)
theorem ok:Ad AT 211 RB:=by
 refine Av (X:=M3) rfl YI (d:=9) (by kernel_rfl) (by kernel_rfl) (by kernel_rfl) (fun(a:List UInt8) ha=>?_) (Ab (by kernel_rfl));have ha:(decide (a.length≤20)&&decide ((Ay (A3 a)).length≤9)&&decide ((zn (A3 a)).length≤9)&&Al (Ay (A3 a))&&Al (zn (A3 a)))=true:=ha;rw[zf,zf,zf,zf,decide_eq_true_eq,decide_eq_true_eq,decide_eq_true_eq]at ha;obtain⟨⟨⟨⟨hl,la⟩,lb⟩,da⟩,db⟩:=ha;have hq:∀n ob,n=A0 a→Ae RB a (.tup [.dat i64 n,.dat i64 (if Bw (A3 a)=true then AA 0 (zn (A3 a))else 1),.bl true]) ob:=fun n ob h=>zB rfl rfl (by rw[h];rfl)
 refine zu (An a) (zl (by simp;omega) ?_);cases a with
 |nil=>exact zl rfl (zj (AM ..) (A5 [] hl la lb da db (fun n ob h=>hq n ob (by rw[h];rfl))))
 |cons c r=>
  have g0:(c::r).getD 0 0=c:=rfl;rw[g0];refine zc (by simp) (zc (by simp) (zj (Ai ..) (zi (fun d=>zc (by simp) ?_) (fun d=>?_))))
  ·have hc:c=45:=by
    have:(c.toNat:Int)=45:=by simpa using d
    exact zC.1 (by show _=45;omega)
   have ep:A3 (c::r)=r:=by unfold A3;rw[g0,if_pos hc];rfl
   have eb:z7 (c::r)=true:=by unfold z7;rw[g0];exact decide_eq_true hc
   have et:zW (zS (c::r).length 1) (z8 1 (c::r))=r:=zo (zM _);unfold A0 at hq;rw[ep]at la lb da db hq;rw[eb]at hq;rw[et,d];exact Bt r true (by rw[zw]at hl;omega) la lb da db (fun n ob h=>hq _ ob (by rw[h];try rfl))
  ·have hc:c≠45:=by rintro rfl;exact absurd d (by decide)
   have ep:A3 (c::r)=c::r:=by unfold A3;rw[g0,if_neg hc]
   have eb:z7 (c::r)=false:=by unfold z7;rw[g0];exact decide_eq_false hc
   unfold A0 at hq;rw[ep]at la lb da db hq;rw[eb]at hq;rw[d];exact Bt (c::r) false hl la lb da db (fun n ob h=>hq _ ob (by rw[h];try rfl))
end T211
end Go.Pe
end
section
namespace Go.Sp
theorem Qg:∀(f n l:Nat) (acc:List UInt8),(IT f n l acc).length≤acc.length+f
 |0,_,_,acc=>zM _
 |f+1,n,l,acc=>by
  unfold IT;split
  ·omega
  ·have:=Qg f (n/10) l (zJ (48+n % 10)::acc);rw[zw]at this;omega
theorem IX(n l:Int):(B0 n l).length≤64:=by
 have:=Qg 64 n.toNat l.toNat [];rw[yj,yi]at this;exact this
theorem Pf{n:Int}(h:n<0):fH n=[45]:=by unfold fH;rw[if_pos h]
theorem PI{n:Int}(h:¬n<0):fH n=[]:=by unfold fH;rw[if_neg h]
theorem TV{n:Int}(h:1<n):dP n=47::B0 n 1:=by unfold dP;rw[if_pos h]
theorem TX{n:Int}(h:¬1<n):dP n=[]:=by unfold dP;rw[if_neg h]
theorem Wp{a b:Int}(h:0<b):0<gI a b:=by
 rw[Iz];have:0<Int.gcd a b:=Nat.gcd_pos_of_pos_right _ (by omega);omega
end Go.Sp
namespace Go.Pe
open Sp
open Go.Det
namespace T212
theorem Q8{n:Int}(h1: -9000000000000000000≤n)(h2:n≤9000000000000000000):imax n (zd .i64 (0-n))=Ah n:=by
 rw[wr _ (by omega) (by omega)];unfold imax Ah;split<;>split<;>omega
theorem Xo{n g:Int}(h:0<g):(0≤n→0≤zk n g∧zk n g≤n)∧(n≤0→n≤zk n g∧zk n g≤0):=by
 have pos:∀m:Int,0≤m→0≤zk m g∧zk m g≤m:=fun m hm=>by
  rw[zG hm];exact⟨Int.ediv_nonneg hm (by omega),Int.ediv_le_self _ hm⟩
 refine⟨pos n,fun hn=>?_⟩;have:=pos (-n) (by omega);rw[Int.neg_tdiv]at this;omega
theorem half{Q:PV→Ob→Prop}(N D:Int)(n1: -4000000000000000000≤N)(n2:N≤4000000000000000000)(d1:0<D)(d2:D≤4000000000000000000)(hq:∀ob,Q (.dat .str (Ym N D)) ob):Ends iX
 (zU (UB (imax N (zd ze ((0:Int)-N))) D)
   (zU (decide (zr (imax N (zd ze ((0:Int)-N))) D≠(0:Int)))
    (zU (decide (zr (imax N (zd ze ((0:Int)-N))) D≠(0:Int)))
    (zU (decide (zd ze (zk N (zr (imax N (zd ze ((0:Int)-N))) D))<(0:Int)))
     (zU (decide ((0:Int)≤imax (zd ze (zk N (zr (imax N (zd ze ((0:Int)-N))) D))) (zd ze ((0:Int)-zd ze (zk N (zr (imax N (zd ze ((0:Int)-N))) D)))))&&decide (imax (zd ze (zk N (zr (imax N (zd ze ((0:Int)-N))) D))) (zd ze ((0:Int)-zd ze (zk N (zr (imax N (zd ze ((0:Int)-N))) D))))<(9223372036854775808:Int))&&decide ((0:Int)≤(1:Int))&&decide ((1:Int)≤(20:Int)))
     (zU (decide ((1:Nat)+zD (B0 (imax (zd ze (zk N (zr (imax N (zd ze ((0:Int)-N))) D))) (zd ze ((0:Int)-zd ze (zk N (zr (imax N (zd ze ((0:Int)-N))) D))))) (1:Int))≤(4611686018427387904:Nat)))
      (zU (decide (zd ze (zk D (zr (imax N (zd ze ((0:Int)-N))) D))>(1:Int)))
      (zU (decide (zD ([(45:UInt8)]++B0 (imax (zd ze (zk N (zr (imax N (zd ze ((0:Int)-N))) D))) (zd ze ((0:Int)-zd ze (zk N (zr (imax N (zd ze ((0:Int)-N))) D))))) (1:Int))+(1:Nat)≤(4611686018427387904:Nat)))
       (zU (decide ((0:Int)≤zd ze (zk D (zr (imax N (zd ze ((0:Int)-N))) D)))&&decide (zd ze (zk D (zr (imax N (zd ze ((0:Int)-N))) D))<(9223372036854775808:Int))&&decide ((0:Int)≤(1:Int))&&decide ((1:Int)≤(20:Int)))
       (zU (decide (zD ([(45:UInt8)]++B0 (imax (zd ze (zk N (zr (imax N (zd ze ((0:Int)-N))) D))) (zd ze ((0:Int)-zd ze (zk N (zr (imax N (zd ze ((0:Int)-N))) D))))) (1:Int)++[(47:UInt8)])+zD (B0 (zd ze (zk D (zr (imax N (zd ze ((0:Int)-N))) D))) (1:Int))≤(4611686018427387904:Nat)))
        (Tr.leaf (PV.dat Sh.str ([(45:UInt8)]++B0 (imax (zd ze (zk N (zr (imax N (zd ze ((0:Int)-N))) D))) (zd ze ((0:Int)-zd ze (zk N (zr (imax N (zd ze ((0:Int)-N))) D))))) (1:Int)++[(47:UInt8)]++B0 (zd ze (zk D (zr (imax N (zd ze ((0:Int)-N))) D))) (1:Int))) ([]))
        (zT))
       (zT))
       (zT))
      (Tr.leaf (PV.dat Sh.str ([(45:UInt8)]++B0 (imax (zd ze (zk N (zr (imax N (zd ze ((0:Int)-N))) D))) (zd ze ((0:Int)-zd ze (zk N (zr (imax N (zd ze ((0:Int)-N))) D))))) (1:Int))) ([])))
      (zT))
     (zT))
     (zU (decide ((0:Int)≤imax (zd ze (zk N (zr (imax N (zd ze ((0:Int)-N))) D))) (zd ze ((0:Int)-zd ze (zk N (zr (imax N (zd ze ((0:Int)-N))) D)))))&&decide (imax (zd ze (zk N (zr (imax N (zd ze ((0:Int)-N))) D))) (zd ze ((0:Int)-zd ze (zk N (zr (imax N (zd ze ((0:Int)-N))) D))))<(9223372036854775808:Int))&&decide ((0:Int)≤(1:Int))&&decide ((1:Int)≤(20:Int)))
     (zU (decide ((0:Nat)+zD (B0 (imax (zd ze (zk N (zr (imax N (zd ze ((0:Int)-N))) D))) (zd ze ((0:Int)-zd ze (zk N (zr (imax N (zd ze ((0:Int)-N))) D))))) (1:Int))≤(4611686018427387904:Nat)))
      (zU (decide (zd ze (zk D (zr (imax N (zd ze ((0:Int)-N))) D))>(1:Int)))
      (zU (decide (zD ([]++B0 (imax (zd ze (zk N (zr (imax N (zd ze ((0:Int)-N))) D))) (zd ze ((0:Int)-zd ze (zk N (zr (imax N (zd ze ((0:Int)-N))) D))))) (1:Int))+(1:Nat)≤(4611686018427387904:Nat)))
       (zU (decide ((0:Int)≤zd ze (zk D (zr (imax N (zd ze ((0:Int)-N))) D)))&&decide (zd ze (zk D (zr (imax N (zd ze ((0:Int)-N))) D))<(9223372036854775808:Int))&&decide ((0:Int)≤(1:Int))&&decide ((1:Int)≤(20:Int)))
       (zU (decide (zD ([]++B0 (imax (zd ze (zk N (zr (imax N (zd ze ((0:Int)-N))) D))) (zd ze ((0:Int)-zd ze (zk N (zr (imax N (zd ze ((0:Int)-N))) D))))) (1:Int)++[(47:UInt8)])+zD (B0 (zd ze (zk D (zr (imax N (zd ze ((0:Int)-N))) D))) (1:Int))≤(4611686018427387904:Nat)))
        (Tr.leaf (PV.dat Sh.str ([]++B0 (imax (zd ze (zk N (zr (imax N (zd ze ((0:Int)-N))) D))) (zd ze ((0:Int)-zd ze (zk N (zr (imax N (zd ze ((0:Int)-N))) D))))) (1:Int)++[(47:UInt8)]++B0 (zd ze (zk D (zr (imax N (zd ze ((0:Int)-N))) D))) (1:Int))) ([]))
        (zT))
       (zT))
       (zT))
      (Tr.leaf (PV.dat Sh.str ([]++B0 (imax (zd ze (zk N (zr (imax N (zd ze ((0:Int)-N))) D))) (zd ze ((0:Int)-zd ze (zk N (zr (imax N (zd ze ((0:Int)-N))) D))))) (1:Int))) ([])))
      (zT))
     (zT)))
    (zT))
    (zT))
   (zT)) Q:=by
 rw[Q8 (n:=N) (by omega) (by omega)];have ha:=Aq N;have gp:=Wp (a:=Ah N) d1;have hgP:UB (Ah N) D=true:=by
  unfold UB;rw[decide_eq_true (by omega),decide_eq_true (by omega),decide_eq_true (by omega),decide_eq_true (by omega)];rfl
 unfold Ym at hq;generalize zr (Ah N) D=g at*;obtain⟨q1,q2⟩:=Xo (n:=N) gp;obtain⟨q3,_⟩:=Xo (n:=D) gp;have q3:=q3 (by omega);have w1: -4000000000000000000≤zk N g∧zk N g≤4000000000000000000:=by
  rcases Int.le_total 0 N with h|h
  ·have:=q1 h;omega
  ·have:=q2 h;omega
 rw[wr (zk N g) (by omega) (by omega),wr (zk D g) (by omega) (by omega),Q8 (n:=zk N g) (by omega) (by omega)];generalize zk N g=n at*;generalize zk D g=d at*;have hn:=Aq n;have l1:=IX (Ah n) 1;have l2:=IX d 1;have p1:(decide ((0:Int)≤Ah n)&&decide (Ah n<(9223372036854775808:Int))&&decide ((0:Int)≤(1:Int))&&decide ((1:Int)≤(20:Int)))=true:=by
  rw[decide_eq_true (by omega),decide_eq_true (by omega)];rfl
 have p2:(decide ((0:Int)≤d)&&decide (d<(9223372036854775808:Int))&&decide ((0:Int)≤(1:Int))&&decide ((1:Int)≤(20:Int)))=true:=by
  rw[decide_eq_true (by omega),decide_eq_true (by omega)];rfl
 have g0:decide (g≠0)=true:=decide_eq_true (by omega);refine zc hgP (zc g0 (zc g0 (zi (fun c=>zc p1 (zc (decide_eq_true (by omega)) (zi (fun e=>?_) (fun e=>zg ?_)))) (fun c=>zc p1 (zc (decide_eq_true (by omega)) (zi (fun e=>?_) (fun e=>zg ?_)))))))
 ·refine zc (decide_eq_true (by rw[zq,zP];omega)) (zc p2 (zc (decide_eq_true (by rw[zq,zq,zP,zP];omega)) (zg ?_)));rw[Pf (of_decide_eq_true c),TV (of_decide_eq_true e)]at hq;rw[ye _ [47]];exact hq _
 ·rw[Pf (of_decide_eq_true c),TX (of_decide_eq_false e),zY]at hq;exact hq _
 ·refine zc (decide_eq_true (by rw[zq,yj];omega)) (zc p2 (zc (decide_eq_true (by rw[zq,zq,zP,yj];omega)) (zg ?_)));rw[PI (of_decide_eq_false c),TV (of_decide_eq_true e)]at hq;rw[ye _ [47]];exact hq _
 ·rw[PI (of_decide_eq_false c),TX (of_decide_eq_false e),zY]at hq;exact hq _
theorem Zn:∀g sp,iX.sp g=some sp→Ad AT g sp:=Ac T272.ok (Ac T273.ok (Ac T208.ok (Ac (CQ (by kernel_rfl) (Ab (by kernel_rfl))) (fun g sp h=>by cases h))))
theorem ok:Ad AT 212 dO:=by
 refine Av (X:=iX) rfl Zn (d:=9) (by kernel_rfl) (by kernel_rfl) (by kernel_rfl) (fun(i:Int×Int) hi=>?_) (Ab (by kernel_rfl));obtain⟨n,d⟩:=i;have hi:gJ n d=true:=hi;unfold gJ at hi;rw[zf,zf,zf,zf,decide_eq_true_eq,decide_eq_true_eq,decide_eq_true_eq,decide_eq_true_eq,decide_eq_true_eq]at hi;obtain⟨⟨⟨⟨h1,h2⟩,h3⟩,h4⟩,h5⟩:=hi;have hq:∀s ob,s=fO n d→Ae dO (n,d) (.dat .str s) ob:=fun s ob h=>zB rfl rfl h
 unfold fO at hq;refine zu (An n d) (zl (decide_eq_false (by omega)) (zl (decide_eq_false (by omega)) (zl (decide_eq_false (by omega)) (zl (decide_eq_false (by omega)) (zi (fun c=>?_) (fun c=>?_))))))
 ·have c:=of_decide_eq_true c;rw[if_pos c]at hq;have e1:zd .i64 (0-n)= -n:=by rw[wr _ (by omega) (by omega)];omega
  have e2:zd .i64 (0-d)= -d:=by rw[wr _ (by omega) (by omega)];omega
  rw[e1,e2];exact half (-n) (-d) (by omega) (by omega) (by omega) (by omega) (fun ob=>hq _ ob rfl)
 ·have c:=of_decide_eq_false c;rw[if_neg c]at hq;exact half n d h1 h2 (by omega) h4 (fun ob=>hq _ ob rfl)
end T212
end Go.Pe
end
section
namespace Go.Sp
theorem FO{a:List UInt8}(h:A1 a=true):Gg a=true∧AJ a≠0:=by
 unfold A1 at h;rw[zf,decide_eq_true_eq]at h;exact h
theorem J1{a:List UInt8}(h:Gg a=true):a.length≤20∧(Ay (A3 a)).length≤9∧(AG (A3 a)).length≤9∧Al (Ay (A3 a))=true∧Al (AG (A3 a))=true:=by
 unfold Gg SL at h;rw[zf,zf,zf,zf,decide_eq_true_eq,decide_eq_true_eq,decide_eq_true_eq]at h;obtain⟨⟨⟨⟨h1,h2⟩,h3⟩,h4⟩,h5⟩:=h;exact⟨h1,h2,h3,h4,h5⟩
theorem JX{a:List UInt8}(h1:a.length≤20)(h2:(Ay (A3 a)).length≤9)(h3:(AG (A3 a)).length≤9)(h4:Al (Ay (A3 a))=true)(h5:Al (AG (A3 a))=true):Gg a=true:=by
 unfold Gg SL;rw[decide_eq_true h1,decide_eq_true h2,decide_eq_true h3,h4,h5];rfl
theorem Gt{a:List UInt8}(h:A1 a=true): -1000000000<A0 a∧A0 a<1000000000∧0<AJ a∧AJ a<1000000000:=by
 obtain⟨hp,hd⟩:=FO h;obtain⟨_,h2,h3,h4,h5⟩:=J1 hp;obtain⟨a1,a2⟩:=Go.Pe.T207.BH h4 h2;obtain⟨b1,b2⟩:=Go.Pe.T207.BH h5 h3;have e: -1000000000<A0 a∧A0 a<1000000000:=by unfold A0;split<;>omega
 have f:0≤AJ a∧AJ a<1000000000:=by unfold AJ;split<;>omega
 omega
theorem JE{x y:Int}(h1: -1000000000<x)(h2:x<1000000000)(h3:0<y)(h4:y<1000000000): -1000000000000000000≤x*y∧x*y≤1000000000000000000:=by
 have a:=zp (show x≤1000000000 by omega) (show 0≤y by omega);have b:=zp (show -1000000000≤x by omega) (show 0≤y by omega);omega
theorem XS{x y:Int}(h1:0<x)(h2:x<1000000000)(h3:0<y)(h4:y<1000000000):0<x*y∧x*y≤1000000000000000000:=⟨Int.mul_pos h1 h3,(JE (by omega) h2 h3 h4).2⟩
theorem Ov{b:List UInt8}(h:A1 b=true):A1 (Jd b)=true∧A0 (Jd b)= -A0 b∧AJ (Jd b)=AJ b:=by
 obtain⟨hp,hd⟩:=FO h;obtain⟨h1,h2,h3,h4,h5⟩:=J1 hp;unfold Jd;by_cases h0:b=[48]
 ·subst h0;exact⟨h,rfl,rfl⟩
 ·rw[if_neg h0];by_cases hm:b.getD 0 0=45
  ·rw[if_pos hm];have e1:A3 b=b.drop 1:=by unfold A3;rw[if_pos hm]
   have eb:preB b=true:=decide_eq_true hm;have ed:¬(b.drop 1).getD 0 0=45:=by
    intro hh;rw[e1]at h4;cases hr:b.drop 1 with
    |nil=>rw[hr]at hh;exact absurd hh (by decide)
    |cons c r=>
     rw[hr]at hh h4;have hc:c=45:=hh;subst hc;rw[Go.Pe.EE,if_neg (by decide)]at h4;have:(BE 45&&Al (Ay r))=true:=h4;rw[zf]at this;exact absurd this.1 (by decide)
   have e2:A3 (b.drop 1)=b.drop 1:=by unfold A3;rw[if_neg ed]
   have eb2:preB (b.drop 1)=false:=decide_eq_false ed;have k1:A0 (b.drop 1)= -A0 b:=by unfold A0;rw[e1,e2,eb,eb2];exact(Int.neg_neg _).symm
   have k2:AJ (b.drop 1)=AJ b:=by unfold AJ;rw[e1,e2]
   refine⟨?_,k1,k2⟩;unfold A1;rw[k2,decide_eq_true hd,yf];rw[e1]at h2 h3 h4 h5;exact JX (by rw[zm];omega) (by rw[e2];exact h2) (by rw[e2];exact h3) (by rw[e2];exact h4) (by rw[e2];exact h5)
  ·rw[if_neg hm];have e1:A3 b=b:=by unfold A3;rw[if_neg hm]
   have eb:preB b=false:=decide_eq_false hm;have e2:A3 (45::b)=b:=rfl;have eb2:preB (45::b)=true:=rfl;have k1:A0 (45::b)= -A0 b:=by unfold A0;rw[e1,e2,eb,eb2];rfl
   have k2:AJ (45::b)=AJ b:=by unfold AJ;rw[e1,e2]
   refine⟨?_,k1,k2⟩;unfold A1;rw[k2,decide_eq_true hd,yf];rw[e1]at h2 h3 h4 h5;have hlen:b.length≤19:=by
    obtain⟨c1,c2,c3⟩:=Go.Pe.BT b;have:=congrArg zD c1;cases hc:Bw b with
    |true=>
     obtain⟨m1,m2⟩:=c2 hc;have:=congrArg zD m2;rw[zm]at this;omega
    |false=>
     have:=congrArg zD (c3 hc).1;omega
   exact JX (by rw[zw];omega) (by rw[e2];exact h2) (by rw[e2];exact h3) (by rw[e2];exact h4) (by rw[e2];exact h5)
theorem NM:∀(f n:Nat) (acc:List UInt8),0<n→n<10^f→∃(k:Nat) (r:List UInt8),1≤k∧k≤9∧IT f n 1 acc=zJ (48+k)::r
 |0,n,acc,h0,h1=>by rw[Nat.pow_zero]at h1;omega
 |f+1,n,acc,h0,h1=>by
  rw[Nat.pow_succ]at h1;unfold IT;rw[if_neg (by omega)];by_cases h:n/10=0
  ·refine⟨n % 10,acc,by omega,by omega,?_⟩;rw[h];cases f with
   |zero=>rfl
   |succ f=>unfold IT;rw[if_pos ⟨rfl,by rw[zw];omega⟩]
  ·exact NM f (n/10) _ (by omega) (by omega)
theorem R0:∀k:Fin 10,1≤k.1→zJ (48+k.1)≠45∧zJ (48+k.1)≠48:=by decide
theorem aJ(n d:Int):(Ym n d).length≤200:=by
 unfold Ym;rw[zq,zq];have a:=IX (Ah (zk n (gI (Ah n) d))) 1;have b:∀x,(fH x).length≤1:=fun x=>by unfold fH;split<;>simp
 have c:∀x,(dP x).length≤65:=fun x=>by
  unfold dP;split
  ·rw[zw];have:=IX x 1;omega
  ·simp
 have:=b (zk n (gI (Ah n) d));have:=c (zk d (gI (Ah n) d));omega
theorem WX{n d:Int}(h1: -4000000000000000000≤n)(h2:n≤4000000000000000000)(h3:0<d):FG (Ym n d)=Bz n 0:=by
 unfold Ym;have gp:=Wp (a:=Ah n) h3;have gd:∃k:Int,n=gI (Ah n) d*k:=by
  obtain⟨k,hk⟩:(Int.gcd (Ah n) d:Int)∣n:=by
   have:=Int.gcd_dvd_left (a:=Ah n) (b:=d);rw[Aq]at this;rw[Aq];exact Int.dvd_natAbs.1 this
  exact⟨k,by rw[Iz];exact hk⟩
 have hz:n=0→gI (Ah n) d=d:=by
  intro h;subst h;rw[Iz,Aq];show((Int.gcd 0 d:Nat):Int)=d;rw[Int.gcd_zero_left];omega
 obtain⟨k,hk⟩:=gd;generalize hg:gI (Ah n) d=g at*;have et:zk n g=k:=by rw[hk,Int.mul_tdiv_cancel_left _ (by omega)]
 rw[et];rcases Int.lt_trichotomy n 0 with hn|hn|hn
 ·have hkn:k<0:=by
   rcases Int.lt_or_le k 0 with x|x
   ·exact x
   ·have:=zV (zA gp) x;omega
  rw[Pf hkn];unfold Bz;rw[if_pos hn];unfold FG;rw[if_neg (by intro h;exact absurd (congrArg (fun l=>yp l 0 0) h) (by show ¬(45:UInt8)=48;decide))];exact if_pos rfl
 ·have hk0:k=0:=by
   have:g*k=0:=by omega
   rcases Int.mul_eq_zero.1 this with x|x
   ·omega
   ·exact x
  rw[hz hn,Int.tdiv_self (by omega),hk0,hn];rfl
 ·have hkp:0<k:=by
   rcases Int.lt_or_le 0 k with x|x
   ·exact x
   ·have:=Int.mul_nonpos_of_nonneg_of_nonpos (zA gp) x;omega
  have hkn:k≤n:=by
   have:=zp (show 1≤g by omega) (show 0≤k by omega);omega
  rw[PI (by omega)];unfold Bz;rw[if_neg (by omega),if_pos hn];obtain⟨j,r,j1,j9,hj⟩:=NM 64 (Ah k).toNat [] (by have:=Aq k;omega) (by have:=Aq k;omega);have hj:B0 (Ah k) 1=zJ (48+j)::r:=hj;rw[hj];obtain⟨f1,f2⟩:=R0 ⟨j,by omega⟩ j1;unfold FG;rw[if_neg (by intro h;exact f2 (congrArg (fun l=>yp l 0 0) h)),if_neg (by intro h;exact f1 h)]
theorem V7(a b:Int):Bz (a-b) 0=Bz a b:=by unfold Bz;split<;>split<;>(try split)<;>(try split)<;>omega
theorem JY{a b:List UInt8}(ha:A1 a=true)(hb:A1 b=true):(-1000000000000000000≤A0 a*AJ b∧A0 a*AJ b≤1000000000000000000)∧(-1000000000000000000≤A0 b*AJ a∧A0 b*AJ a≤1000000000000000000)∧(0<AJ a*AJ b∧AJ a*AJ b≤1000000000000000000):=by
 obtain⟨a1,a2,a3,a4⟩:=Gt ha;obtain⟨b1,b2,b3,b4⟩:=Gt hb;exact⟨JE a1 a2 b3 b4,JE b1 b2 a3 a4,XS a3 a4 b3 b4⟩
theorem YW{a b:List UInt8}(ha:A1 a=true)(hb:A1 b=true):Pp a b=Ym (A0 a*AJ b+A0 b*AJ a) (AJ a*AJ b):=by
 obtain⟨_,_,h,_⟩:=JY ha hb;unfold Pp fO;rw[if_neg (by omega)]
theorem aM{a b:List UInt8}(ha:A1 a=true)(hb:A1 b=true):FG (Pp a (Jd b))=Dx a b∧(Pp a (Jd b)).length≤1000000:=by
 obtain⟨hn,n1,n2⟩:=Ov hb;obtain⟨s1,s2,s3⟩:=JY ha hb;rw[YW ha hn,n1,n2,Int.neg_mul];refine⟨?_,Nat.le_trans (aJ _ _) (by decide)⟩;rw[WX (by omega) (by omega) (by omega)];exact V7 _ _
end Go.Sp
namespace Go.Pe
open Sp
open Go.Det
theorem Y2:∀g sp,jF.sp g=some sp→Ad AT g sp:=Ac T211.ok (Ac T212.ok (Ac T169.ok (Ac (CQ (by kernel_rfl) (Ab (by kernel_rfl))) (Ac (CQ (by kernel_rfl) (Ab (by kernel_rfl))) (Ac (CQ (by kernel_rfl) (Ab (by kernel_rfl))) (fun g sp h=>by cases h))))))
theorem T173.ok:Ad AT 173 cN:=by
 refine Av (X:=jF) rfl Y2 (d:=9) (by kernel_rfl) (by kernel_rfl) (by kernel_rfl) (fun(i:List UInt8×List UInt8) hi=>?_) (Ab (by kernel_rfl));obtain⟨a,b⟩:=i;have hi:(A1 a&&A1 b)=true:=hi;rw[zf]at hi;obtain⟨ha,hb⟩:=hi;obtain⟨s1,s2,s3⟩:=JY ha hb;refine zu (T173.An a b) (zc (FO ha).1 (zc (FO hb).1 (zc rfl (zc rfl ?_))));rw[wr (A0 a*AJ b) (by omega) (by omega),wr (A0 b*AJ a) (by omega) (by omega),wr (_+_) (by omega) (by omega),wr (AJ a*AJ b) (by omega) (by omega)];refine zc ?_ (zg (zB rfl rfl rfl));unfold gJ;rw[decide_eq_true (by omega),decide_eq_true (by omega),decide_eq_true (by omega),decide_eq_true (by omega),decide_eq_true (by omega)];rfl
theorem YO:∀g sp,jS.sp g=some sp→Ad AT g sp:=Ac T173.ok (Ac T174.ok (fun g sp h=>by cases h))
theorem T131.ok:Ad AT 131 bW:=by
 refine Av (X:=jS) rfl YO (d:=9) (by kernel_rfl) (by kernel_rfl) (by kernel_rfl) (fun(i:List UInt8×List UInt8) hi=>?_) (Ab (by kernel_rfl));obtain⟨a,b⟩:=i;have hi:(A1 a&&A1 b)=true:=hi;rw[zf]at hi;obtain⟨ha,hb⟩:=hi;have hl:=(J1 (FO hb).1).1;exact zu (T131.An a b) (zc (decide_eq_true (by omega)) (zc (Aj ha (Ov hb).1) (zg (zB rfl rfl rfl))))
theorem Yp:∀g sp,jH.sp g=some sp→Ad AT g sp:=Ac T131.ok (Ac T130.ok (fun g sp h=>by cases h))
theorem T55.ok:Ad AT 55 V1:=by
 refine Av (X:=jH) rfl Yp (d:=9) (by kernel_rfl) (by kernel_rfl) (by kernel_rfl) (fun(i:List UInt8×List UInt8) hi=>?_) (Ab (by kernel_rfl));obtain⟨a,b⟩:=i;have hi:(A1 a&&A1 b)=true:=hi;rw[zf]at hi;obtain⟨ha,hb⟩:=hi;obtain⟨e,hl⟩:=aM ha hb;exact zu (T55.An a b) (zc (Aj ha hb) (zc (decide_eq_true hl) (zg (zB rfl rfl e))))
end Go.Pe
end
section
namespace Go.Sp
theorem ZA(a:List UInt8):Ay (A3 a)=A3 (Ay a)∧AG (A3 a)=AG a∧Bw (A3 a)=Bw a∧preB (Ay a)=preB a:=by
 unfold A3 preB;cases a with
 |nil=>exact⟨rfl,rfl,rfl,rfl⟩
 |cons c r=>
  have g0:(c::r).getD 0 0=c:=rfl;rw[g0,Go.Pe.EE];by_cases hc:c=45
  ·subst hc;have e:AG (45::r)=AG r:=by
    unfold AG;rw[yb];cases r.findIdx? (fun x=>x==47)<;>rfl
   exact⟨rfl,e.symm,rfl,rfl⟩
  ·rw[if_neg hc];by_cases h7:c=47
   ·subst h7;exact⟨(Go.Pe.EE _ _),rfl,rfl,rfl⟩
   ·rw[if_neg h7];have g1:(c::Ay r).getD 0 0=c:=rfl;rw[g1,if_neg hc];exact⟨by rw[Go.Pe.EE,if_neg h7],rfl,rfl,rfl⟩
theorem Ix{s:List UInt8}(h:AV s=true):s≠[]∧Al s=true∧(s.getD 0 0≠48∨s=[48]):=by
 unfold AV at h;rw[zf,zf,decide_eq_true_eq,Bool.or_eq_true,decide_eq_true_eq,decide_eq_true_eq]at h;exact⟨h.1.1,h.1.2,h.2⟩
theorem QI{s:List UInt8}(h:AV s=true)(h0:s≠[48]):0<AA 0 s:=by
 obtain⟨h1,h2,h3⟩:=Ix h;cases s with
 |nil=>exact absurd rfl h1
 |cons c r=>
  have g0:(c::r).getD 0 0=c:=rfl;rw[g0]at h3;have hc:c≠48:=by
   rcases h3 with x|x
   ·exact x
   ·exact absurd x h0
  unfold Al at h2;rw[zO,zf]at h2;have hd:=Da h2.1;have hr:Al r=true:=h2.2;have hb:=Bo hr;show 0<AA (10*0+MO c) r;rw[DW];have hp:(0:Int)<10^r.length:=Int.pow_pos (by decide);have hn:c.toNat≠48:=fun x=>hc (zC.1 x)
  have hg:0<10*0+MO c:=by show 0<10*0+((c.toNat:Int)-48);have hd2:0≤((c.toNat:Int)-48):=hd.1;omega
  have:=Int.mul_pos hg hp;omega
theorem RS{a:List UInt8}(h:Bk a=0):GK a=true:=by
 unfold Bk at h;cases hf:GK a with
 |true=>rfl
 |false=>rw[if_pos hf]at h;exact absurd h (by decide)
theorem Uy{a:List UInt8}{n:Int}(h:Nx a n=true)(hn:n≤9):A1 a=true∧IU a=true∧GW a=A0 a∧GC a=AJ a:=by
 unfold Nx at h;rw[zf,zf,zf,decide_eq_true_eq,decide_eq_true_eq,decide_eq_true_eq,decide_eq_true_eq]at h;obtain⟨⟨⟨f1,f2⟩,f3⟩,f4⟩:=h;have ff:=RS f2;obtain⟨p1,p2,p3,p4⟩:=ZA a;unfold GK at ff;rw[zf,zf]at ff;obtain⟨⟨ga,gm⟩,gb⟩:=ff;rw[p1]at ga;rw[p2,p3]at gb;have da:=(Ix ga).2.1;have hA:Du (Ay a)=true∧GW a=A0 a:=by
  unfold GW A0;rw[p1, ←p4];unfold A3 at da f3 ⊢;unfold Du CD preB;have hl:(Ay a).length≤a.length:=(Go.Pe.T136.Dg a).1;by_cases hc:(Ay a).getD 0 0=45
  ·rw[if_pos hc]at da f3 ⊢;rw[if_pos hc,if_pos hc,if_pos (decide_eq_true hc)];exact⟨by rw[da,decide_eq_true (by omega)];rfl,rfl⟩
  ·rw[if_neg hc]at da f3 ⊢;rw[if_neg hc,if_neg hc,if_neg (by rw[decide_eq_false hc];exact Bool.false_ne_true)];exact⟨by rw[da,decide_eq_true (by omega)];rfl,rfl⟩
 have hB:Al (AG a)=true∧(AG a).length≤9∧AJ a≠0:=by
  unfold AJ;rw[p2,p3];unfold RM at f4;cases hc:Bw a with
  |true=>
   rw[hc]at gb f4;rw[if_pos rfl]at f4;have gb:(AV (AG a)&&decide (AG a≠[48])&&decide (AG a≠[49]))=true:=gb;rw[zf,zf,decide_eq_true_eq]at gb;have:=QI gb.1.1 gb.1.2;exact⟨(Ix gb.1.1).2.1,by omega,by rw[if_pos rfl];omega⟩
  |false=>
   rw[((Go.Pe.BT a).2.2 hc).2];exact⟨rfl,by decide,by rw[if_neg Bool.false_ne_true];decide⟩
 obtain⟨b1,b2,b3⟩:=hB;obtain⟨r1,r2⟩:=Go.Pe.GP b1 (by omega);refine⟨?_,?_,hA.2,?_⟩
 ·unfold A1;rw[decide_eq_true b3,yf];exact JX (by omega) (by rw[p1];omega) (by rw[p2];omega) (by rw[p1];exact da) (by rw[p2];exact b1)
 ·unfold IU;rw[hA.1,r1,decide_eq_true (by omega)];rfl
 ·unfold GC AJ;rw[p2,p3,r2]
end Go.Sp
end
section
namespace Go.Pe
open Sp
open Go.Det
theorem TB:∀g sp,VE.sp g=some sp→Ad AT g sp:=Ac T126.ok (fun g sp h=>by cases h)
theorem Ct{l:List AK}(h:DH l=true):l.length≤205∧∀x∈l,GG x=true:=by
 unfold DH at h;rw[zf,decide_eq_true_eq,zQ]at h;exact h
theorem IB{x:AK}(h:GG x=true):x.1.length≤40∧Bp x.2.1 6=true∧x.2.1.length≤40:=by
 unfold GG at h;rw[zf,decide_eq_true_eq]at h;refine⟨h.1,h.2,?_⟩;have:=h.2;unfold Bp at this;rw[zf,decide_eq_true_eq]at this;exact this.1
theorem Fb{a:List UInt8}(h:Bp a 6=true)(h0:Bk a=0):A1 a=true∧IU a=true∧GW a=A0 a∧GC a=AJ a:=by
 unfold Bp at h;rw[zf,decide_eq_false (p:=Bk a≠0) (fun x=>x h0),Bool.false_or]at h;exact Uy h.2 (by decide)
namespace T50
variable {Q:PV→Ob→Prop}
theorem Ak(l:List AK)(hl:l.length≤205):∀(r:List AK) (i:Nat),l.drop i=r→i≤l.length→Q (.bl (r.all GG)) []→Ends VE (L1 l i) Q
 |[],i,h,hi,hq=>by
  have:=drop_nil h hi;exact zj (Ai ..) (zl (by simp;omega) (zg hq))
 |x::r,i,h,hi,hq=>by
  obtain⟨h1,h2,h3⟩:=drop_cons (d:=([],[],false)) h;refine zj (Ai ..) (zc (by simp<;>omega) (zc (by simp<;>omega) ?_));simp only[zh,h2];rw[wr ((i:Int)+1) (by omega) (by omega)];rw[zO]at hq;have no:GG x=false→Q (.bl false) []:=fun e=>by rw[e]at hq;exact hq
  refine zi (fun c=>zg (no ?_)) (fun c=>zc (by simp;omega) (zc rfl (zi (fun c2=>zg (no ?_)) (fun c2=>?_))))
  ·have:=of_decide_eq_true c;unfold GG;rw[decide_eq_false (show ¬x.1.length≤40 by omega)];rfl
  ·have c2:Bp x.2.1 6=false:=by simpa using c2
   unfold GG;rw[c2,yc]
  ·have e1:=of_decide_eq_false c;have c2:Bp x.2.1 6=true:=by simpa using c2
   have:GG x=true:=by unfold GG;rw[decide_eq_true (show x.1.length≤40 by omega),c2];rfl
   exact Ak l hl r (i+1) h3 h1 (by rw[this]at hq;exact hq)
theorem ok:Ad AT 50 Jb:=by
 refine Av (X:=VE) rfl TB (d:=9) (by kernel_rfl) (by kernel_rfl) (by kernel_rfl) (fun(i:List AK×Int) _=>?_) (Ab (by kernel_rfl));obtain⟨l,n⟩:=i;have hQ:∀b,D4 l n=b→Ae Jb (l,n) (.bl b) []:=fun b hb=>zB rfl rfl hb.symm
 have go:l.length≤205→((l.length:Int)≤n∨200<l.length)→Ends VE (L1 l 0) (Ae Jb (l,n)):=fun h1 h2=>
  Ak l h1 l 0 rfl (zI _) (hQ _ (by
   unfold D4;rw[decide_eq_false (show ¬205<l.length by omega)];have:(decide ((l.length:Int)>n)&&decide (l.length≤200))=false:=by
    rcases h2 with h|h
    ·rw[decide_eq_false (show ¬(l.length:Int)>n by omega)];rfl
    ·rw[decide_eq_false (show ¬l.length≤200 by omega),yc]
   rw[this];rfl))
 refine zu (An l n) (zi (fun c=>zi (fun c2=>zg (hQ _ ?_)) (fun c2=>zi (fun c3=>zg (hQ _ ?_)) (fun c3=>go ?_ ?_))) (fun c=>zi (fun c3=>zg (hQ _ ?_)) (fun c3=>go ?_ ?_)))
 ·have e1:=of_decide_eq_true c;have e2:=of_decide_eq_true c2;unfold D4;rw[decide_eq_true e1,decide_eq_true (show l.length≤200 by omega)];rfl
 ·have e2:=of_decide_eq_true c3;unfold D4;rw[decide_eq_true (show 205<l.length by omega)];simp
 ·have:=of_decide_eq_false c3;omega
 ·have:=of_decide_eq_false c2;omega
 ·have e2:=of_decide_eq_true c3;unfold D4;rw[decide_eq_true (show 205<l.length by omega)];simp
 ·have:=of_decide_eq_false c3;omega
 ·have:=of_decide_eq_false c;omega
end T50
namespace T127
variable {Q:PV→Ob→Prop}
theorem AN(l:List AK)(h205:l.length≤205)(hq:∀ob tail,ob=(0,Obj.arr false 9 .str (B2 l))::tail→Q (.sl 0 1 0 (B2 l).length none) ob):∀(r:List AK) (i:Nat) (acc:List (List UInt8)),l.drop i=r→i≤l.length→acc.length≤i→acc++B2 r=B2 l→
  Ends VE (L2 l acc.length i acc) Q
 |[],i,acc,h,hi,ha,he=>by
  have:=drop_nil h hi;have he:acc=B2 l:=by simpa [B2]using he
  subst he;exact zj (AM ..) (zl (by simp;omega) (zg (hq _ [] rfl)))
 |x::r,i,acc,h,hi,ha,he=>by
  obtain⟨h1,h2,h3⟩:=drop_cons (d:=([],[],false)) h;refine zj (AM ..) (zc (by simp<;>omega) (zc (by simp<;>omega) (zc (by simp;omega) ?_)));simp only[zh,h2];rw[wr ((i:Int)+1) (by omega) (by omega)];have e:Nat.add acc.length 1=(acc++[x.1]).length:=by simp
  rw[e];exact AN l h205 hq r (i+1) (acc++[x.1]) h3 h1 (by simp;omega) (by rw[ye];exact he)
theorem ok:Ad AT 127 Tk:=by
 refine Av (X:=VE) rfl TB (d:=9) (by kernel_rfl) (by kernel_rfl) (by kernel_rfl) (fun(l:List AK) hl=>?_) (Ab (by kernel_rfl));obtain⟨h205,hok⟩:=Ct (l:=l) hl;refine zu (An l) ?_;conv=>zeta
 cases l with
 |nil=>exact zj (Ai ..) (zl (by simp) (zg ⟨[],rfl,rfl⟩))
 |cons x r=>
  refine zj (Ai ..) (zc (by simp<;>omega) (zc (by simp<;>omega) (zc (by simp) ?_)));have e0:(x::r).getD (0:Int).toNat ([],[],false)=x:=rfl;simp only[e0];rw[wr ((0:Int)+1) (by omega) (by omega)];refine AN (x::r) h205 ?_ r 1 [x.1] rfl (by simp) (by simp) rfl;rintro ob tail rfl;exact⟨B2 (x::r),KK rfl rfl,rfl⟩
end T127
theorem Yu:∀g sp,fT.sp g=some sp→Ad AT g sp:=Ac T112.ok (Ac T128.ok (Ac T55.ok (Ac T127.ok (fun g sp h=>by cases h))))
theorem RV{l:List AK}(h:DH l=true):Yg (B2 l)=true:=by
 obtain⟨h1,h2⟩:=Ct h;unfold Yg B2;rw[zf,decide_eq_true_eq,zQ,List.length_map];refine⟨by omega,fun s hs=>?_⟩;obtain⟨x,hx,rfl⟩:=List.mem_map.1 hs;exact decide_eq_true (IB (h2 x hx)).1
theorem Kr{l r:List AK}{x:AK}{i:Nat}(h:l.drop i=x::r):(B2 l).drop i=x.1::B2 r:=by
 unfold B2;rw[←List.map_drop,h];rfl
namespace T51
variable {Q:PV→Ob→Prop}
theorem Ak(l:List AK)(hl:DH l=true):∀(r:List AK) (i:Nat),l.drop i=r→i≤l.length→(∀ob,Q (.dat i64 (IQ ((B2 l).take i) r)) ob)→Ends fT (L1 l (B2 l) i) Q
 |[],i,h,hi,hq=>by
  have:=drop_nil h hi;exact zj (Ai ..) (zl (by simp;omega) (zg (hq _)))
 |x::r,i,h,hi,hq=>by
  obtain⟨h1,h2,h3⟩:=drop_cons (d:=([],[],false)) h;obtain⟨n1,n2,n3⟩:=drop_cons (d:=[]) (Kr h);have hm:x∈l:=CR h;have hlen:=(Ct hl).1;obtain⟨x1,x2,x3⟩:=IB ((Ct hl).2 x hm);have hc:(decide ((0:Int)≤(i:Int))&&decide ((i:Int)<(l.length:Int)))=true:=by simp;omega
  refine zj (Ai ..) (zc (by simp;omega) (zc (by rw[RV hl];simp;omega) ?_));simp only[zh,h2,n2];rw[wr ((i:Int)+1) (by omega) (by omega)];have et:(B2 l).take (i+1)=(B2 l).take i++[x.1]:=HY (Kr h);have go:NC ((B2 l).take i) x=0→Ends fT (L1 l (B2 l) ((i:Int)+1)) Q:=fun e=>Ak l hl r (i+1) h3 h1 (fun ob=>by
   have:=hq ob;unfold IQ at this;rw[e,RZ]at this;rw[et];exact this)
  have no:∀e ob,NC ((B2 l).take i) x=e→e≠0→Q (.dat i64 e) ob:=fun e ob h1 h2=>by
   have:=hq ob;unfold IQ at this;rw[h1,Ik _ h2]at this;exact this
  unfold NC at go no;generalize CX ((B2 l).take i) x.1=e1 at*;by_cases c1:e1=0
  ·subst c1;rw[RZ]at go no;refine zc rfl (zc hc (zc (decide_eq_true (by omega)) ?_));by_cases c2:Bk x.2.1=0
   ·obtain⟨q1,_⟩:=Fb x2 c2;rw[c2,RZ]at go no;rw[c2];unfold RY at go no;refine zc rfl (zc hc (zc (Aj q1 (by decide)) (zi (fun d=>zc rfl (zg (no 3 _ ?_ (by decide)))) (fun d=>zc hc (zc (Aj q1 (by decide)) (zi (fun f=>zc rfl (zg (no 3 _ ?_ (by decide)))) (fun f=>zl rfl (go ?_))))))))
    ·rw[show decide (Dx x.2.1 aB<0)=true from d];rfl
    ·rw[show decide (Dx x.2.1 QN>0)=true from f,Bool.or_true];rfl
    ·rw[show decide (Dx x.2.1 aB<0)=false from d,show decide (Dx x.2.1 QN>0)=false from f];rfl
   ·rw[Ik _ c2]at no;exact zl (by simpa using c2) (zc (by simpa using c2) (zg (no _ _ rfl c2)))
  ·rw[Ik _ c1]at no;exact zl (by simpa using c1) (zl (by simpa using c1) (zc (by simpa using c1) (zg (no _ _ rfl c1))))
theorem ok:Ad AT 51 DT:=by
 refine Av (X:=fT) rfl Yu (d:=9) (by kernel_rfl) (by kernel_rfl) (by kernel_rfl) (fun(l:List AK) hl=>?_) (Ab (by kernel_rfl));have hl:DH l=true:=hl;have hq:∀v ob,v=AB l→Ae DT l (.dat i64 v) ob:=fun v ob h=>zB rfl rfl h
 unfold AB at hq;refine zu (An l) (zi (fun c=>zg (hq _ _ ?_)) (fun c=>zc hl (Ak l hl l 0 rfl (zI _) (fun ob=>hq _ ob ?_))))
 ·have:=of_decide_eq_true c;rw[if_pos (show 200<l.length by omega)]
 ·have:=of_decide_eq_false c;rw[if_neg (show ¬200<l.length by omega)];rfl
end T51
theorem Ys:∀g sp,kJ.sp g=some sp→Ad AT g sp:=Ac T184n.ok (fun g sp h=>by cases h)
theorem T139.ok:Ad AT 139 cF:=by
 refine Av (X:=kJ) rfl Ys (d:=9) (by kernel_rfl) (by kernel_rfl) (by kernel_rfl) (fun(n:Int) hn=>?_) (Ab (by kernel_rfl));exact zu (T139.An n) (zc rfl (zc rfl (zg (zB rfl rfl rfl))))
end Go.Pe
end
section
namespace Go.Pe
open Sp
open Go.Det
theorem Ei{n:Int}(h1: -1000000000<n)(h2:n<1000000000):Cc n=n∧Cb n=[]:=by
 unfold Cc Cb Co;rw[if_pos (by omega)];exact⟨rfl,rfl⟩
theorem Gm{n d:Int}(h1: -1000000000<n)(h2:n<1000000000)(h3: -1000000000<d)(h4:d<1000000000):Mb (((n,[]),(d,[])):Lm)=true:=by
 have e:∀k:Int,-1000000000<k→k<1000000000→NH (k,[])=true:=fun k a b=>by
  unfold NH ET;rw[Fg (n:=k) (by omega) (by omega)];rfl
 unfold Mb;rw[e n h1 h2,e d h3 h4];rfl
theorem PB(a b:Int):yg [a,b]=Hy a b:=by
 unfold Hy;simp only[yg];by_cases h1:a=0<;>by_cases h2:b=0<;>simp[h1,h2]
theorem Zd:∀g sp,Yx.sp g=some sp→Ad AT g sp:=Ac T136.ok (Ac T137.ok (Ac T138.ok (Ac T139.ok (Ac T184n.ok Tc))))
namespace T60
variable {Q:PV→Ob→Prop}
theorem AN(l:List AK)(i:Nat)(hi:i≤300)(o0:List (List UInt8×Bool))(x:AK)(a b:List UInt8)(c:Bool)(m:List (List UInt8×Bool))(seen:List (List UInt8))(hm:Ij m (fun y=>y∈seen))(hx:GG x=true)
  (hq:NC seen x≠0→∀ob,Q (.dat i64 (NC seen x)) ob) (hgo:NC seen x=0→Ends Yx (L1 l l l.length ((i:Int)+1) (H4 .str .bool x.1 true m)) Q):Ends Yx (L2 l l l.length i o0 x a b c m) Q:=by
 obtain⟨x1,x2,x3⟩:=IB hx;refine zj (AM ..) ?_;conv=>zeta
 rw[wr ((i:Int)+1) (by omega) (by omega),ND hm,PB];unfold NC at hq hgo;generalize CX seen x.1=e1 at*;refine zc (decide_eq_true (by omega)) (zc rfl (zc rfl (zc rfl (zc (decide_eq_true (by omega)) (zc rfl ?_)))));by_cases c1:e1=0
 ·subst c1;rw[RZ]at hq hgo ⊢;by_cases c2:Bk x.2.1=0
  ·obtain⟨q1,q2,q3,q4⟩:=Fb x2 c2;rw[c2,RZ]at hq hgo;rw[c2];obtain⟨s1,s2,s3,s4⟩:=Gt q1;have f1:Mn x.2.1=A0 x.2.1:=by unfold Mn;rw[q3];exact(Ei s1 s2).1
   have f2:Ln x.2.1=[]:=by unfold Ln;rw[q3];exact(Ei s1 s2).2
   have f3:JN x.2.1=AJ x.2.1:=by unfold JN;rw[q4];exact(Ei (by omega) s4).1
   have f4:JU x.2.1=[]:=by unfold JU;rw[q4];exact(Ei (by omega) s4).2
   rw[f1,f2,f3,f4,CE,CE,CE];have k1:SF ((A0 x.2.1,[]),(AJ x.2.1,[])) ((-10,[]),(1,[]))=Dx x.2.1 aB:=rfl;have k2:SF ((A0 x.2.1,[]),(AJ x.2.1,[])) ((54,[]),(1,[]))=Dx x.2.1 QN:=rfl;rw[k1,k2];have o1:=Gm s1 s2 (show -1000000000<AJ x.2.1 by omega) s4;unfold RY at hq hgo;refine zl rfl (zc q2 (zc rfl (zc (Aj o1 (Gm (by decide) (by decide) (by decide) (by decide))) (zi (fun d=>zc rfl (zc rfl (zg ?_))) (fun d=>zc rfl (zc (Aj o1 (Gm (by decide) (by decide) (by decide) (by decide))) (zc rfl ?_)))))))
   ·rw[d,Bool.true_or,if_pos rfl]at hq;exact hq (by decide) _
   ·rw[d]at hq hgo;rw[Bool.false_or]at hq hgo;refine zi (fun f=>zg ?_) (fun f=>hgo ?_)
    ·have f':decide (Dx x.2.1 QN>0)=true:=by
      cases h:decide (Dx x.2.1 QN>0)with
      |true=>rfl
      |false=>rw[h]at f;exact absurd f (by decide)
     rw[f']at hq ⊢;exact hq (by decide) _
    ·have f':decide (Dx x.2.1 QN>0)=false:=by
      cases h:decide (Dx x.2.1 QN>0)with
      |false=>rfl
      |true=>rw[h]at f;exact absurd f (by decide)
     rw[f'];rfl
  ·rw[Ik _ c2]at hq;exact zc (by simpa using c2) (zc (by simpa using c2) (zg (hq c2 _)))
 ·rw[Ik _ c1]at hq ⊢;exact zc (by simpa using c1) (zc (by simpa using c1) (zg (hq c1 _)))
theorem Ak(l:List AK)(hok:DH l=true)(w:Int)(hq:∀ob,Q (.dat i64 w) ob):∀(s:List AK) (i:Nat) (m:List (List UInt8×Bool)) (seen:List (List UInt8)),l.drop i=s→i≤l.length→Ij m (fun y=>y∈seen)→IQ seen s=w→Ends Yx (L1 l l l.length i m) Q
 |[],i,m,seen,h,hi,hm,hw=>by
  have:=drop_nil h hi;have hw:w=0:=by rw[←hw];rfl
  subst hw;exact zj (Ai ..) (zl (by simp;omega) (zg (hq _)))
 |x::s,i,m,seen,h,hi,hm,hw=>by
  obtain⟨h205,hall⟩:=Ct hok;obtain⟨h1,h2,h3⟩:=drop_cons (d:=(([],[],false):AK)) h;have hx:=hall x (CR h);have h2':l.getD i ([],[],false)=x:=h2;unfold IQ at hw;refine zj (Ai ..) (zc (by simp<;>omega) (zc (by simp<;>omega) ?_));simp only[zh,h2'];refine AN l i (by omega) m x _ _ _ m seen hm hx (fun he ob=>?_) (fun he=>?_)
  ·have:w=NC seen x:=by rw[←hw];exact Ik _ he
   rw[←this];exact hq ob
  ·refine Ak l hok w hq s (i+1) _ (seen++[x.1]) h3 h1 (hm.next x.1) ?_;rw[←hw,he,RZ]
theorem ok:Ad AT 60 DT:=by
 refine Av (X:=Yx) rfl Zd (d:=9) (by kernel_rfl) (by kernel_rfl) (by kernel_rfl) (fun(l:List AK) hl=>?_) (Ab (by kernel_rfl));have hok:DH l=true:=hl;refine zu (An l) (zi (fun c=>zg (zB rfl rfl ?_)) (fun c=>?_))
 ·have c:200<l.length:=by simp at c;omega
  show _=AB l;unfold AB;rw[if_pos c]
 ·have c:¬200<l.length:=by simp at c;omega
  refine Ak l hok (AB l) (fun ob=>zB rfl rfl rfl) l 0 [] [] rfl (zI _) (Ij.nil.congr (by simp)) ?_;unfold AB;rw[if_neg c]
end T60
end Go.Pe
end
section
namespace Go.Sp
theorem Od(l:List AK)(x:Int):∀(r o:List Int),(Eh l o x r).length=r.length+o.length+1
 |[],o=>by simp[Eh]
 |y::r,o=>by
  unfold Eh;split
  ·rw[Od l x r (y::o)];simp;omega
  ·simp;omega
theorem I5(l:List AK)(o:List Int)(x:Int):(H5 l o x).length=o.length+1:=by unfold H5;rw[Od];simp
theorem OA(l:List AK)(x z:Int):∀(r o:List Int),z∈Eh l o x r↔z=x∨z∈r∨z∈o
 |[],o=>by simp[Eh]
 |y::r,o=>by
  unfold Eh;split
  ·rw[OA l x z r (y::o)];simp;grind
  ·simp;grind
theorem Rt(l:List AK)(o:List Int)(x z:Int):z∈H5 l o x↔z=x∨z∈o:=by unfold H5;rw[OA];simp
end Go.Sp
namespace Go.Pe
open Sp
open Go.Det
theorem Za:∀g sp,Vs.sp g=some sp→Ad AT g sp:=Ac T55.ok (fun g sp h=>by cases h)
def UP(l:List AK)(y:Int):Prop:=0≤y∧y<(l.length:Int)∧A1 (Sp.ix l y)=true
theorem Z9{l:List AK}{a:List Int}(h:Ks l a=true):l.length≤205∧a.length≤205∧∀y∈a,UP l y:=by
 unfold Ks at h;rw[zf,zf,decide_eq_true_eq,decide_eq_true_eq,zQ]at h;refine⟨h.1.1,h.1.2,fun y hy=>?_⟩;have:=h.2 y hy;rw[zf,zf,decide_eq_true_eq,decide_eq_true_eq]at this;exact⟨this.1.1,this.1.2,this.2⟩
namespace T140
variable {Q:PV→Ob→Prop}
theorem TC{k:Nat}{o P R:List Int}(ho:R++P=o)(hk:R.length=k):zW k o=R∧z8 k o=P∧k+P.length=o.length:=by
 subst ho hk;exact⟨by simp,by simp,by simp⟩
theorem A5(l:List AK)(a:List Int)(ha:a.length≤205)(i:Nat)(hi:i<a.length)(x:Int)(hx:a.getD i 0=x)(hox:UP l x)(o:List Int)(hall:∀y∈o,UP l y)(hn:o.length≤205)
  (hgo:∀(n:Nat) (ob:List Int),n=o.length+1→ob=H5 l o x→Ends Vs (L3 l a n ((i:Int)+1) ob) Q):∀(rev P:List Int) (k:Nat),rev.reverse++P=o→rev.length=k→Eh l P x rev=H5 l o x→Ends Vs (L4 l a o.length i k o) Q
 |[],P,k,h,hk,he=>by
  obtain⟨t1,t2,t3⟩:=TC (k:=k) h (by simpa using hk);have hii:(decide ((0:Int)≤(i:Int))&&decide ((i:Int)<(a.length:Int)))=true:=by simp<;>omega
  have hk0:k=0:=by simpa using hk.symm
  refine zj (BB ..) (zl (by simp<;>omega) ?_);simp only[zh,hx,t1,Nat.add_eq,Nat.sub_eq,yi,t2,List.nil_append];rw[wr ((i:Int)+1) (by omega) (by omega)];have e1:zW (o.length-k) P=P:=zo (by omega);rw[e1];refine zc (by simp<;>omega) (zc hii (zc (by simp<;>omega) (zc (by simp<;>omega) (zc (by simp<;>omega) (zc (by simp<;>omega) (hgo _ _ ?_ ?_))))))
  ·simp;omega
  ·rw[←he];simp[Eh]
 |y::r,P,k,h,hk,he=>by
  obtain⟨t1,t2,t3⟩:=TC (k:=k) h (by simpa using hk);have hii:(decide ((0:Int)≤(i:Int))&&decide ((i:Int)<(a.length:Int)))=true:=by simp<;>omega
  have hk1:k=r.length+1:=by simpa using hk.symm
  have hy:UP l y:=hall y (by rw[←h];simp);have hg:o.getD r.length 0=y:=by
   rw[←h,show(y::r).reverse++P=r.reverse++y::P by simp];exact Cj _ _ _ _ (by simp)
  refine zj (BB ..) (zc (by simp<;>omega) ?_);rw[wr ((k:Int)-1) (by omega) (by omega),wr ((i:Int)+1) (by omega) (by omega),show(k:Int)-1=(r.length:Int)by omega];simp only[zh,hx,t1,Nat.add_eq,Nat.sub_eq,yi,t2,List.nil_append,hg];have e1:zW (o.length-k) P=P:=zo (by omega);rw[e1];obtain⟨y1,y2,y3⟩:=hy;obtain⟨x1,x2,x3⟩:=hox;have hq:(A1 (Prod.fst (Prod.snd (yp l (yo y) ([],[],false))))&&A1 (Prod.fst (Prod.snd (yp l (yo x) ([],[],false)))))=true:=Aj y3 x3;refine zc (by simp<;>omega) (zc (decide_eq_true (by omega)) (zc (by simp<;>omega) (zc hii (zc (by simp<;>omega) (zc hq (zi (fun c=>?_) (fun c=>?_)))))))
  ·refine A5 l a ha i hi x hx ⟨x1,x2,x3⟩ o hall hn hgo r (y::P) r.length (by rw[←h];simp) rfl ?_;rw[←he];conv=>rhs;unfold Eh
   rw[if_pos (show Dx (Sp.ix l y) (Sp.ix l x)>0 from of_decide_eq_true c)]
  ·refine zc (by simp<;>omega) (zc hii (zc (by simp<;>omega) (zc (by simp<;>omega) (zc (by simp<;>omega) (zc (by simp<;>omega) (hgo _ _ ?_ ?_))))))
   ·simp;omega
   ·rw[←he];conv=>rhs;unfold Eh
    rw[if_neg (show ¬Dx (Sp.ix l y) (Sp.ix l x)>0 from of_decide_eq_false c)];simp
theorem Bt(l:List AK)(a:List Int)(ha:a.length≤205)(hok:∀y∈a,UP l y)(w:List Int)(hq:∀ob tail,ob=(0,Obj.arr false 3 (Sh.int ze) w)::tail→Q (.sl 0 1 0 w.length none) ob):∀(s:List Int) (i:Nat) (o:List Int) (n:Nat) (j:Int),a.drop i=s→i≤a.length→n=o.length→j=(i:Int)→o.length≤i→(∀y∈o,UP l y)→s.foldl (H5 l) o=w→Ends Vs (L3 l a n j o) Q
 |[],i,o,n,j,h,hi,hn,hj,ho,hall,hw=>by
  have:=drop_nil h hi;have hw:o=w:=hw;subst hw hn hj;exact zj (Bm ..) (zl (by simp<;>omega) (zg (hq _ [] rfl)))
 |x::s,i,o,n,j,h,hi,hn,hj,ho,hall,hw=>by
  obtain⟨h1,h2,h3⟩:=drop_cons (d:=0) h;have hox:=hok x (CR h);subst hn hj;refine zj (Bm ..) (zc (by simp<;>omega) ?_);refine A5 l a ha i h1 x h2 hox o hall (by omega) (fun n ob hn hob=>?_) o.reverse [] o.length (by simp) (by simp) rfl;subst hob;refine Bt l a ha hok w hq s (i+1) (H5 l o x) n _ h3 h1 (by rw[hn,I5]) (by omega) (by rw[I5];omega) (fun y hy=>?_) hw;rcases(Rt l o x y).1 hy with rfl|h
  ·exact hox
  ·exact hall y h
theorem ok:Ad AT 140 So:=by
 refine Av (X:=Vs) rfl Za (d:=9) (by kernel_rfl) (by kernel_rfl) (by kernel_rfl) (fun(i:List AK×List Int) hi=>?_) (Ab (by kernel_rfl));obtain⟨l,a⟩:=i;obtain⟨hl,ha,hok⟩:=Z9 (l:=l) (a:=a) hi;refine zu (An l a) ?_;conv=>zeta
 cases a with
 |nil=>exact zj (Ai ..) (zl (by simp) (zg ⟨[],rfl,rfl⟩))
 |cons x s=>
  have hx:=hok x (by simp);refine zj (Ai ..) (zc (by simp) ?_);have e0:(x::s).getD (0:Int).toNat 0=x:=rfl;refine zj (AM ..) (zl rfl (zc rfl (zc (by simp) (zc rfl (zc rfl (zc (by simp) (zc (by simp) ?_)))))));rw[wr ((0:Int)+1) (by omega) (by omega)];simp only[e0];refine Bt l (x::s) ha hok (BV l (x::s)) ?_ s 1 [x] 1 _ rfl (by simp) rfl rfl (by simp) (by simpa using hx) rfl;rintro ob tail rfl;exact⟨BV l (x::s),KK rfl rfl,rfl⟩
end T140
end Go.Pe
end
section
namespace Go.Sp
def NT(i n:Nat):List Int:=(List.range' i n).map Int.ofNat
theorem Uf(n:Nat):iota n=NT 0 n:=by unfold iota NT;rw[List.range_eq_range']
theorem RO(i n:Nat):NT i (n+1)=(i:Int)::NT (i+1) n:=by unfold NT;rw[List.range'_succ];rfl
theorem Bq(n:Nat):(iota n).length=n:=by unfold iota;simp
theorem Hp{n:Nat}{x:Int}:x∈iota n↔0≤x∧x<(n:Int):=by
 unfold iota;rw[List.mem_map];constructor
 ·rintro⟨k,hk,rfl⟩;have:=List.mem_range.1 hk;exact⟨zN k,by show(k:Int)<n;omega⟩
 ·rintro⟨h1,h2⟩;exact⟨x.toNat,List.mem_range.2 (by omega),by show((x.toNat:Nat):Int)=x;omega⟩
theorem Pt:∀(l:List AK) (i:Nat),(NU i l++Nv i l).Perm (NT i l.length)
 |[],i=>List.Perm.nil
 |x::r,i=>by
  have ih:=Pt r (i+1);rw[zw,RO];unfold NU Nv;by_cases h:x.2.2=true
  ·rw[if_pos h,if_pos h];exact ih.cons _
  ·rw[if_neg h,if_neg h];exact zR.trans (ih.cons _)
theorem Rg{l:List Int}{i:Nat}(h:i<l.length):l.getD i 0=l[i]:=by simp[h]
theorem X0{l:List Int}{i k:Nat}(hi:i<l.length)(hk:k<l.length):(bN l i k).Perm l:=by
 unfold bN;rw[Rg hi,Rg hk];exact List.set_set_perm hi hk
theorem IS:∀(i:Nat) (key:Int) (l:List Int),i<l.length→(CT i key l).Perm l
 |0,key,l,h=>yd l
 |i+1,key,l,h=>by
  have hk:(yn (H2 key) (i+2)).toNat<l.length:=by
   have:=Int.tmod_lt_of_pos (H2 key) (show(0:Int)<(i:Int)+2 by omega);omega
  have hs:=X0 h hk;show(CT i (H2 key) (bN l (i+1) (yn (H2 key) (i+2)).toNat)).Perm l;exact(IS i (H2 key) _ (by rw[hs.length_eq];omega)).trans hs
theorem E6(n:Nat)(key:Int):(Ck n key).Perm (iota n):=by
 unfold Ck;rw[zh];cases n with
 |zero=>exact yd _
 |succ n=>exact IS _ _ _ (by rw[Bq];omega)
theorem Vv(o:List Int):pick o (iota o.length)=o:=by
 unfold pick iota;rw[List.map_map];refine List.ext_getElem (by simp) (fun i h1 h2=>?_);simp[h2]
theorem Vh{o b:List Int}(h:b.Perm (iota o.length)):(pick o b).Perm o:=by
 have:=h.map (fun k:Int=>o.getD k.toNat 0);have e:=Vv o;unfold pick at e ⊢;rw[e]at this;exact this
theorem FY(l:List AK)(key:Int):(Cm l key).Perm (Nv 0 l):=Vh (E6 _ _)
theorem Mv(l:List AK)(x:Int):∀r o:List Int,(Eh l o x r).Perm (x::(r++o))
 |[],o=>yd _
 |y::r,o=>by
  unfold Eh;split
  ·exact(Mv l x r (y::o)).trans (ym _ zR)
  ·have h1:(r.reverse++y::x::o).Perm (r++y::x::o):=(List.reverse_perm r).append_right _;have h2:(r++y::x::o).Perm (y::(r++x::o)):=zR;have h3:(y::(r++x::o)).Perm (y::x::(r++o)):=ym _ zR;exact h1.trans (h2.trans (h3.trans (List.Perm.swap _ _ _)))
theorem Ux(l:List AK)(o:List Int)(x:Int):(H5 l o x).Perm (x::o):=by
 unfold H5;refine(Mv l x o.reverse []).trans (ym _ ?_);rw[zY];exact List.reverse_perm o
theorem Lv(l:List AK):∀a o:List Int,(a.foldl (H5 l) o).Perm (a++o)
 |[],o=>yd _
 |x::a,o=>by
  show(a.foldl (H5 l) (H5 l o x)).Perm (x::(a++o));exact(Lv l a _).trans ((List.Perm.append_left a (Ux l o x)).trans zR)
theorem Nc(l:List AK)(a:List Int):(BV l a).Perm a:=by
 have:=Lv l a [];rw[zY]at this;exact this
theorem EF(l:List AK)(a:List Int):(BV l a).length=a.length:=(Nc l a).length_eq
theorem Sl(l:List AK)(rule:List UInt8)(key:Int):(DU l rule key).Perm (iota l.length):=by
 rw[Uf];refine List.Perm.trans ?_ (Pt l 0);unfold DU;refine List.Perm.append_left _ ?_;split
 ·exact(Nc l _).trans (FY l key)
 ·exact FY l key
theorem Uz(l:List AK)(rule:List UInt8)(key:Int):(DU l rule key).length=l.length:=by rw[(Sl l rule key).length_eq,Bq]
end Go.Sp
end
