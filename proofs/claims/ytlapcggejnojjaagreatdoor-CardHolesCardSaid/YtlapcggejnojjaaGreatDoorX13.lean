import Derived.Test.YtlapcggejnojjaaGreatDoorX11
import Derived.Test.YtlapcggejnojjaaGreatDoorX12
import Derived.Test.YtlapcggejnojjaaGreatDoorX09
import Derived.Test.YtlapcggejnojjaaGreatDoorX10
import Derived.Test.YtlapcggejnojjaaGreatDoorX03
import Derived.ChangeSame
import Derived.Below
/- A part of a proof (no law is stated here). Made by program out of texts by AI agents. -/
open Go.Pe.Ends renaming tt → zc, leaf → zd, ite → zf, An → zg, ff → zp, eq → zQ
open Int renaming toNat_natCast → ze, lt_of_lt_of_le → zl, mul_le_mul_of_nonneg_right → zr, mul_le_mul_of_nonneg_left → zu, le_of_lt → zA, lt_of_le_of_lt → zB, pow_succ → zO, le_trans → zP, mul_nonneg → zR, tdiv_eq_ediv_of_nonneg → zS, tmod_eq_emod_of_nonneg → zT, eq_ofNat_of_zero_le → zY, le_refl → ya
open Go.IntKind renaming wrap → zh
open List renaming getElem?_eq_getElem → zi, length_drop → zn, length_take → zt, take_of_length_le → zw, getD_eq_getElem?_getD → zx, take_length → zE, all_eq_true → zF, mem_flatMap → zG, length_eq_zero_iff → zH, mem_append_right → zJ, all_cons → zK, length_append → zU, getElem?_map → zV, getElem?_take_of_lt → zW, length_cons → zZ, map_take → yc, map_drop → yd, range → ye
open Bool renaming and_eq_true → zj, true_and → zL
open Go.Sp renaming A8 → zk, B9 → zN, vI → z7, gI → z8, first → yg, preB → yh
open Array renaming getElem?_eq_some_iff → zm, getElem?_eq_none → zC
open Go.DataW renaming trod → zo
open Nat renaming eq_of_beq_eq_true → zq, zero_le → zy, le_refl → zD, beq → zI, sub → yf
open Option renaming bind_some → zz, bind_eq_some_iff → z6
open UInt8 renaming toNat_inj → zM
open Go.Pe.Af renaming of → zX
open Go.World renaming cell? → yb
open Go.Addr renaming add → yi
section
namespace Go.Pe
open Sp
open Go.Det
theorem YV:∀g sp,ML.sp g=some sp→Ac A4 g sp:=
 Ab T43n.ok (Ab T95.ok (Ab T94.ok (Ab T96.ok (Ab T97.ok (Ab (Eb (by kernel_rfl) (Ad (by kernel_rfl))) (Ab (Eb (by kernel_rfl) (Ad (by kernel_rfl))) (fun g sp h=>by cases h)))))))
theorem Oh(k:Nat):Dr 18 (k:Int)=((min 18 k:Nat):Int):=by unfold Dr;split<;>omega
theorem Zf(n:Int):zh .u8 n=n % 256:=by simp[zh,IntKind.bits,IntKind.signed]
theorem Zr(k:Nat):(10:Int)^k≤(Aj:Int)^k:=by
 induction k with
 |zero=>exact ya _
 |succ k ih=>
  rw[zO,zO];have h1:=zr ih (show(0:Int)≤10 by decide);have h2:=zu (show(10:Int)≤(Aj:Int)by decide) (zA (AK (b:=Aj) (by decide) k));exact zP h1 h2
theorem Eo{n:Int}(h0:0≤n)(h:n<(10:Int)^(1500:Nat)):BF (B7 n)=true:=by
 refine Hu ?_;have h1:=Zr 1500;have h2:(Aj:Int)^1500≤(Aj:Int)^9000:=AN (by decide) (by decide);have h3:Ag n=n:=by rw[Ar];omega
 rw[h3];exact zl h (zP h1 h2)
theorem Kr(m n:Int):HE (BY m,BR m) (BY n,BR n)=BY (m*n)∧HJ (BY m,BR m) (BY n,BR n)=BR (m*n):=by
 constructor
 ·show BY (z7 (B7 _)*z7 (B7 _))=_;rw[B6,B6]
 ·show BR (z7 (B7 _)*z7 (B7 _))=_;rw[B6,B6]
theorem Xe{a b:Ba}(h:0≤z7 a+z7 b):Fx a b=B7 (z7 a+z7 b):=by
 unfold Fx;split
 ·next c=>
  have:=Ep c.2.2;rw[Bq c.1,Bq c.2.1]at h ⊢;exact(Bt (by omega)).symm
 ·rfl
theorem KO{m v:Int}(hm:0≤m)(hv:0≤v):JS (BY m,BR m) (v,EG v)=BY (m+v)∧J4 (BY m,BR m) (v,EG v)=BR (m+v):=by
 have e1:z7 (BY m,BR m)=m:=B6 m;have e2:z7 (v,EG v)=v:=by rw[C9,DP]
 have:=Xe (a:=(BY m,BR m)) (b:=(v,EG v)) (by rw[e1,e2];omega);rw[e1,e2]at this;exact⟨congrArg Prod.fst this,congrArg Prod.snd this⟩
theorem Kn(n:Nat):Qb ((10:Int),EG (10:Int)) (n:Int)=BY (10^n)∧Qc ((10:Int),EG (10:Int)) (n:Int)=BR (10^n):=by
 have e:Sp.pI (z7 ((10:Int),EG (10:Int))) (n:Int)=10^n:=by rw[Of,C9,DP,ze]
 unfold Qb Qc;rw[e];exact⟨rfl,rfl⟩
theorem V5:BF ((10:Int),EG (10:Int))=true:=by rw[C9];decide
theorem WK{n:Nat}(h:n≤18):WL (z7 ((10:Int),EG (10:Int))) (n:Int)=true:=by
 unfold WL;have e:Sp.pI (z7 ((10:Int),EG (10:Int))) (n:Int)=10^n:=by rw[Of,C9,DP,ze]
 rw[e];have h1:(10:Int)^n≤10^18:=AN (by decide) h;have h0:(0:Int)<10^n:=AK (by decide) n;have h2:(10:Int)^18<18446744073709551616^1:=by decide
 have h3:(18446744073709551616:Int)^(1:Nat)≤18446744073709551616^(4000:Nat):=AN (by decide) (by decide);have h4:Ag ((10:Int)^n)=10^n:=by rw[Ar];omega
 rw[h4];exact Am (Am (decide_eq_true (by omega)) (decide_eq_true (by omega))) (decide_eq_true (zB h1 (zl h2 h3)))
theorem Qv{v:Int}(h0:0≤v)(h:v<1000000000000000000):BF (v,EG v)=true:=by
 rw[C9];unfold BF;exact Am (Kx (FL (by omega) (by omega))) (decide_eq_true (zy _))
theorem Tc{w:List UInt8}(hs:Ao w=true)(h:w.length≤18):0≤AA 0 w∧AA 0 w<1000000000000000000:=by
 have:=Bj hs;have h2:(10:Int)^w.length≤10^18:=AN (by decide) h;have h3:(10:Int)^18=1000000000000000000:=by decide
 omega
namespace T41
variable {Q:PV→Ob→Prop}
theorem BL(W:List UInt8)(neg:Bool)(b1:Int)(b1w:List Int)(b0:Int)(w:List UInt8)(n:Nat)(hw:w=W.take n)(hW:Ao W=true)(hn:n=min 18 W.length)(h1:1≤W.length)(a o0':Int)(a0:0≤a)(hj:BF (B7 a)=true)(hj2:BF (B7 (a*10^n))=true)
  (hgo:Ends ML (L5 (W.drop n) neg (BY (a*10^n+AA 0 w)) (BR (a*10^n+AA 0 w)) o0') Q):
  ∀(r:List UInt8) (j:Nat),w.drop j=r→j≤w.length→Ends ML (L7 W neg b1 b1w b0 w (AA 0 (w.take j)) w.length w.length j (w.map fun b=>(b.toNat:Int)) (BY a) (BR a) o0') Q
 |[],j,hr,hjw=>by
  have hdw:Ao w=true:=by rw[hw];exact AV hW n
  have hwl:w.length=n:=by rw[hw,zt];omega
  have he:j=w.length:=drop_nil hr hjw;subst he;have hv:=Tc hdw (by omega);obtain⟨c,t,hc⟩:∃c t,w=c::t:=by
   cases w with
   |nil=>simp at hwl;omega
   |cons c t=>exact⟨c,t,rfl⟩
  have hc0:((((w.getD 0 0).toNat:Int)==(45:Int))=false):=by
   rw[hc]at hdw ⊢;unfold Ao at hdw;rw[zK,zj]at hdw;have:=Dg hdw.1;unfold MO at this;show(((c.toNat:Int)==(45:Int))=false);simp;omega
  have ht:(W.drop n).take (yf W.length n)=W.drop n:=zw (by rw[zn];exact zD _);have p0:0≤a*10^n:=zR a0 (zA (AK (by decide) n));have jp:BF (BY (10^n),BR (10^n))=true:=by
   refine GK (Eo (n:=(10:Int)^n) (zA (AK (by decide) n)) ?_);have x1:(10:Int)^n≤10^18:=AN (by decide) (by omega);have x2:(10:Int)^18<10^19:=by decide
   have x3:(10:Int)^19≤10^(1500:Nat):=AN (by decide) (by decide);exact zB x1 (zl x2 x3)
  refine zg (Dj ..) (zp (by simp) (zc (decide_eq_true (by omega)) ?_));rw[hc0,Oh, ←hn,(Kn n).1,(Kn n).2,zE];refine zp rfl (zc rfl (zc (Am V5 (WK (by omega))) (zc (Am hj jp) (zc rfl ?_))));rw[(Kr _ _).1,(Kr _ _).2,(KO p0 hv.1).1,(KO p0 hv.1).2,ze,ht];exact zc (Am hj2 (Qv hv.1 hv.2)) (zc (by simp;omega) hgo)
 |c::r,j,hr,hjw=>by
  have hdw:Ao w=true:=by rw[hw];exact AV hW n
  have hwl:w.length=n:=by rw[hw,zt];omega
  obtain⟨g1,g2,g3⟩:=drop_cons (d:=0) hr;have hcd:Bs c=true:=by
   unfold Ao at hdw;rw[zF]at hdw;exact hdw c (Eg hr)
  have hd:=Dg hcd;have hlt:(w.take j).length=j:=by rw[zt];omega
  have hb:=Bj (AV hdw j);rw[hlt]at hb;have hp:(10:Int)^j≤10^17:=AN (by decide) (by omega);have hp17:(10:Int)^17=100000000000000000:=by decide
  have gm:(w.map fun b=>(b.toNat:Int)).getD j 0=(c.toNat:Int):=by
   rw[zx,zV,zi g1];have:w[j]=c:=by rw[←g2,zx,zi g1];rfl
   rw[this];rfl
  have e8:zh .u8 ((c.toNat:Int)-48)=MO c:=by
   rw[Zf];unfold MO at hd ⊢;omega
  have e2:zh .i64 (zh .i64 (AA 0 (w.take j)*10)+zh .i64 (MO c))=AA 0 (w.take (j+1)):=by
   rw[Fa hr,CW];show _=10*AA 0 (w.take j)+MO c;generalize AA 0 (w.take j)=D at*;rw[wr (D*10) (by omega) (by omega),wr (MO c) (by omega) (by omega),wr _ (by omega) (by omega)];omega
  have e3:zh .i64 ((j:Int)+1)=((j+1:Nat):Int):=by rw[wr _ (by omega) (by omega)];omega
  refine zg (Dj ..) (zc (by simp;omega) ?_);rw[ze,gm,e8,e2,e3];refine zc (by simp;omega) (zc (by simp;omega) (zp (decide_eq_false (by omega)) ?_));exact BL W neg b1 b1w b0 w n hw hW hn h1 a o0' a0 hj hj2 hgo r (j+1) g3 g1
theorem C2(W:List UInt8)(neg:Bool)(b1:Int)(b0:Int)(w:List UInt8)(n:Nat)(hw:w=W.take n)(hW:Ao W=true)(hn:n=min 18 W.length)(h1:1≤W.length)(a o0':Int)(ha:a=0)(a0:0≤a)(hj:BF (B7 a)=true)(hj2:BF (B7 (a*10^n))=true)
  (hgo:Ends ML (L5 (W.drop n) neg (BY (a*10^n+AA 0 w)) (BR (a*10^n+AA 0 w)) o0') Q):
  ∀(r:List UInt8) (j:Nat),w.drop j=r→j≤w.length→Ends ML (L3 W neg b1 b0 w (AA 0 (w.take j)) w.length w.length j (w.map fun b=>(b.toNat:Int)) 0 o0') Q
 |[],j,hr,hjw=>by
  have hdw:Ao w=true:=by rw[hw];exact AV hW n
  have hwl:w.length=n:=by rw[hw,zt];omega
  have he:j=w.length:=drop_nil hr hjw;subst he;have hv:=Tc hdw (by omega);obtain⟨c,t,hc⟩:∃c t,w=c::t:=by
   cases w with
   |nil=>simp at hwl;omega
   |cons c t=>exact⟨c,t,rfl⟩
  have hc0:((((w.getD 0 0).toNat:Int)==(45:Int))=false):=by
   rw[hc]at hdw ⊢;unfold Ao at hdw;rw[zK,zj]at hdw;have:=Dg hdw.1;unfold MO at this;show(((c.toNat:Int)==(45:Int))=false);simp;omega
  have ht:(W.drop n).take (yf W.length n)=W.drop n:=zw (by rw[zn];exact zD _);have p0:0≤a*10^n:=zR a0 (zA (AK (by decide) n));have jp:BF (BY (10^n),BR (10^n))=true:=by
   refine GK (Eo (n:=(10:Int)^n) (zA (AK (by decide) n)) ?_);have x1:(10:Int)^n≤10^18:=AN (by decide) (by omega);have x2:(10:Int)^18<10^19:=by decide
   have x3:(10:Int)^19≤10^(1500:Nat):=AN (by decide) (by decide);exact zB x1 (zl x2 x3)
  refine zg (BD ..) (zp (by simp) (zc (decide_eq_true (by omega)) ?_));rw[hc0,Oh, ←hn,(Kn n).1,(Kn n).2,zE];refine zp rfl (zc rfl (zc (Am V5 (WK (by omega))) (zc (Am (show BF ((0:Int),[])=true by decide) jp) (zc rfl ?_))));rw[show HE ((0:Int),[]) (BY (10^n),BR (10^n))=BY (a*10^n)by rw[ha];exact(Kr 0 _).1,show HJ ((0:Int),[]) (BY (10^n),BR (10^n))=BR (a*10^n)by rw[ha];exact(Kr 0 _).2,(KO p0 hv.1).1,(KO p0 hv.1).2,ze,ht];exact zc (Am hj2 (Qv hv.1 hv.2)) (zc (by simp;omega) hgo)
 |c::r,j,hr,hjw=>by
  have hdw:Ao w=true:=by rw[hw];exact AV hW n
  have hwl:w.length=n:=by rw[hw,zt];omega
  obtain⟨g1,g2,g3⟩:=drop_cons (d:=0) hr;have hcd:Bs c=true:=by
   unfold Ao at hdw;rw[zF]at hdw;exact hdw c (Eg hr)
  have hd:=Dg hcd;have hlt:(w.take j).length=j:=by rw[zt];omega
  have hb:=Bj (AV hdw j);rw[hlt]at hb;have hp:(10:Int)^j≤10^17:=AN (by decide) (by omega);have hp17:(10:Int)^17=100000000000000000:=by decide
  have gm:(w.map fun b=>(b.toNat:Int)).getD j 0=(c.toNat:Int):=by
   rw[zx,zV,zi g1];have:w[j]=c:=by rw[←g2,zx,zi g1];rfl
   rw[this];rfl
  have e8:zh .u8 ((c.toNat:Int)-48)=MO c:=by
   rw[Zf];unfold MO at hd ⊢;omega
  have e2:zh .i64 (zh .i64 (AA 0 (w.take j)*10)+zh .i64 (MO c))=AA 0 (w.take (j+1)):=by
   rw[Fa hr,CW];show _=10*AA 0 (w.take j)+MO c;generalize AA 0 (w.take j)=D at*;rw[wr (D*10) (by omega) (by omega),wr (MO c) (by omega) (by omega),wr _ (by omega) (by omega)];omega
  have e3:zh .i64 ((j:Int)+1)=((j+1:Nat):Int):=by rw[wr _ (by omega) (by omega)];omega
  refine zg (BD ..) (zc (by simp;omega) ?_);rw[ze,gm,e8,e2,e3];refine zc (by simp;omega) (zc (by simp;omega) (zp (decide_eq_false (by omega)) ?_));exact C2 W neg b1 b0 w n hw hW hn h1 a o0' ha a0 hj hj2 hgo r (j+1) g3 g1
theorem Yj(W:List UInt8)(neg:Bool)(o1:Int)(o1w:List Int)(o0:Int)(hW:Ao W=true)(h1:1≤W.length)(n:Nat)(hn:n=min 18 W.length)
  (h:Ends ML (L7 W neg o1 o1w o0 (W.take n) 0 (W.take n).length (W.take n).length 0 ((W.take n).map fun b=>(b.toNat:Int)) o1 o1w o0) Q):Ends ML (L5 W neg o1 o1w o0) Q:=by
 have hwl:(W.take n).length=n:=by rw[zt];omega
 have hdw:=AV hW n;have hc:((((W.take n).getD 0 0).toNat:Int)==(45:Int))=false∧((((W.take n).getD 0 0).toNat:Int)==(43:Int))=false:=by
  cases hq:W.take n with
  |nil=>rw[hq]at hwl;simp at hwl;omega
  |cons c t=>
   rw[hq]at hdw;unfold Ao at hdw;rw[zK,zj]at hdw;have:=Dg hdw.1;unfold MO at this;show(((c.toNat:Int)==(45:Int))=false)∧(((c.toNat:Int)==(43:Int))=false);constructor<;>(simp;omega)
 refine zg (Dk ..) (zc (by simp;omega) ?_);rw[Oh, ←hn,ze,hc.1,hc.2];exact zc (by simp;omega) (zc (decide_eq_true (by omega)) (zc (decide_eq_true (by omega)) (zc (decide_eq_true (by omega)) (zp rfl (zc (decide_eq_true (by omega)) (zp rfl h))))))
theorem X1(W:List UInt8)(neg:Bool)(o1:Int)(o0:Int)(hW:Ao W=true)(h1:1≤W.length)(n:Nat)(hn:n=min 18 W.length)
  (h:Ends ML (L3 W neg o1 o0 (W.take n) 0 (W.take n).length (W.take n).length 0 ((W.take n).map fun b=>(b.toNat:Int)) o1 o0) Q):Ends ML (L1 W neg o1 o0) Q:=by
 have hwl:(W.take n).length=n:=by rw[zt];omega
 have hdw:=AV hW n;have hc:((((W.take n).getD 0 0).toNat:Int)==(45:Int))=false∧((((W.take n).getD 0 0).toNat:Int)==(43:Int))=false:=by
  cases hq:W.take n with
  |nil=>rw[hq]at hwl;simp at hwl;omega
  |cons c t=>
   rw[hq]at hdw;unfold Ao at hdw;rw[zK,zj]at hdw;have:=Dg hdw.1;unfold MO at this;show(((c.toNat:Int)==(45:Int))=false)∧(((c.toNat:Int)==(43:Int))=false);constructor<;>(simp;omega)
 refine zg (Ap ..) (zc (by simp;omega) ?_);rw[Oh, ←hn,ze,hc.1,hc.2];exact zc (by simp;omega) (zc (decide_eq_true (by omega)) (zc (decide_eq_true (by omega)) (zc (decide_eq_true (by omega)) (zp rfl (zc (decide_eq_true (by omega)) (zp rfl h))))))
theorem bK(n:Int)(h:0≤n):(GM (BY n,BR n),Gq (BY n,BR n))=B7 (-n):=by
 show En (B7 n)=_;unfold En;split
 ·next c=>
  have:=B6 n;rw[Bq c.1]at this;rw[this,Bt (n:= -n)];by_cases hb: -9223372036854775808<n∧n<9223372036854775808
  ·omega
  ·exfalso;have e:B7 n=(1,Br (Ag n)):=by unfold B7;rw[if_neg hb,if_neg (by omega)]
   rw[e]at this;have:(1:Int)=n:=this;omega
 ·rw[B6]
theorem SY{a D:Int}{W:List UInt8}{n:Nat}(ha:0≤a)(hW:Ao W=true)(hn:n≤W.length)(hD:a*10^W.length+AA 0 W=D):(a*10^n+AA 0 (W.take n))*10^(W.drop n).length+AA 0 (W.drop n)=D∧a≤D∧a*10^n≤D:=by
 have hs:AA 0 W=AA 0 (W.take n)*10^(W.drop n).length+AA 0 (W.drop n):=by
  conv=>lhs;rw[←List.take_append_drop n W]
  rw[CW,Ed]
 have hl:W.length=n+(W.drop n).length:=by rw[zn];omega
 have hp:(10:Int)^W.length=10^n*10^(W.drop n).length:=by rw[←Int.pow_add, ←hl]
 have hb:=(Bj hW).1;have e1:a*10^W.length=a*10^n*10^(W.drop n).length:=by rw[hp,Int.mul_assoc]
 have one:∀k:Nat,(1:Int)≤10^k:=fun k=>by have:=AK (show(0:Int)<10 by decide) k;omega
 have l1:a≤a*10^W.length:=by have:=zu (one W.length) ha;omega
 have l2:a*10^n≤a*10^n*10^(W.drop n).length:=by
  have:=zu (one (W.drop n).length) (zR ha (show(0:Int)≤10^n by have:=one n;omega));omega
 refine⟨?_,by omega,by omega⟩;rw[Int.add_mul, ←e1];omega
theorem BK(neg:Bool)(o0 D:Int)(hD1:D<(10:Int)^(1500:Nat))(hq:∀ob,Q (.agg [.dat i64 (BY (if neg=true then -D else D)),.dat (.nlist u64) (BR (if neg=true then -D else D))]) ob):∀(f:Nat) (W:List UInt8) (a:Int),W.length<f→W.length≤1500→0≤a→Ao W=true→a*10^W.length+AA 0 W=D→Ends ML (L5 W neg (BY a) (BR a) o0) Q
 |0,W,a,hf,_,_,_,_=>by omega
 |f+1,W,a,hf,h15,ha,hW,he=>by
  cases hW0:W with
  |nil=>
   subst hW0;have he:a=D:=by rw[←he];simp[AA]
   subst he;have hok:=Eo ha hD1;refine zg (Dk ..) (zp (by simp) (zf (fun c=>zc (Gd hok).1 (zd ?_)) (fun c=>zd ?_)))
   ·have:=bK a ha;rw[c,if_pos rfl]at hq;have x1:GM (BY a,BR a)=BY (-a):=congrArg Prod.fst this;have x2:Gq (BY a,BR a)=BR (-a):=congrArg Prod.snd this;rw[x1,x2];exact hq _
   ·rw[c,if_neg (by decide)]at hq;exact hq _
  |cons c t=>
   rw[←hW0];have h1:1≤W.length:=by rw[hW0];simp
   obtain⟨r1,r2,r3⟩:=SY (n:=min 18 W.length) ha hW (by omega) he;have hv:=(Bj (AV hW (min 18 W.length))).1;have hp:0≤a*10^(min 18 W.length):=zR ha (zA (AK (by decide) _));refine Yj W neg _ _ o0 hW h1 _ rfl (BL W neg _ _ o0 _ _ rfl hW rfl h1 a o0 ha (Eo ha (zB r2 hD1)) (Eo hp (zB r3 hD1)) ?_ _ 0 rfl (zy _));exact BK neg o0 D hD1 hq f (W.drop (min 18 W.length)) _ (by rw[zn];omega) (by rw[zn];omega) (by omega) (Bp hW _) r1
theorem Aq(neg:Bool)(W:List UInt8)(h15:W.length≤1499)(hW:Ao W=true)(hq:∀ob,Q (.agg [.dat i64 (BY (if neg=true then -AA 0 W else AA 0 W)),.dat (.nlist u64) (BR (if neg=true then -AA 0 W else AA 0 W))]) ob)(hq0:W=[]→∀ob v,(v=.agg [.dat i64 0,.nil]∨v=.agg [.dat i64 (GM ((0:Int),[])),.dat (.nlist u64) (Gq ((0:Int),[]))])→Q v ob):Ends ML (L1 W neg 0 0) Q:=by
 cases hW0:W with
 |nil=>
  refine zg (Ap ..) (zp (by simp) (zf (fun c=>zc (by decide) (zd (hq0 hW0 _ _ (.inr rfl)))) (fun c=>zd (hq0 hW0 _ _ (.inl rfl)))))
 |cons c t=>
  rw[←hW0];have h1:1≤W.length:=by rw[hW0];simp
  have hD1:AA 0 W<(10:Int)^(1500:Nat):=zl (Bj hW).2 (AN (by decide) (by omega));obtain⟨r1,r2,r3⟩:=SY (a:=0) (n:=min 18 W.length) (D:=AA 0 W) (ya _) hW (by omega) (by rw[Int.zero_mul,Int.zero_add]);have hv:=(Bj (AV hW (min 18 W.length))).1;refine X1 W neg 0 0 hW h1 _ rfl (C2 W neg 0 0 _ _ rfl hW rfl h1 0 0 rfl (ya _) (by decide) (by rw[Int.zero_mul];decide) ?_ _ 0 rfl (zy _));exact BK neg 0 _ hD1 hq (W.length+1) (W.drop (min 18 W.length)) _ (by rw[zn];omega) (by rw[zn];omega) (by omega) (Bp hW _) r1
theorem ok:Ac A4 41 Pa:=by
 refine AJ (X:=ML) rfl YV (d:=9) (by kernel_rfl) (by kernel_rfl) (by kernel_rfl) (fun(s:List UInt8) hs=>?_) (Ad (by kernel_rfl));have hs:(decide (s.length≤1499)&&(if s.getD 0 0=45 then Ao (s.drop 1)else Ao s))=true:=hs;rw[zj,decide_eq_true_eq]at hs;obtain⟨hl,hs⟩:=hs;have fin:∀D,Cr s=D→∀ob,Af Pa s (.agg [.dat i64 (BY D),.dat (.nlist u64) (BR D)]) ob:=by
  rintro D rfl ob;exact zX rfl rfl rfl
 have fin0:Cr s=0→∀ob v,(v=.agg [.dat i64 0,.nil]∨v=.agg [.dat i64 (GM ((0:Int),[])),.dat (.nlist u64) (Gq ((0:Int),[]))])→Af Pa s v ob:=by
  rintro h ob v (rfl|rfl)
  ·refine zX rfl rfl ?_;show((0:Int),([]:List Int))=(BY (Cr s),BR (Cr s));rw[h];rfl
  ·refine zX rfl rfl ?_;show En ((0:Int),([]:List Int))=(BY (Cr s),BR (Cr s));rw[h];rfl
 refine zQ (Ay s) ?_;conv=>zeta
 cases s with
 |nil=>
  refine zp (by decide) (zp (by decide) (zg (AS ..) (zp (by decide) (zd (fin0 rfl _ _ (.inl rfl))))))
 |cons c r=>
  have ht:(c::r).take 1=[c]:=rfl;have g0:(c::r).getD 0 0=c:=rfl;rw[g0]at hs;have e:(List.drop 1 (c::r)).take (yf (c::r).length 1)=r:=by show r.take ((r.length+1)-1)=r;rw[Nat.add_sub_cancel];exact zE
  have b1:decide (((c::r).length:Int)≥1)=true:=decide_eq_true (by simp;omega);have b2:decide (1≤(c::r).length)=true:=decide_eq_true (by simp);rw[ht,e];refine zc b1 (zc b2 (zc b1 (zc b2 (zf (fun d=>?_) (fun d=>?_)))))
  ·have hc:c=45:=by simpa using d
   rw[if_pos hc]at hs;rw[d];have hr:Cr (c::r)= -AA 0 r:=by unfold Cr;rw[g0,if_pos hc];rfl
   refine zc (by simp) (Aq true r (by simp at hl;omega) hs (fin _ (by rw[hr,if_pos rfl])) (fun h0=>fin0 (by rw[hr,h0];rfl)))
  ·have hc:c≠45:=by rintro rfl;exact absurd d (by decide)
   rw[if_neg hc]at hs;rw[d];have hr:Cr (c::r)=AA 0 (c::r):=by unfold Cr;rw[g0,if_neg hc]
   exact Aq false (c::r) hl hs (fin _ (by rw[hr,if_neg (by decide)])) (fun h0=>by cases h0)
end T41
end Go.Pe
end
section
namespace Go.Pe
open Sp
open Go.Det
namespace T38
theorem loop{Q:PV→Ob→Prop}(l:List Int)(hl:l.length≤1000000):∀(r:List Int) (i:Nat),l.drop i=r→i≤l.length→Q (.dat i64 (yg r)) []→Ends Nx (L1 l ((l.length:Int)) i) Q
 |[],i,h,hi,hq=>by
  refine zg (Ap ..) ?_;conv=>zeta
  have:¬i<l.length:=by
   intro h1;have:=List.drop_eq_getElem_cons h1;rw[h]at this;cases this
  have he:i=l.length:=by omega
  subst he;simpa [yg]using hq
 |x::r,i,h,hi,hq=>by
  obtain⟨h1,h2,h3⟩:=drop_cons (d:=0) h;refine zg (Ap ..) ?_;conv=>zeta
  rw[CI,if_pos (by simp;omega),CI,if_pos (by simp;omega),CI];simp only[ze,h2];by_cases hx:x=0
  ·subst hx;rw[if_neg (by simp),wr _ (by omega) (by omega)];exact loop l hl r (i+1) h3 h1 (by simpa [yg]using hq)
  ·rw[if_pos (by simpa using hx)];simpa [yg,hx]using hq
theorem ok:Ac A4 38 DN:=by
 refine AJ (X:=Nx) rfl Iw (d:=9) (by kernel_rfl) (by kernel_rfl) rfl (fun l hl=>?_) (Ad (by kernel_rfl));refine zQ (Ay l) ?_;conv=>zeta
 exact loop l (by simpa [DN]using hl) l 0 rfl (zy _) (zX rfl rfl rfl)
end T38
theorem T39.ok:Ac A4 39 Ih:=by
 refine AJ (X:=Nx) rfl Iw (d:=9) (by kernel_rfl) (by kernel_rfl) rfl (fun⟨c,e⟩ _=>?_) (Ad (by kernel_rfl));refine zQ (T39.Ay c e) ?_;conv=>zeta
 have key:∀x:Int,x=BS c e→Af Ih (c,e) (.dat i64 x) []:=fun x hx=>zX rfl rfl hx
 simp only[CI,Dn];cases c
 ·exact key _ rfl
 ·exact key _ rfl
theorem Xh:∀g sp,Jg.sp g=some sp→Ac A4 g sp:=
 Ab T38.ok (Ab T39.ok (Ab T35.ok (Ab T36.ok (Ab T37.ok (Ab T40.ok (Ab T41.ok (Ab T42.ok (Ab T43n.ok (fun g sp h=>by cases h)))))))))
theorem Fy{s:List UInt8}(h:AT s=true):s≠[]∧Ao s=true:=by
 unfold AT at h;rw[zj,zj,decide_eq_true_eq]at h;exact h.1
theorem IJ{s:List UInt8}(h:Ao s=true)(hl:s.length≤1499):Fg s=true∧Cr s=AA 0 s:=by
 have h0:s.getD 0 0≠45:=by
  cases s with
  |nil=>decide
  |cons c r=>
   unfold Ao at h;rw[zK,zj]at h;have:=Dg h.1;rintro he;have he:c=45:=he;subst he;exact absurd this (by decide)
 unfold Fg Cr;rw[if_neg h0,if_neg h0,h,Bool.and_true];exact⟨decide_eq_true hl,rfl⟩
theorem Y2{a b L:Int}(ha:0≤a)(hb:0≤b)(h1:a<L)(h2:b<L):0≤z8 a b∧z8 a b<L:=by
 rw[Rx];obtain⟨x,rfl⟩:=zY ha;obtain⟨y,rfl⟩:=zY hb;have e:Int.gcd (x:Int) (y:Int)=Nat.gcd x y:=rfl;rw[e];refine⟨Int.natCast_nonneg _,?_⟩;rcases Nat.eq_zero_or_pos x with h|h
 ·subst h;rw[Nat.gcd_zero_left];exact h2
 ·have:=Nat.gcd_le_left y h;omega
namespace T10
variable {Q:PV→Ob→Prop}
def E(A B:List UInt8)(br form:Bool):Int:=if form=false then 1 else if 600<A.length∨600<B.length then 4 else if br=true∧z8 (AA 0 A) (AA 0 B)≠1 then 1 else 0
theorem KS(A B:List UInt8)(br:Bool)(hA:Ao A=true)(hB:br=true→Ao B=true)(lA:A.length≤600)(lB:B.length≤600)(hq:∀ob,Q (.dat i64 (if br=true∧z8 (AA 0 A) (AA 0 B)≠1 then 1 else 0)) ob):Ends Jg (L8 A B br) Q:=by
 refine zg (J6 ..) (zf (fun c=>?_) (fun c=>?_))
 ·have hB:=hB c;obtain⟨r1,r2⟩:=IJ hA (by omega);obtain⟨r3,r4⟩:=IJ hB (by omega);have bA:=Bj hA;have bB:=Bj hB;have uA:AA 0 A<(10:Int)^(1500:Nat):=zl bA.2 (AN (by decide) (by omega));have uB:AA 0 B<(10:Int)^(1500:Nat):=zl bB.2 (AN (by decide) (by omega));have e1:Eh A=BY (AA 0 A):=by unfold Eh;rw[r2]
  have e2:D7 A=BR (AA 0 A):=by unfold D7;rw[r2]
  have e3:Eh B=BY (AA 0 B):=by unfold Eh;rw[r4]
  have e4:D7 B=BR (AA 0 B):=by unfold D7;rw[r4]
  have g1:QA (BY (AA 0 A),BR (AA 0 A)) (BY (AA 0 B),BR (AA 0 B))=BY (z8 (AA 0 A) (AA 0 B)):=by
   unfold QA;rw[Nd,Nd]
  have g2:Px (BY (AA 0 A),BR (AA 0 A)) (BY (AA 0 B),BR (AA 0 B))=BR (z8 (AA 0 A) (AA 0 B)):=by
   unfold Px;rw[Nd,Nd]
  obtain⟨l1,l2⟩:=Y2 bA.1 bB.1 uA uB;have ec:V9 (BY (z8 (AA 0 A) (AA 0 B)),BR (z8 (AA 0 A) (AA 0 B))) ((1:Int),EG (1:Int))=BO (z8 (AA 0 A) (AA 0 B)) 1:=by
   unfold V9;rw[Nd,C9,DP]
  rw[e1,e2,e3,e4,g1,g2,ec];have j1:BF ((1:Int),EG (1:Int))=true:=by rw[C9];decide
  refine zc r1 (zc r3 (zc (Am (GK (Eo bA.1 uA)) (GK (Eo bB.1 uB))) (zc rfl (zc (Am (GK (Eo l1 l2)) j1) ?_))));refine zg (cS ..) (zc rfl (zd ?_));generalize z8 (AA 0 A) (AA 0 B)=g at*;have:BS (BO g 1 !=0) 1=if br=true∧g≠1 then 1 else 0:=by
   unfold BO BS;by_cases h:g=1
   ·subst h;rw[c];rfl
   ·have x3:(if br=true∧g≠1 then(1:Int)else 0)=1:=if_pos ⟨c,h⟩;rw[x3];rcases Int.lt_or_gt_of_ne h with q|q
    ·rw[if_pos q];rfl
    ·rw[if_neg (by omega),if_pos q];rfl
  rw[this];exact hq _
 ·refine zg OB (zc rfl (zd ?_));rw[if_neg (by rw[c];simp)]at hq;exact hq _
theorem BL(A B:List UInt8)(br form c d:Bool)(hc:c= !form)(hd:d=true↔600<A.length∨600<B.length)(hf:form=true→Ao A=true∧(br=true→Ao B=true))(hq:∀ob,Q (.dat i64 (E A B br form)) ob):Ends Jg (L7 A B br (yg [BS c 1,BS d 4])) Q:=by
 subst hc;unfold E at hq;cases form with
 |false=>
  refine zg (Dj ..) (zc ?_ (zd (hq _)));cases d<;>rfl
 |true=>
  rw[if_neg (by decide)]at hq;cases d with
  |true=>
   rw[if_pos (hd.1 rfl)]at hq;exact zg (Dj ..) (zc rfl (zd (hq _)))
  |false=>
   have hn:¬(600<A.length∨600<B.length):=fun h=>by have:=hd.2 h;cases this
   rw[if_neg hn]at hq;obtain⟨f1,f2⟩:=hf rfl;exact zg (Dj ..) (zp rfl (KS A B br f1 f2 (by omega) (by omega) hq))
theorem BU(A B:List UInt8)(br form:Bool)(hf:form=true→Ao A=true∧(br=true→Ao B=true))(hq:∀ob,Q (.dat i64 (E A B br form)) ob):Ends Jg (L4 A B br form) Q:=by
 refine zg (CG ..) (zc rfl (zf (fun c=>zc rfl (zc rfl ?_)) (fun c=>zc rfl (zc rfl ?_))))
 ·have c:=of_decide_eq_true c;exact BL A B br form _ _ rfl ⟨fun _=>.inl (by omega),fun _=>rfl⟩ hf hq
 ·have c:=of_decide_eq_false c;exact BL A B br form _ _ rfl ⟨fun h=>.inr (by have:=of_decide_eq_true h;omega),fun h=>decide_eq_true (by omega)⟩ hf hq
theorem BK(A B:List UInt8)(br:Bool)(hq:∀ob,Q (.dat i64 (E A B br false)) ob):Ends Jg (L5 A B br) Q:=by
 refine zg (Dk ..) (zc rfl (zf (fun c=>zc rfl (zc rfl ?_)) (fun c=>zc rfl (zc rfl ?_))))
 ·have c:=of_decide_eq_true c;exact BL A B br false _ _ rfl ⟨fun _=>.inl (by omega),fun _=>rfl⟩ (fun h=>by cases h) hq
 ·have c:=of_decide_eq_false c;exact BL A B br false _ _ rfl ⟨fun h=>.inr (by have:=of_decide_eq_true h;omega),fun h=>decide_eq_true (by omega)⟩ (fun h=>by cases h) hq
theorem Ky(A B:List UInt8)(br:Bool)(hf:Ao A=true∧(br=true→Ao B=true))(hq:∀ob,Q (.dat i64 (E A B br true)) ob):Ends Jg (L6 A B br) Q:=by
 refine zg (HC ..) (zc rfl (zf (fun c=>zc rfl (zc rfl ?_)) (fun c=>zc rfl (zc rfl ?_))))
 ·have c:=of_decide_eq_true c;exact BL A B br true _ _ rfl ⟨fun _=>.inl (by omega),fun _=>rfl⟩ (fun _=>hf) hq
 ·have c:=of_decide_eq_false c;exact BL A B br true _ _ rfl ⟨fun h=>.inr (by have:=of_decide_eq_true h;omega),fun h=>decide_eq_true (by omega)⟩ (fun _=>hf) hq
theorem PN{F:Tr}(A B:List UInt8)(br:Bool)(lB:B.length≤1000000)(hA:Ao A=true)(form:Bool)(hform:form=(!br||(AT B&&decide (B≠[48])&&decide (B≠[49]))))(hq:∀ob,Q (.dat i64 (E A B br form)) ob)
  (h:(br=true→Ends Jg (.ite (decide (B.length≤1000000)) (.ite (AT B) (.ite (!B==[(48:UInt8)]) (L4 A B br (!B==[(49:UInt8)])) (L5 A B br)) (L5 A B br)) .fail) Q)→(br=false→form=true)→Ends Jg F Q):Ends Jg F Q:=by
 refine h (fun hb=>zc (decide_eq_true lB) ?_) (fun hb=>by rw[hform,hb];rfl);rw[hb]at hform;refine zf (fun c=>zf (fun d=>?_) (fun d=>?_)) (fun c=>?_)
 ·have d:B≠[48]:=by simpa using d
  have e:form=(!B==[(49:UInt8)]):=by
   rw[hform,c,decide_eq_true d];by_cases h:B=[49]
   ·rw[h];rfl
   ·rw[decide_eq_true h];simp[h]
  rw[←e];exact BU A B br form (fun _=>⟨hA,fun _=>(Fy c).2⟩) hq
 ·have d:B=[48]:=by simpa using d
  have e:form=false:=by rw[hform,decide_eq_false (fun h=>h d)];simp
  rw[e]at hq;exact BK A B br hq
 ·have e:form=false:=by rw[hform,c];simp
  rw[e]at hq;exact BK A B br hq
theorem Kl(s:List UInt8):(AU s).length≤s.length∧(zk s).length≤s.length:=by
 unfold AU zk;cases s.findIdx? (fun x=>x==47)with
 |none=>simp
 |some i=>simp;omega
theorem S1(s:List UInt8):(B8 s).length≤s.length:=by
 unfold B8;split
 ·simp
 ·exact zD _
theorem ok:Ac A4 10 Hf:=by
 refine AJ (X:=Jg) rfl Xh (d:=9) (by kernel_rfl) (by kernel_rfl) (by kernel_rfl) (fun(a:List UInt8) hl=>?_) (Ad (by kernel_rfl));have hl:a.length≤1000000:=of_decide_eq_true hl;have l1:=S1 a;obtain⟨l2,l3⟩:=Kl (B8 a);have hq:∀form,form=Iu a→∀ob,Af Hf a (.dat i64 (E (AU (B8 a)) (zk (B8 a)) (Cb (B8 a)) form)) ob:=by
  rintro form rfl ob;exact zX rfl rfl rfl
 have hfm:Iu a=(AT (AU (B8 a))&&(!yh a||decide (AU (B8 a)≠[48]))&&(!Cb (B8 a)||(AT (zk (B8 a))&&decide (zk (B8 a)≠[48])&&decide (zk (B8 a)≠[49])))):=rfl;refine zQ (Ay a) (zc (Am (decide_eq_true rfl) (decide_eq_true hl)) (zc (Am (decide_eq_true rfl) (decide_eq_true (by omega))) (zc (decide_eq_true (by omega)) ?_)));generalize AU (B8 a)=A at*;generalize zk (B8 a)=B at*;generalize Cb (B8 a)=br at*;refine zf (fun c=>?_) (fun c=>?_)
 ·have hA:=(Fy c).2;refine zf (fun d=>?_) (fun d=>?_)
  ·have ef:Iu a=(!br||(AT B&&decide (B≠[48])&&decide (B≠[49]))):=by rw[hfm,c,d];rfl
   refine PN A B br (by omega) hA (Iu a) ef (hq _ rfl) (fun h1 h2=>zg (Ap ..) (zf h1 (fun e=>?_)));have h3:=h2 e;exact Ky A B br ⟨hA,fun h=>by rw[e]at h;cases h⟩ (hq true h3.symm)
  ·by_cases hz:A=[48]
   ·have ef:Iu a=false:=by rw[hfm,d,decide_eq_false (fun h=>h hz)];simp
    have e8:(!A==[(48:UInt8)])=false:=by rw[hz];rfl
    rw[e8];refine zg (AS ..) (zf (fun e=>zp rfl (BK A B br (hq false ef.symm))) (fun e=>BU A B br false (fun h=>by cases h) (hq false ef.symm)))
   ·have e8:(!A==[(48:UInt8)])=true:=by simp[hz]
    have ef:Iu a=(!br||(AT B&&decide (B≠[48])&&decide (B≠[49]))):=by rw[hfm,c,d,decide_eq_true hz];rfl
    rw[e8];refine PN A B br (by omega) hA (Iu a) ef (hq _ rfl) (fun h1 h2=>zg (AS ..) (zf (fun e=>zc rfl (h1 e)) (fun e=>?_)));have h3:=h2 e;exact BU A B br true (fun _=>⟨hA,fun h=>by rw[e]at h;cases h⟩) (hq true h3.symm)
 ·have ef:Iu a=false:=by rw[hfm,c];simp
  exact zg (BD ..) (zf (fun e=>BK A B br (hq false ef.symm)) (fun e=>BK A B br (hq false ef.symm)))
end T10
end Go.Pe
end
section
namespace Go.Pe
open Sp
open Go.Det
theorem Nz(c:UInt8)(r:List UInt8):AU (c::r)=if c=47 then[]else c::AU r:=by
 unfold AU;rw[List.findIdx?_cons];by_cases h:c=47
 ·subst h;rfl
 ·rw[if_neg (by simpa using h),if_neg h];cases r.findIdx? (fun x=>x==47)<;>rfl
namespace T44
theorem Aq{Q:PV→Ob→Prop}(s:List UInt8)(hl:s.length≤1000000):∀(r:List UInt8) (i:Nat),s.drop i=r→i≤s.length→(∀ob,Q (.dat i64 (((i+(AU r).length:Nat)):Int)) ob)→Ends Nx (L1 s i) Q
 |[],i,h,hi,hq=>by
  have he:i=s.length:=drop_nil h hi;subst he;exact zg (Ap ..) (zp (by simp) (zd (hq _)))
 |c::r,i,h,hi,hq=>by
  obtain⟨h1,h2,h3⟩:=drop_cons (d:=0) h;have e3:zh .i64 ((i:Int)+1)=((i+1:Nat):Int):=by rw[wr _ (by omega) (by omega)];omega
  rw[Nz]at hq;refine zg (Ap ..) (zc (by simp;omega) ?_);rw[ze,h2,e3];refine zc (by simp;omega) (zf (fun d=>?_) (fun d=>?_))
  ·have hc:c=47:=by
    have:(c.toNat:Int)=47:=by simpa using d
    exact zM.1 (by show _=47;omega)
   rw[if_pos hc]at hq;exact zd (hq _)
  ·have hc:c≠47:=by rintro rfl;exact absurd d (by decide)
   rw[if_neg hc]at hq;refine Aq s hl r (i+1) h3 h1 (fun ob=>?_);have:=hq ob;rw[zZ]at this;rw[show i+1+(AU r).length=i+((AU r).length+1)by omega];exact this
theorem ok:Ac A4 44 Ri:=by
 refine AJ (X:=Nx) rfl Iw (d:=9) (by kernel_rfl) (by kernel_rfl) (by kernel_rfl) (fun(s:List UInt8) hl=>?_) (Ad (by kernel_rfl));have hl:s.length≤1000000:=of_decide_eq_true hl;refine zQ (Ay s) (Aq s hl s 0 rfl (zy _) (fun ob=>zX rfl rfl ?_));rw[Nat.zero_add];rfl
end T44
namespace T45
variable {Q:PV→Ob→Prop}
theorem QH{s:List UInt8}{r:List UInt8}{c:UInt8}{i:Nat}(h:s.drop i=c::r):Ao (s.drop i)=(Bs c&&Ao (s.drop (i+1))):=by
 obtain⟨_,_,h3⟩:=drop_cons (d:=0) h;rw[h3,h];rfl
theorem Aq(s:List UInt8)(hl:s.length≤1000000):∀(r:List UInt8) (i:Nat),s.drop i=r→i≤s.length→(∀ob,Q (.bl (Ao (s.drop i))) ob)→Ends Nx (L1 s s i) Q
 |[],i,h,hi,hq=>by
  have he:i=s.length:=drop_nil h hi;rw[h]at hq;subst he;exact zg (Ap ..) (zp (by simp) (zd (hq _)))
 |c::r,i,h,hi,hq=>by
  obtain⟨h1,h2,h3⟩:=drop_cons (d:=0) h;have e3:zh .i64 ((i:Int)+1)=((i+1:Nat):Int):=by rw[wr _ (by omega) (by omega)];omega
  rw[QH h]at hq;refine zg (Ap ..) (zc (by simp;omega) ?_);rw[ze,h2,e3];refine zc (by simp;omega) (zf (fun d=>?_) (fun d=>zc (by simp;omega) (zf (fun e=>?_) (fun e=>?_))))
  ·have d:=of_decide_eq_true d;have hn:Bs c=false:=by unfold Bs;rw[decide_eq_false (by omega)];rfl
   rw[hn]at hq;exact zd (hq _)
  ·have e:=of_decide_eq_true e;have hn:Bs c=false:=by unfold Bs;rw[decide_eq_false (p:=c.toNat≤57) (by omega),Bool.and_false]
   rw[hn]at hq;exact zd (hq _)
  ·have d:=of_decide_eq_false d;have e:=of_decide_eq_false e;have hn:Bs c=true:=by unfold Bs;exact Am (decide_eq_true (by omega)) (decide_eq_true (by omega))
   rw[hn,zL]at hq;exact Aq s hl r (i+1) h3 h1 hq
theorem Be(s:List UInt8)(hl:s.length≤1000000):∀(r:List UInt8) (i:Nat),s.drop i=r→i≤s.length→(∀ob,Q (.bl (Ao (s.drop i))) ob)→Ends Nx (L2 s s i) Q
 |[],i,h,hi,hq=>by
  have he:i=s.length:=drop_nil h hi;rw[h]at hq;subst he;exact zg (AS ..) (zp (by simp) (zd (hq _)))
 |c::r,i,h,hi,hq=>by
  obtain⟨h1,h2,h3⟩:=drop_cons (d:=0) h;have e3:zh .i64 ((i:Int)+1)=((i+1:Nat):Int):=by rw[wr _ (by omega) (by omega)];omega
  rw[QH h]at hq;refine zg (AS ..) (zc (by simp;omega) ?_);rw[ze,h2,e3];refine zc (by simp;omega) (zf (fun d=>?_) (fun d=>zc (by simp;omega) (zf (fun e=>?_) (fun e=>?_))))
  ·have d:=of_decide_eq_true d;have hn:Bs c=false:=by unfold Bs;rw[decide_eq_false (by omega)];rfl
   rw[hn]at hq;exact zd (hq _)
  ·have e:=of_decide_eq_true e;have hn:Bs c=false:=by unfold Bs;rw[decide_eq_false (p:=c.toNat≤57) (by omega),Bool.and_false]
   rw[hn]at hq;exact zd (hq _)
  ·have d:=of_decide_eq_false d;have e:=of_decide_eq_false e;have hn:Bs c=true:=by unfold Bs;exact Am (decide_eq_true (by omega)) (decide_eq_true (by omega))
   rw[hn,zL]at hq;exact Be s hl r (i+1) h3 h1 hq
theorem ok:Ac A4 45 JM:=by
 refine AJ (X:=Nx) rfl Iw (d:=9) (by kernel_rfl) (by kernel_rfl) (by kernel_rfl) (fun(s:List UInt8) hl=>?_) (Ad (by kernel_rfl));have hl:s.length≤1000000:=of_decide_eq_true hl;have hq:∀b ob,b=AT s→Af JM s (.bl b) ob:=fun b ob hb=>zX rfl rfl hb
 refine zQ (Ay s) ?_;conv=>zeta
 cases s with
 |nil=>exact zc rfl (zd (hq _ _ rfl))
 |cons c r=>
  have g0:(c::r).getD 0 0=c:=rfl;rw[g0];refine zp (by simp;omega) (zf (fun d=>zc (by simp) (zf (fun e=>zd (hq _ _ ?_)) (fun e=>?_))) (fun d=>?_))
  ·have d:=of_decide_eq_true d;have hc:c=48:=by
    have:(c.toNat:Int)=48:=by simpa using e
    exact zM.1 (by show _=48;omega)
   have hr:r≠[]:=by rintro rfl;simp at d
   unfold AT;rw[g0,decide_eq_false (p:=c≠48) (fun h=>h hc),decide_eq_false (p:=c::r=[48]) (by intro h;simp at h;exact hr h.2)];simp
  ·have hc:c≠48:=by rintro rfl;exact absurd e (by decide)
   refine Aq (c::r) hl (c::r) 0 rfl (zy _) (fun ob=>hq _ _ ?_);unfold AT;rw[g0,decide_eq_true hc];simp
  ·have d:=of_decide_eq_false d;have hr:r=[]:=by
    have:r.length=0:=by simp at d;omega
    exact zH.1 this
   subst hr;refine Be [c] hl [c] 0 rfl (zy _) (fun ob=>hq _ _ ?_);unfold AT;rw[g0];by_cases hc:c=48
   ·subst hc;rfl
   ·rw[decide_eq_true hc];simp
end T45
theorem Xc:∀g sp,XC.sp g=some sp→Ac A4 g sp:=Ab T159.ok (fun g sp h=>by cases h)
namespace T101
variable {Q:PV→Ob→Prop}
theorem Lg{v:Int}(hv: -9223372036854775808≤v∧v<9223372036854775808):∃q d:Nat,Ag v=d+1000000000*q∧d<1000000000∧zh .i64 (Int.tdiv v 1000000000)=(if v<0 then -(q:Int)else q)∧Int.tmod v 1000000000=(if v<0 then -(d:Int)else d):=by
 refine⟨v.natAbs/1000000000,v.natAbs % 1000000000,by rw[Ar];omega,by omega,?_,?_⟩
 ·by_cases h:v<0
  ·have:=Int.neg_tdiv (-v) 1000000000;rw[Int.neg_neg]at this;rw[this,zS (by omega),if_pos h,wr _ (by omega) (by omega)];omega
  ·rw[zS (by omega),if_neg h,wr _ (by omega) (by omega)];omega
 ·by_cases h:v<0
  ·have:=Int.neg_tmod (-v) 1000000000;rw[Int.neg_neg]at this;rw[this,zT (by omega),if_pos h];omega
  ·rw[zT (by omega),if_neg h];omega
theorem Be(neg:Bool)(D:Int)(hq:∀(w:List Int) ob,As zN w→Sp.val zN w=D→Q (.agg [.dat .bool (DY neg w),.dat li (Ax w)]) ob):∀(f:Nat) (v:Int) (o1:List Int),Ag v<f→(-9223372036854775808≤v∧v<9223372036854775808)→o1.length≤100→(Ag v≠0→Ag v*1000000000^o1.length≤9223372036854775808)→As zN o1→Sp.val zN o1+(zN:Int)^o1.length*Ag v=D→Ends XC (L2 v o1.length neg o1) Q
 |0,v,o1,hf,hv,ho,hb,hd,he=>by
  have:=AG v;omega
 |f+1,v,o1,hf,hv,ho,hb,hd,he=>by
  obtain⟨q,d,s1,s2,s3,s4⟩:=Lg hv;by_cases h0:v=0
  ·subst h0;have e0:Ag 0=0:=rfl;rw[e0,Int.mul_zero,Int.add_zero]at he;refine zg (AS ..) (zp rfl ?_);rw[zE];exact zc (by simp;omega) (zd (hq _ _ hd he))
  ·have hne:Ag v≠0:=by rw[Ar];omega
   have hbb:=hb hne;have ho10:o1.length≤10:=by
    rcases Nat.lt_or_ge 10 o1.length with g|g
    ·exfalso;have x1:(1000000000:Int)^11≤1000000000^o1.length:=AN (by decide) g;have x2:(9223372036854775808:Int)<1000000000^11:=by decide
     have x3:=zr (show 1≤Ag v by have:=AG v;omega) (show(0:Int)≤1000000000^o1.length by omega);omega
    ·exact g
   have eq:Ag (if v<0 then -(q:Int)else q)=q:=by rw[Ar];split<;>omega
   have go:Ends XC (L2 (if v<0 then -(q:Int)else q) (Nat.add o1.length 1) neg (o1++[(d:Int)])) Q:=by
    have:=Be neg D hq f (if v<0 then -(q:Int)else q) (o1++[(d:Int)]) (by rw[eq];omega) (by have:=Ar v;split<;>omega) (by simp;omega) (fun _=>by
     rw[eq,zU];show(q:Int)*1000000000^(o1.length+1)≤_;rw[zO, ←Int.mul_assoc,Int.mul_right_comm];have x1:=zr (show(q:Int)*1000000000≤Ag v by omega) (show(0:Int)≤1000000000^o1.length from zA (AK (by decide) _));omega) (EA hd (by omega)) (by
     rw[eq,Cd,zU];show Sp.val zN o1+(zN:Int)^o1.length*(d:Int)+(zN:Int)^(o1.length+1)*(q:Int)=D;rw[MJ,Int.add_assoc, ←Int.mul_add, ←he,s1])
    rw[zU]at this;exact this
   refine zg (AS ..) (zc (by simpa using h0) (zc rfl ?_));rw[s3,s4];refine zf (fun c=>zc (by simp;omega) (zc rfl ?_)) (fun c=>zc (by simp;omega) (zc rfl ?_))
   ·have c:=of_decide_eq_true c;have hn:v<0:=by split at c<;>omega
    rw[if_pos hn]at c;rw[if_pos hn,if_pos hn];rw[if_pos hn]at go;have e5:zh .i64 (0 - -(d:Int))=(d:Int):=by rw[wr _ (by omega) (by omega)];omega
    rw[e5];exact go
   ·have c:=of_decide_eq_false c;have e5:(if v<0 then -(d:Int)else(d:Int))=(d:Int):=by split at c<;>split<;>omega
    rw[e5];exact go
theorem ok:Ac A4 101 Kw:=by
 refine AJ (X:=XC) rfl Xc (d:=9) (by kernel_rfl) (by kernel_rfl) (by kernel_rfl) (fun(v:Int) hv=>?_) (Ad (by kernel_rfl));have hv:=Ep (n:=v) hv;have fin:∀(w:List Int) ob,As zN w→Sp.val zN w=Ag v→Af Kw v (.agg [.dat .bool (DY (decide (v<0)) w),.dat li (Ax w)]) ob:=by
  intro w ob hd hw;refine zX rfl rfl ?_;have:=M5 (neg:=decide (v<0)) hd hw;have e:(if decide (v<0)=true then -Ag v else Ag v)=v:=by
   rw[Ar];by_cases h:v<0
   ·rw[if_pos (decide_eq_true h)];omega
   ·rw[if_neg (by simpa using h)];omega
  rw[e]at this;exact this
 obtain⟨q,d,s1,s2,s3,s4⟩:=Lg hv;have hn:=AG v;refine zQ (Ay v) ?_;conv=>zeta
 by_cases h0:v=0
 ·subst h0;exact zg (Ap ..) (zp rfl (zc rfl (zd (fin [] _ (fun x hx=>by cases hx) rfl))))
 ·have eq:Ag (if v<0 then -(q:Int)else q)=q:=by rw[Ar];split<;>omega
  have go:Ends XC (L2 (if v<0 then -(q:Int)else q) 1 (decide (v<0)) [(d:Int)]) (Af Kw v):=by
   refine Be (decide (v<0)) (Ag v) fin (q+1) _ [(d:Int)] (by rw[eq];omega) (by have:=Ar v;split<;>omega) (by simp) (fun _=>?_) (fun x hx=>by rw[List.mem_singleton]at hx;subst hx;show 0≤_∧_<(1000000000:Int);omega) ?_
   ·rw[eq];show(q:Int)*1000000000^1≤_;have:=Ar v;omega
   ·rw[eq,C3,s1];show(d:Int)+(1000000000:Int)^1*(q:Int)=_;omega
  refine zg (Ap ..) (zc (by simpa using h0) (zc rfl ?_));rw[s3,s4];refine zf (fun c=>zc rfl (zc rfl ?_)) (fun c=>zc rfl (zc rfl ?_))
  ·have c:=of_decide_eq_true c;have hn:v<0:=by split at c<;>omega
   rw[if_pos hn]at c;rw[if_pos hn,if_pos hn];rw[if_pos hn]at go;have e5:zh .i64 (0 - -(d:Int))=(d:Int):=by rw[wr _ (by omega) (by omega)];omega
   rw[e5];exact go
  ·have c:=of_decide_eq_false c;have e5:(if v<0 then -(d:Int)else(d:Int))=(d:Int):=by split at c<;>split<;>omega
   rw[e5];exact go
end T101
theorem Ya:∀g sp,eP.sp g=some sp→Ac A4 g sp:=Ab T44.ok (Ab T100.ok (Ab T101.ok (fun g sp h=>by cases h)))
theorem Fe:∀(s:List UInt8),AU s=s.take (AU s).length∧(Cb s=true→(AU s).length<s.length∧zk s=s.drop ((AU s).length+1))∧(Cb s=false→AU s=s∧zk s=[])
 |[]=>⟨rfl,(fun h=>(by cases h)),fun _=>⟨rfl,rfl⟩⟩
 |c::r=>by
  obtain⟨h1,h2,h3⟩:=Fe r;have hB:zk (c::r)=if c=47 then r else zk r:=by
   unfold zk;rw[List.findIdx?_cons];by_cases h:c=47
   ·subst h;rfl
   ·rw[if_neg (by simpa using h),if_neg h];cases r.findIdx? (fun x=>x==47)<;>rfl
  have hC:Cb (c::r)=(decide (c=47)||Cb r):=by
   unfold Cb;rw[List.any_cons];congr 1
  rw[Nz,hB,hC];by_cases h:c=47
  ·rw[if_pos h,if_pos h,decide_eq_true h];exact⟨rfl,(fun _=>⟨by simp,rfl⟩),fun h=>by cases h⟩
  ·rw[if_neg h,if_neg h,decide_eq_false h];refine⟨?_,fun g=>?_,fun g=>?_⟩
   ·rw[zZ,List.take_succ_cons, ←h1]
   ·obtain⟨k1,k2⟩:=h2 g;refine⟨by simp;omega,?_⟩;rw[zZ,List.drop_succ_cons];exact k2
   ·obtain⟨k1,k2⟩:=h3 g;exact⟨by rw[k1],k2⟩
theorem T46.ok:Ac A4 46 R6:=by
 refine AJ (X:=eP) rfl Ya (d:=9) (by kernel_rfl) (by kernel_rfl) (by kernel_rfl) (fun(a:List UInt8) ha=>?_) (Ad (by kernel_rfl));have ha:(Fg (AU a)&&Fg (zk a)&&decide (a.length≤1499))=true:=ha;rw[zj,zj,decide_eq_true_eq]at ha;obtain⟨⟨ra,rb⟩,hl⟩:=ha;obtain⟨c1,c2,c3⟩:=Fe a;have es:B5 a=((AU a).length:Int):=rfl;have hle:(AU a).length≤a.length:=(T10.Kl a).1;refine zQ (T46.Ay a) (zc (decide_eq_true (by omega)) (zf (fun c=>?_) (fun c=>?_)))
 ·have c:(AU a).length=a.length:=by
   have:((AU a).length:Int)=(a.length:Int):=by simpa [es]using c
   omega
  have hc:Cb a=false:=by
   cases h:Cb a with
   |false=>rfl
   |true=>have:=(c2 h).1;omega
  obtain⟨k1,k2⟩:=c3 hc;rw[k1]at ra;refine zc ra (zc rfl (zd (zX rfl rfl ?_)));show((DK a,DM a),(false,Sp.rW 1))=((JA a,Gv a),(Jy a,Gx a));unfold JA Gv Jy Gx Pz PG DK DM;rw[k1,hc];rfl
 ·have hlt:(AU a).length<a.length:=by
   have:((AU a).length:Int)≠(a.length:Int):=by simpa [es]using c
   omega
  have hc:Cb a=true:=by
   cases h:Cb a with
   |true=>rfl
   |false=>have:=(c3 h).1;rw[this]at hlt;omega
  obtain⟨k1,k2⟩:=c2 hc;have e1:zh .i64 (((AU a).length:Int)+1)=(((AU a).length+1:Nat):Int):=by rw[wr _ (by omega) (by omega)];omega
  have e2:(a.drop ((AU a).length+1)).take (yf a.length ((AU a).length+1))=a.drop ((AU a).length+1):=zw (by rw[zn];exact zD _);rw[es,e1,ze,ze,e2, ←c1, ←k2];refine zc (by simp;omega) (zc (by simp;omega) (zc ra (zc rb (zd (zX rfl rfl ?_)))));show((DK (AU a),DM (AU a)),(DK (zk a),DM (zk a)))=((JA a,Gv a),(Jy a,Gx a));unfold JA Gv Jy Gx Pz PG DK DM;rw[hc];rfl
theorem Yz:∀g sp,Pc.sp g=some sp→Ac A4 g sp:=Ab T44.ok (Ab T45.ok (Ab T46.ok (Ab T47.ok (fun g sp h=>by cases h))))
namespace T11
variable {Q:PV→Ob→Prop}
theorem Yx{g:Int}(h0:0≤g):Cj g=[1]↔g=1:=by
 constructor
 ·intro h;have:=CU (b:=zN) (by decide) h0;have h:Sp.dg zN g=[1]:=h;rw[h]at this;rw[←this];rfl
 ·rintro rfl;rfl
theorem BU(s:List UInt8)(hA:Ao (AU s)=true)(hB:Cb s=true→Ao (zk s)=true)(lA:(AU s).length≤600)(lB:(zk s).length≤600)(hl:s.length≤1499)
  (hq:∀ob,Q (.dat i64 (if Cb s=true∧z8 (AA 0 (AU s)) (AA 0 (zk s))≠1 then 1 else 0)) ob):Ends Pc (L4 s (B5 s)) Q:=by
 obtain⟨c1,c2,c3⟩:=Fe s;have es:B5 s=((AU s).length:Int):=rfl;refine zg (CG ..) ?_;conv=>zeta
 rw[es];refine zf (fun c=>?_) (fun c=>?_)
 ·have c:=of_decide_eq_true c;have hc:Cb s=true:=by
   cases h:Cb s with
   |true=>rfl
   |false=>have:=(c3 h).1;rw[this]at c;omega
  have hB:=hB hc;obtain⟨r1,r2⟩:=IJ hA (by omega);obtain⟨r3,r4⟩:=IJ hB (by omega);have bA:=Bj hA;have bB:=Bj hB;have tR:∀k:Nat,(10:Int)^k≤(zN:Int)^k:=by
   intro k;induction k with
   |zero=>exact ya _
   |succ k ih=>
    rw[zO,zO];have h1:=zr ih (show(0:Int)≤10 by decide);have h2:=zu (show(10:Int)≤(zN:Int)by decide) (zA (AK (b:=zN) (by decide) k));exact zP h1 h2
  have uA:AA 0 (AU s)<(zN:Int)^600:=zl bA.2 (zP (tR _) (AN (by decide) lA));have uB:AA 0 (zk s)<(zN:Int)^600:=zl bB.2 (zP (tR _) (AN (by decide) lB));have e1:Gv s=Cj (AA 0 (AU s)):=by
   unfold Gv Pz Sp.rW;rw[r2,show Ag (AA 0 (AU s))=AA 0 (AU s)by rw[Ar];omega]
  have e2:Gx s=Cj (AA 0 (zk s)):=by
   unfold Gx PG Sp.rW;rw[if_pos hc,r4,show Ag (AA 0 (zk s))=AA 0 (zk s)by rw[Ar];omega]
  obtain⟨n1,_,v1,l1⟩:=Jq (k:=600) bA.1 uA (by decide);obtain⟨n2,_,v2,l2⟩:=Jq (k:=600) bB.1 uB (by decide);have rat:Xs s=true:=by
   unfold Xs;rw[r1,r3];exact decide_eq_true hl
  rw[e1,e2];refine zc rat (zg (Dk ..) (zc (Am (Am (Am n1 n2) (decide_eq_true (by omega))) (decide_eq_true (by omega))) ?_));have ec:KR (Cj (AA 0 (AU s))) (Cj (AA 0 (zk s)))=Cj (z8 (AA 0 (AU s)) (AA 0 (zk s))):=by
   unfold KR;rw[v1,v2]
  rw[ec];obtain⟨g0,_⟩:=Y2 bA.1 bB.1 uA uB;generalize z8 (AA 0 (AU s)) (AA 0 (zk s))=g at*;have h1:=Yx g0;by_cases h:g=1
  ·rw[if_neg (fun x=>x.2 h)]at hq;rw[h1.2 h];exact zg (HC ..) (zp rfl (zc rfl (zp rfl (zd (hq _)))))
  ·rw[if_pos ⟨hc,h⟩]at hq;have hne:Cj g≠[1]:=fun x=>h (h1.1 x)
   refine zg (HC ..) (zf (fun d=>zd (hq _)) (fun d=>?_));have d:(Cj g).length=1:=by
    have:((Cj g).length:Int)=1:=by simpa using d
    omega
   obtain⟨x,hx⟩:=List.length_eq_one_iff.1 d;rw[hx]at hne ⊢;have hx1:x≠1:=fun e=>hne (by rw[e])
   exact zc rfl (zc (by simpa using hx1) (zd (hq _)))
 ·have c:=of_decide_eq_false c;have hc:Cb s=false:=by
   cases h:Cb s with
   |false=>rfl
   |true=>have:=(c2 h).1;omega
  rw[if_neg (fun x=>by rw[hc]at x;cases x.1)]at hq;exact zd (hq _)
theorem Be(s:List UInt8)(hA:Ao (AU s)=true)(hl:s.length≤1000000)(hq:∀ob,Q (.dat i64 (T10.E (AU s) (zk s) (Cb s) (!Cb s||(AT (zk s)&&decide (zk s≠[48])&&decide (zk s≠[49]))))) ob):Ends Pc (L2 s (B5 s)) Q:=by
 obtain⟨c1,c2,c3⟩:=Fe s;have es:B5 s=((AU s).length:Int):=rfl;have hle:=T10.Kl s;have big:(Cb s=true→Ao (zk s)=true)→(∀ob,Q (.dat i64 (T10.E (AU s) (zk s) (Cb s) true)) ob)→Ends Pc (L3 s (B5 s)) Q:=by
  intro hB hq;unfold T10.E at hq;rw[if_neg (by decide)]at hq;have hlen:s.length=(AU s).length+(if Cb s=true then 1+(zk s).length else 0):=by
   cases h:Cb s with
   |true=>obtain⟨k1,k2⟩:=c2 h;rw[if_pos rfl,k2,zn];omega
   |false=>obtain⟨k1,k2⟩:=c3 h;rw[if_neg (by decide),k1];rfl
  have hB0:Cb s=false→(zk s).length=0:=fun h=>by rw[(c3 h).2];rfl
  refine zg (BD ..) ?_;conv=>zeta
  rw[es,wr ((s.length:Int)-((AU s).length:Int)) (by omega) (by omega),wr _ (by omega) (by omega)];refine zf (fun c=>?_) (fun c=>zf (fun d=>?_) (fun d=>?_))
  ·have c:=of_decide_eq_true c;rw[if_pos (.inl (by omega))]at hq;exact zd (hq _)
  ·have c:=of_decide_eq_false c;have d:=of_decide_eq_true d;have:600<(zk s).length:=by split at hlen<;>omega
   rw[if_pos (.inr this)]at hq;exact zd (hq _)
  ·have c:=of_decide_eq_false c;have d:=of_decide_eq_false d;have hb:(zk s).length≤600:=by
    cases h:Cb s with
    |true=>rw[h,if_pos rfl]at hlen;omega
    |false=>have:=hB0 h;omega
   rw[if_neg (by omega)]at hq;exact BU s hA hB (by omega) hb (by split at hlen<;>omega) hq
 refine zg (AS ..) ?_;conv=>zeta
 cases hc:Cb s with
 |false=>
  rw[hc]at hq;have hn:¬(B5 s<(s.length:Int)):=by rw[es,(c3 hc).1];omega
  exact zp (decide_eq_false hn) (big (fun h=>by rw[hc]at h;cases h) (by rw[hc];exact hq))
 |true=>
  rw[hc]at hq;obtain⟨k1,k2⟩:=c2 hc;have e1:zh .i64 (((AU s).length:Int)+1)=(((AU s).length+1:Nat):Int):=by rw[wr _ (by omega) (by omega)];omega
  have e2:(s.drop ((AU s).length+1)).take (yf s.length ((AU s).length+1))=s.drop ((AU s).length+1):=zw (by rw[zn];exact zD _);rw[es,e1,ze,e2, ←k2];rw[es]at big;have bad:(!true||(AT (zk s)&&decide (zk s≠[48])&&decide (zk s≠[49])))=false→∀ob,Q (.dat i64 1) ob:=by
   intro h ob;have:=hq ob;rw[h]at this;exact this
  refine zc (by simp;omega) (zc (by simp;omega) (zc (decide_eq_true (by omega)) (zf (fun d=>zd (bad ?_ _)) (fun d=>zc (by simp;omega) (zf (fun e=>zd (bad ?_ _)) (fun e=>zc (by simp;omega) (zf (fun f=>zd (bad ?_ _)) (fun f=>?_))))))))
  ·have d:AT (zk s)=false:=by simpa using d
   rw[d];rfl
  ·have e:zk s=[48]:=by simpa using e
   rw[decide_eq_false (p:=zk s≠[48]) (fun h=>h e)];simp
  ·have f:zk s=[49]:=by simpa using f
   rw[decide_eq_false (p:=zk s≠[49]) (fun h=>h f)];simp
  ·have d:AT (zk s)=true:=by simpa using d
   have e:zk s≠[48]:=by simpa using e
   have f:zk s≠[49]:=by simpa using f
   rw[d,decide_eq_true e,decide_eq_true f]at hq;exact big (fun _=>(Fy d).2) (by rw[hc];exact hq)
theorem Aq(a s:List UInt8)(hs:s=B8 a)(hl:a.length≤1000000)(hq:∀ob,Q (.dat i64 (JK a)) ob):Ends Pc (L1 a s) Q:=by
 obtain⟨c1,c2,c3⟩:=Fe s;have es:B5 s=((AU s).length:Int):=rfl;have hsl:s.length≤a.length:=by rw[hs];exact T10.S1 a
 have hle:=T10.Kl s;have hE:JK a=T10.E (AU s) (zk s) (Cb s) (AT (AU s)&&(!yh a||decide (AU s≠[48]))&&(!Cb s||(AT (zk s)&&decide (zk s≠[48])&&decide (zk s≠[49])))):=by rw[hs];rfl
 rw[hE]at hq;have tk:s.take (AU s).length=AU s:=c1.symm;refine zg (Ap ..) ?_;conv=>zeta
 rw[show B5 s=((AU s).length:Int)from rfl,ze,tk];refine zc (decide_eq_true (by omega)) (zc (by simp;omega) (zc (decide_eq_true (by omega)) (zf (fun d=>?_) (fun d=>?_))))
 ·have d:AT (AU s)=false:=by simpa using d
  rw[d]at hq;exact zd (hq _)
 ·have d:AT (AU s)=true:=by simpa using d
  have hA:=(Fy d).2;have hne:a.length≠0:=by
   intro h;have h:=zH.1 h;have:s=[]:=by rw[hs,h];rfl
   rw[this]at d;exact absurd d (by decide)
  rw[d,zL]at hq;refine zc (decide_eq_true (by omega)) (zf (fun e=>zc (by simp;omega) (zf (fun f=>?_) (fun f=>?_))) (fun e=>?_))
  ·have hp:yh a=true:=by
    unfold yh;refine decide_eq_true (zM.1 ?_);have:((a.getD 0 0).toNat:Int)=45:=by simpa using e
    show _=45;omega
   have f:AU s=[48]:=by simpa using f
   rw[hp,decide_eq_false (p:=AU s≠[48]) (fun h=>h f)]at hq;exact zd (hq _)
  ·have f:AU s≠[48]:=by simpa using f
   rw[decide_eq_true f,Bool.or_true,zL]at hq;exact Be s hA (by omega) hq
  ·have hp:yh a=false:=by
    unfold yh;refine decide_eq_false (fun h=>?_);rw[h]at e;exact absurd e (by decide)
   rw[hp,Bool.not_false,Bool.true_or,zL]at hq;exact Be s hA (by omega) hq
theorem ok:Ac A4 11 Hf:=by
 refine AJ (X:=Pc) rfl Yz (d:=9) (by kernel_rfl) (by kernel_rfl) (by kernel_rfl) (fun(a:List UInt8) hl=>?_) (Ad (by kernel_rfl));have hl:a.length≤1000000:=of_decide_eq_true hl;have hq:∀ob,Af Hf a (.dat i64 (JK a)) ob:=fun ob=>zX rfl rfl rfl
 refine zQ (Ay a) ?_;conv=>zeta
 cases a with
 |nil=>exact zp rfl (Aq [] [] rfl hl hq)
 |cons c r=>
  have g0:(c::r).getD 0 0=c:=rfl;rw[g0];refine zc (by simp) (zc (by simp) (zf (fun d=>zc (by simp) ?_) (fun d=>?_)))
  ·have hc:c=45:=by
    have:(c.toNat:Int)=45:=by simpa using d
    exact zM.1 (by show _=45;omega)
   have e:(List.drop 1 (c::r)).take (yf (c::r).length 1)=r:=by show r.take ((r.length+1)-1)=r;rw[Nat.add_sub_cancel];exact zE
   rw[e];exact Aq (c::r) r (by unfold B8;rw[g0,if_pos hc];rfl) hl hq
  ·have hc:c≠45:=by rintro rfl;exact absurd d (by decide)
   exact Aq (c::r) (c::r) (by unfold B8;rw[g0,if_neg hc]) hl hq
end T11
theorem Xq:∀g sp,eK.sp g=some sp→Ac A4 g sp:=Ab IG (Ab T8.ok (Ab T9.ok (Ab T10.ok (Ab T11.ok (fun g sp h=>by cases h)))))
theorem T3.ok:Ac A4 3 Mk:=by
 refine AJ (X:=eK) rfl Xq (d:=9) (by kernel_rfl) (by kernel_rfl) rfl (fun(s:List UInt8) _=>?_) (Ad (by kernel_rfl));refine zQ (T3.Ay s) (zf (fun _=>zc rfl (zd (zX rfl rfl rfl))) (fun c=>?_));have c:=of_decide_eq_false c;have hl:decide (s.length≤1000000)=true:=decide_eq_true (by omega);exact zc hl (zc hl (zc (by simp) (zc hl (zc hl (zc (by simp) (zc rfl (zd (zX rfl rfl rfl))))))))
end Go.Pe
end
section
namespace Go.Det
open Go.ChangeShapes Go.WideShapes Go.RowKit
theorem Bv{α β:Type}{f g:α→Option β}:∀ {l:List α} {ys:List β},l.mapM f=some ys→(∀a∈l,∀y∈ys,f a=some y→g a=some y)→l.mapM g=some ys
 |[],ys,h,_=>by simpa using h
 |a::l,ys,h,hg=>by
  rw[List.mapM_cons]at h ⊢;cases hf:f a with
  |none=>rw[hf]at h;cases h
  |some y=>
   rw[hf]at h;cases hl:l.mapM f with
   |none=>rw[hl]at h;cases h
   |some zs=>
    rw[hl]at h;cases h;rw[hg a (by simp) y (by simp) hf,Bv hl (fun b hb z hz hfz=>hg b (by simp[hb]) z (by simp[hz]) hfz)];rfl
def UG(P:Program)(L:List TypeId)(t:TypeId):Bool:=match P.underlying t with
 |some (.pointer e)|some (.array _ e)|some (.map _ e)=>L.contains e
 |some (.slice e)=>L.contains e&&Nat.ble 1 (P.cellsOf e)
 |some (.struct fs)=>fs.toList.all fun f=>L.contains f.type
 |_=>true
def Ix(P:Program)(L:List TypeId):Bool:=L.all (UG P L)
section
variable {H:Type}{enc:TypeId×Value→H}{P:Program}{W W':World}
theorem Yo{L:List TypeId}(h:Ix P L=true){t:TypeId}(ht:t∈L):UG P L t=true:=zF.1 h t ht
theorem RH(hb:Below W.heap.size W W'){a:Addr}{v:Value}(h:W.cell? a=some v):W'.cell? a=some v:=by
 have hl:a.block<W.heap.size:=by
  unfold yb at h;by_cases hh:a.block<W.heap.size
  ·exact hh
  ·rw[zC (by omega)]at h;cases h
 unfold yb at h ⊢;rw[hb.block _ hl];exact h
theorem Qj(hb:Below W.heap.size W W'){a:Addr}{n:Nat}{cs:List Value}(h:W.cells? 0 a n=some cs):W'.cells? 0 a n=some cs:=by
 unfold World.cells? at h ⊢;rw[if_pos (zy _)]at h ⊢;exact Bv h fun i _ v _ hv=>RH hb hv
theorem Fi(hb:Below W.heap.size W W'){β:Type}{a:Addr}{n:Nat}{f g:List Value→Option β}{y:β}(h:(W.cells? 0 a n).bind f=some y)(hfg:∀cs,f cs=some y→g cs=some y):(W'.cells? 0 a n).bind g=some y:=by
 cases hc:W.cells? 0 a n with
 |none=>rw[hc]at h;cases h
 |some cs=>
  rw[hc]at h;rw[Qj hb hc];exact hfg cs h
theorem LW(hb:Below W.heap.size W W'){L:List TypeId}(hz:Ix P L=true){sp:Nat→Bool}:∀(fuel:Nat) (t:TypeId) (cs:List Value) (x:DataW H×List MemPlace),t∈L→
  zo enc P W 0 (fun _=>true) true fuel t cs=some x→(∀p∈x.2,sp p.block=true)→zo enc P W' 0 sp true fuel t cs=some x
 |0,_,_,_,_,h,_=>by cases h
 |fuel+1,t,cs,x,ht,h,hs=>by
  have ih:=LW hb hz (sp:=sp) fuel;have hk:=Yo hz ht;unfold UG at hk;unfold zo at h ⊢;split at h<;>try simp only[reduceCtorEq]at h
  all_goals try exact h
  case h_6 e a hu=>
   have hke:e∈L:=by rw[hu]at hk;simpa using hk
   cases hm:(W.cells? 0 a (P.cellsOf e)).bind (zo enc P W 0 (fun _=>true) true fuel e)with
   |none=>rw[hm]at h;cases h
   |some y=>
    rw[hm]at h;cases h;rw[Fi hb hm (g:=zo enc P W' 0 sp true fuel e) (fun cs hc=>ih e cs y hke hc (fun p hp=>hs p (by simp[hp])))];rfl
  case h_8 e a len cap hu=>
   have hke:e∈L∧P.cellsOf e≠0:=by
    rw[hu]at hk;simp only[zj,List.contains_iff_mem]at hk;have:=Nat.le_of_ble_eq_true hk.2;exact⟨hk.1,by omega⟩
   by_cases hc:0≤a.block∧len≤cap∧cap≤maxLen
   ·rw[if_pos hc]at h ⊢;have step:∀(i:Nat) (y:DataW H×List MemPlace),(W.cells? 0 (a.add (i*P.cellsOf e)) (P.cellsOf e)).bind (zo enc P W 0 (fun _=>true) true fuel e)=some y→(∀p∈y.2,sp p.block=true)→
      (W'.cells? 0 (a.add (i*P.cellsOf e)) (P.cellsOf e)).bind (zo enc P W' 0 sp true fuel e)=some y:=fun i y hy hp=>Fi hb hy fun cs hc=>ih e cs y hke.1 hc hp
    cases h1:(ye len).mapM (fun i=>(W.cells? 0 (a.add (i*P.cellsOf e)) (P.cellsOf e)).bind (zo enc P W 0 (fun _=>true) true fuel e))with
    |none=>rw[h1]at h;cases h
    |some ys=>
     rw[h1]at h;simp only[if_true,zz]at h;cases h2:(ye (cap-len)).mapM (fun j=>(W.cells? 0 (a.add ((len+j)*P.cellsOf e)) (P.cellsOf e)).bind (zo enc P W 0 (fun _=>true) true fuel e))with
     |none=>rw[h2]at h;cases h
     |some zs=>
      rw[h2]at h;cases h;rw[Bv h1 fun i _ y hy hi=>step i y hi fun p hp=>hs p (zJ _ (zG.2 ⟨y,List.mem_append_left _ hy,hp⟩))];have h2':=Bv h2 fun j _ y hy hj=>step (len+j) y hj fun p hp=>hs p (zJ _ (zG.2 ⟨y,zJ _ hy,hp⟩))
      by_cases hsp:sp a.block=true
      ·simp only[hsp,if_true,zz];rw[h2'];rfl
      ·have e0:(ys.length+zs.length)*P.cellsOf e=0:=by
        rcases Nat.eq_zero_or_pos ((ys.length+zs.length)*P.cellsOf e)with h0|h0
        ·exact h0
        ·refine absurd (hs (.cell a.block (a.off+0)) (List.mem_append_left _ ?_)) hsp;simp only[MemPlace.row,List.mem_map,List.mem_range];exact⟨0,h0,rfl⟩
       have e1:zs=[]:=by
        rcases Nat.mul_eq_zero.1 e0 with h0|h0
        ·exact zH.1 (by omega)
        ·exact absurd h0 hke.2
       subst e1;simp only[hsp,zz];rfl
   ·rw[if_neg hc]at h;cases h
  case h_9 cs _ _ fs hu=>
   have hke:∀f∈fs.toList,f.type∈L:=by
    rw[hu]at hk;intro f hf;have:=zF.1 hk f hf;simpa using this
   by_cases hc:cs.length=P.cellsOf t
   ·rw[if_pos hc]at h ⊢;cases h1:fs.toList.mapM (fun f=>zo enc P W 0 (fun _=>true) true fuel f.type ((cs.drop f.offset).take (P.cellsOf f.type)))with
    |none=>rw[h1]at h;cases h
    |some ys=>
     rw[h1]at h;cases h;rw[Bv h1 fun f hfm y hy hf=>ih _ _ y (hke f hfm) hf fun p hp=>hs p (zG.2 ⟨y,hy,hp⟩)];rfl
   ·rw[if_neg hc]at h;cases h
  case h_10 cs _ _ n e hu=>
   have hke:e∈L:=by rw[hu]at hk;simpa using hk
   by_cases hc:cs.length=P.cellsOf t
   ·rw[if_pos hc]at h ⊢;cases h1:(ye n).mapM (fun i=>zo enc P W 0 (fun _=>true) true fuel e ((cs.drop (i*P.cellsOf e)).take (P.cellsOf e)))with
    |none=>rw[h1]at h;cases h
    |some ys=>
     rw[h1]at h;cases h;rw[Bv h1 fun f _ y hy hf=>ih _ _ y hke hf fun p hp=>hs p (zG.2 ⟨y,hy,hp⟩)];rfl
   ·rw[if_neg hc]at h;cases h
  case h_14 k e b hu=>
   have hke:e∈L:=by rw[hu]at hk;simpa using hk
   have hl:b<W.heap.size:=by
    by_cases hh:b<W.heap.size
    ·exact hh
    ·rw[zC (by omega)]at h;cases h
   rw[hb.block _ hl];split at h
   case h_2=>cases h
   rename_i es clock hes;simp only;split at h
   case isFalse=>cases h
   rename_i hcond;rw[if_pos hcond];cases h1:(es.toList.mapM fun x=>(keyOf P k x.key).bind fun key=>if x.val.formed P e then(zo enc P W 0 (fun _=>true) true fuel e x.val.cells.toList).map fun y=>((key,y.1),y.2)else none)with
   |none=>rw[h1]at h;cases h
   |some ys=>
    rw[h1]at h;simp only[zz]at h;split at h
    case isFalse=>cases h
    rename_i hri;cases h;rw[Bv h1 fun en _ y hy hf=>?_]
    ·simp only[zz];rw[if_pos hri]
    ·cases hk:keyOf P k en.key with
     |none=>rw[hk]at hf;cases hf
     |some key=>
      rw[hk]at hf;simp only[zz]at hf ⊢;split at hf
      case isFalse=>cases hf
      rename_i hfo;rw[if_pos hfo];cases htt:zo enc P W 0 (fun _=>true) true fuel e en.val.cells.toList with
      |none=>rw[htt]at hf;cases hf
      |some u=>
       rw[htt]at hf;cases hf;rw[ih _ _ u hke htt fun p hp=>hs p (by simp only[List.mem_cons,zG];exact .inr ⟨_,hy,hp⟩)];rfl
theorem RO(hb:Below W.heap.size W W'){L:List TypeId}(hz:Ix P L=true){sp:Nat→Bool}{t:TypeId}{v:Value}{d:DataW H}{p:List MemPlace}
  (ht:t∈L) (h:DataW.Trod enc P W 0 (fun _=>true) true t v d p) (hs:∀q∈p,sp q.block=true):DataW.Trod enc P W' 0 sp true t v d p:=by
 obtain⟨fuel,hf⟩:=h;exact⟨fuel,LW hb hz fuel t _ _ ht hf hs⟩
theorem EH(hb:Below W.heap.size W W'){L:List TypeId}(hz:Ix P L=true){sp:Nat→Bool}:∀ {ts:List TypeId} {vs:List Value} {ds:List (DataW H)} {p:List MemPlace},(∀t∈ts,t∈L)→
  DataW.TrodAll enc P W 0 (fun _=>true) true ts vs ds p→(∀q∈p,sp q.block=true)→DataW.TrodAll enc P W' 0 sp true ts vs ds p
 |[],vs,ds,p,_,h,_=>by
  obtain⟨rfl,rfl,rfl⟩:=trodAll_nil h;rfl
 |t::ts,vs,ds,p,hl,h,hs=>by
  obtain⟨v,vs1,d,ds1,a,b,rfl,rfl,rfl,h1,h2⟩:=trodAll_cons h;exact⟨a,b,RO hb hz (hl t (by simp)) h1 (fun q hq=>hs q (by simp[hq])),EH hb hz (fun u hu=>hl u (by simp[hu])) h2 (fun q hq=>hs q (by simp[hq])),rfl⟩
theorem GR{f:Func}{s:ChangeSpec}{apart fresh handsOn again:Bool}{args:Array Value}{ds gs:List (DataW H)}{before:List MemPlace}{tb:TypeId}
  (hW:DataW.Whole enc P f.params.toList s.vars apart W args.toList ds gs before) (hv:s.vars=[]) (hr:f.resultTypes= #[tb]) (ht:P.underlying tb=some .bool)
  (hfn:s.fn H ds={ results:=[.lit (.bool true)],args:=ds }) (hb:Below W.heap.size W W') {L:List TypeId} (hz:Ix P L=true) (hl:f.params.toList.all L.contains=true):
  s.post enc P f apart fresh handsOn again W args (.bool true) W':=by
 have hlt:=hW.lt;have hl:∀t∈f.params.toList,t∈L:=fun t ht=>by have:=zF.1 hl t ht;simpa using this
 obtain⟨p,q,hA,hV,rfl,hfz,hnd⟩:=hW;have hV':=hV;rw[hv]at hV';obtain⟨rfl,rfl⟩:=trodVars_none hV';simp only[List.append_nil]at hlt hfz hnd ⊢;have hold:∀x∈p,(fun b=>decide (b<W.heap.size)) x.block=true:=fun x hx=>by simpa using hlt x hx
 have hW0:DataW.Whole enc P f.params.toList s.vars apart W args.toList ds [] p:=⟨p,[],hA,hV,by simp,hfz,hnd⟩;have hres:∀(b:Nat) (sp:Nat→Bool) (hd:Bool),DataW.TrodAll enc P W' b sp hd f.resultTypes.toList ((Value.bool true).resultList f.resultTypes.size) [.lit (.bool true)] []:=by
  intro b sp hd;rw[hr];exact⟨[],[],shut_bool ht true,rfl,rfl⟩
 have hok:∀(j:Nat) (t:TypeId) (r:Value),f.resultTypes[j]?=some t→((Value.bool true).resultList f.resultTypes.size)[j]?=some r→Value.okWide P W' .any 0 t r:=by
  exact ok_one hr rfl (okWide_bool_mk ht true)
 have hvars:∀sp:Nat→Bool,DataW.TrodVars enc P W' sp s.vars [] []:=fun sp=>by rw[hv];rfl
 have hfn:s.fn H (ds++[])={ results:=[.lit (.bool true)],args:=ds }:=by rw[List.append_nil];exact hfn
 refine⟨ds,[],p,[],p,[],hW0,?_,?_,?_,World.keptBut_mono (fun x hx=>⟨hx,.inr (.inl hx)⟩) (hb.frame (· ∈p)),fun _=>?_⟩
 ·rw[hfn];exact hres _ _ _
 ·rw[hfn];exact EH hb hz hl hA hold
 ·rw[hfn];exact hvars _
 ·refine⟨hok,_,_,([]++p)++[],⟨[]++p,[],trodAll_append (EH hb hz hl hA (fun _ _=>rfl)) (hres _ _ _),hvars _,rfl,?_,?_⟩,?_⟩
  ·intro b off hp;have hp:MemPlace.cell b off∈p:=by simpa using hp
   rw[hb.frozen (show b<W.heap.size from hlt _ hp)];exact hfz b off hp
  ·intro ha;simpa using hnd ha
  ·intro x hx _;simpa using hx
end
end Go.Det
end
section
namespace Go.Det
noncomputable section
def LC(k:Nat):Value→V
 | .bool b=>.bool b
 | .int q n=>.int q n
 | .string s=>.str s.data.toList
 | .pointer none=>.nilp
 | .slice none 0 0=>.nils
 | .slice (some _) 0 0=>.es0
 | .slice (some ⟨r,off,none⟩) len cap=>if r<k∧len≤cap then .sl r off len cap 0 else .junk
 | .map none=>.nilm
 | .nilFunc=>.nilf
 | .nilIface=>.nili
 |_=>.junk
def Zp(W:World)(r:Nat):Nat:=match W.heap[r]? with
 |some (.cells c _ _)=>c.size
 |_=>0
def pW(W:World):Pl:=(ye W.heap.size).map fun r=>(r,Zp W r)
theorem JC{W:World}{r:Nat}(h:r<W.heap.size):(pW W)[r]?=some (r,Zp W r):=by
 simp[pW,h]
def Ml(W:World)(r:Nat):Option O:=match W.heap[r]? with
 |some (.cells c t _)=>if c.size=0 then none else some (.cells (c.toList.map (LC W.heap.size)) t (0,c.size))
 |_=>none
def Uy(W:World):Nat→H
 |0=>⟨.leaf,0⟩
 |n+1=>⟨(Uy W n).m.set n (Ml W n),n+1⟩
theorem X2(W:World):∀n,(Uy W n).nx=n
 |0=>rfl
 |_+1=>rfl
theorem Pg(W:World):∀(n b:Nat),(Uy W n).get b=if b<n then Ml W b else none
 |0,b=>by simp[Uy,H.get]
 |n+1,b=>by
  have ih:=Pg W n b;unfold H.get at ih ⊢;simp only[Uy,PM.Ci];by_cases e:b=n
  ·subst e;simp
  ·rw[if_neg e,ih];by_cases h:b<n
   ·rw[if_pos h,if_pos (by omega)]
   ·rw[if_neg h,if_neg (by omega)]
def hW(W:World):H:=Uy W W.heap.size
theorem Ly(W:World)(b:Nat):(hW W).get b=Ml W b:=by
 unfold hW;rw[Pg];by_cases h:b<W.heap.size
 ·rw[if_pos h]
 ·rw[if_neg h];unfold Ml;rw[zC (by omega)]
theorem NY{W:World}{v:Value}(h:(LC W.heap.size v).ok=true):Aa (pW W) (LC W.heap.size v) v:=by
 revert h;unfold LC;split<;>intro h
 case h_6=>simp only[Aa];exact⟨_,rfl⟩
 case h_7 r off len cap _=>
  split
  ·rename_i hc;simp only[Aa];exact⟨r,_,cap,JC hc.1,rfl,hc.2,zD _,fun _=>rfl,fun e=>absurd rfl e⟩
  ·rename_i hc;rw[if_neg hc]at h;cases h
 case h_11=>cases h
 all_goals simp only[Aa]
 all_goals rfl
theorem fP(W:World):R (pW W) (hW W) W:=by
 refine⟨by simp[pW,hW,X2],fun b o hb=>?_,fun b b' o o' r n n' hb hb' h1 h2=>?_⟩
 ·rw[Ly]at hb;unfold Ml at hb;split at hb
  case h_2=>cases hb
  rename_i c t fz hc;split at hb
  case isTrue=>cases hb
  cases hb;have hlt:b<W.heap.size:=(zm.1 hc).1;have hs:Zp W b=c.size:=by unfold Zp;rw[hc]
  refine⟨b,c.size,_,by rw[JC hlt,hs],hc,c,fz,rfl,rfl,by simp,⟨by simp,fun i d v hd hv hok=>?_⟩,fun i hi h1 h2=>⟨zy _,hi⟩⟩;rw[zV]at hd;rw[List.length_map,zW (by have:=(List.getElem?_eq_some_iff.1 hv).1;simp at this;simpa using this)]at hv;rw[hv]at hd;cases hd;exact NY hok
 ·have key:∀b o r n,(hW W).get b=some o→(pW W)[b]?=some (r,n)→r=b:=by
   intro b o r n hb h1;rw[Ly]at hb;have hlt:b<W.heap.size:=by
    unfold Ml at hb;by_cases h:b<W.heap.size
    ·exact h
    ·rw[zC (by omega)]at hb;cases hb
   rw[JC hlt]at h1;cases h1;rfl
  rw[←key b o r n hb h1, ←key b' o' r n' hb' h2]
theorem XJ{W W':World}{p':Pl}{h':H}(he:Ext (pW W) (hW W) W p' h' W'):RowKit.Below W.heap.size W W':=by
 refine⟨he.os,he.tape,he.out,he.size,fun k hk=>?_⟩;by_cases hi:Im (pW W) (hW W) k
 ·obtain⟨b,o,n,h1,h2⟩:=hi;have h1':=h1;rw[Ly]at h1';unfold Ml at h1';split at h1'
  case h_2=>cases h1'
  rename_i c t fz hc;split at h1'
  case isTrue=>cases h1'
  rename_i h0;cases h1';have hlt:b<W.heap.size:=(zm.1 hc).1;have hs:Zp W b=c.size:=by unfold Zp;rw[hc]
  rw[JC hlt,hs]at h2;cases h2;exact(he.lock _ hk ⟨_,_,_,_,_,h1,by rw[JC hlt,hs],rfl,zD _,Nat.pos_of_ne_zero h0⟩).1
 ·exact he.same k hk hi
end
end Go.Det
end
section
namespace Go.Pe
open Go.Det
noncomputable section
def FW(W:World):Fz:=fun b=>match (hW W).get b with
 |some (.cells cs _ _)=>some cs
 |_=>none
def Qi:(s:Sh)→s.T→Prop
 | .int k,x=>k.min≤(x:Int)∧(x:Int)≤k.max
 | .bool,_=>True
 | .str,x=>(x:List UInt8).length≤maxLen
 | .list s,l=>(l:List s.T).length≤maxLen∧∀x∈(l:List s.T),Qi s x
 | .pair a b,x=>Qi a x.1∧Qi b x.2
 | .unit,_=>True
 | .nlist _,_=>True
 | .fnv,_=>True
def UZ(P:Program)(f:TypeId→Option Sh):Nat→List Field→Option Sh
 |_,[]=>some .unit
 |o,[x]=>match f x.type with
  |some s=>bif zI x.offset o&&zI (P.cellsOf x.type) s.sz then some s else none
  |none=>none
 |o,x::y::l=>match f x.type with
  |some s=>bif zI x.offset o&&zI (P.cellsOf x.type) s.sz then(UZ P f (o+s.sz) (y::l)).map (.pair s)else none
  |none=>none
def bQ(P:Program):Nat→TypeId→Option Sh
 |0,_=>none
 |f+1,t=>match P.underlying t with
  |some (.int k)=>some (.int k)
  |some .bool=>some .bool
  |some .string=>some .str
  |some (.slice e)=>match bQ P f e with
   |some s=>bif zI (P.cellsOf e) s.sz&&Nat.blt 0 s.sz then some (.list s)else none
   |none=>none
  |some (.struct fs)=>match UZ P (bQ P f) 0 fs.toList with
   |some s=>bif zI (P.cellsOf t) s.sz then some s else none
   |none=>none
  |_=>none
section
variable {H:Type}{enc:TypeId×Value→H}{P:Program}{W:World}
theorem WG{r:Nat}{c:Array Value}{t:TypeId}{fz:Nat×Nat}(h:W.heap[r]?=some (.cells c t fz))(h0:c.size≠0):FW W r=some (c.toList.map (LC W.heap.size)):=by
 unfold FW;rw[Ly];unfold Ml;rw[h];simp only[if_neg h0]
theorem Np{a:Addr}{n:Nat}{cs:List Value}(h:W.cells? 0 a n=some cs)(hn:0<n):
  ∃c t fz,W.heap[a.block]?=some (.cells c t fz)∧a.spot=none∧a.off+n≤c.size∧cs=(c.toList.drop a.off).take n:=by
 unfold World.cells? at h;rw[if_pos (zy _)]at h;have hl:=mapM_some_length h;have hg:=mapM_some_get h;simp only[List.length_range]at hl;have h0:=hg 0 0 (by simp[hn]);have ha0:a.add 0=a:=by simp[yi]
 rw[ha0]at h0;obtain⟨v0,hv0⟩:∃v,cs[0]?=some v:=⟨cs[0],zi (by omega)⟩;rw[hv0]at h0;unfold yb at h0;split at h0
 case h_2=>cases h0
 rename_i c t fz hb;split at h0
 case isTrue=>cases h0
 rename_i hs;have hs:a.spot=none:=by simpa using hs
 have hc:∀i,i<n→c[a.off+i]?=cs[i]?:=by
  intro i hi;have:=hg i i (by simp[hi]);unfold yb at this;have hb':(a.add i).block=a.block:=by unfold yi;split<;>rfl
  have hs':(a.add i).spot=none:=by unfold yi;split<;>simp[hs]
  have ho':(a.add i).off=a.off+i:=by unfold yi;split<;>simp_all
  rw[hb',hb]at this;simpa [hs',ho']using this
 refine⟨c,t,fz,hb,hs,?_,?_⟩
 ·have:=hc (n-1) (by omega);rw[zi (by omega)]at this;have:=(zm.1 this).1;omega
 ·apply List.ext_getElem?;intro i;by_cases hi:i<n
  ·rw[←hc i hi,zW hi,List.getElem?_drop];simp
  ·rw[List.getElem?_eq_none (by omega),List.getElem?_eq_none (by simp;omega)]
theorem SC{α:Type}{p:Nat→α→Prop}:∀n:Nat,(∀i,i<n→∃x,p i x)→∃l:List α,l.length=n∧∀i (h:i<l.length),p i l[i]
 |0,_=>⟨[],rfl,fun i h=>absurd h (Nat.not_lt_zero _)⟩
 |n+1,h=>by
  obtain⟨l,h1,h2⟩:=SC n fun i hi=>h i (by omega)
  obtain⟨x,hx⟩:=h n (by omega);refine⟨l++[x],by simp[h1],fun i hi=>?_⟩;by_cases e:i<l.length
  ·rw[List.getElem_append_left e];exact h2 i e
  ·have:i=n:=by simp at hi;omega
   subst this;rw[List.getElem_append_right (by omega)];simpa [h1]using hx
theorem MY{f:TypeId→Option Sh}{n:Nat}{cs:List Value}
  (ih:∀(t:TypeId) (s:Sh) (cs:List Value) (y:DataW H×List MemPlace),f t=some s→zo enc P W 0 (fun _=>true) true n t cs=some y→∃x:s.T,DC (FW W) s x (cs.map (LC W.heap.size))∧Qi s x):
  ∀(fs:List Field) (o:Nat) (s:Sh),UZ P f o fs=some s→(∀x∈fs,∃z,zo enc P W 0 (fun _=>true) true n x.type ((cs.drop x.offset).take (P.cellsOf x.type))=some z)→
   ∃x:s.T,DC (FW W) s x (((cs.map (LC W.heap.size)).drop o).take s.sz)∧Qi s x
 |[],o,s,hs,_=>by
  cases hs;exact⟨(),by simp[DC,Sh.sz],trivial⟩
 |[x],o,s,hs,hx=>by
  unfold UZ at hs;split at hs
  case h_2=>cases hs
  rename_i s' hs';cases hc:(zI x.offset o&&zI (P.cellsOf x.type) s'.sz)with
  |false=>rw[hc]at hs;cases hs
  |true=>
  rw[hc]at hs;cases hs;simp only[zj]at hc;obtain⟨z,hz⟩:=hx x (by simp);rw[zq hc.1,zq hc.2]at hz;have:=ih _ _ _ _ hs' hz;simpa [yc,yd]using this
 |x::x'::l,o,s,hs,hx=>by
  unfold UZ at hs;split at hs
  case h_2=>cases hs
  rename_i s' hs';cases hc:(zI x.offset o&&zI (P.cellsOf x.type) s'.sz)with
  |false=>rw[hc]at hs;cases hs
  |true=>
  rw[hc]at hs;simp only[cond_true,Option.map_eq_some_iff]at hs;obtain⟨s2,h2,rfl⟩:=hs;simp only[zj]at hc;obtain⟨z,hz⟩:=hx x (by simp);rw[zq hc.1,zq hc.2]at hz;obtain⟨a,a1,a2⟩:=ih _ _ _ _ hs' hz;obtain⟨b,b1,b2⟩:=MY ih (x'::l) (o+s'.sz) s2 h2 (fun u hu=>hx u (List.mem_cons_of_mem _ hu));refine⟨(a,b),?_,a2,b2⟩;simp only[DC];refine⟨_,_,?_,a1,b1⟩;rw[yc,yd, ←List.drop_drop];exact List.take_add
theorem Oc:∀(k fuel:Nat) (t:TypeId) (s:Sh) (cs:List Value) (y:DataW H×List MemPlace),bQ P k t=some s→zo enc P W 0 (fun _=>true) true fuel t cs=some y→
  ∃x:s.T,DC (FW W) s x (cs.map (LC W.heap.size))∧Qi s x
 |0,_,_,_,_,_,hs,_=>by cases hs
 |k+1,fuel,t,s,cs,y,hs,h=>by
  have ih:=Oc k;unfold bQ at hs;split at hs
  case h_1 q hu=>
   cases hs;obtain⟨n,rfl,_,hw⟩:=DataW.trod_int hu h;exact⟨(n:Int),by simp[DC,LC],by simpa [Qi,Lit.wf]using hw⟩
  case h_2 hu=>
   cases hs;obtain⟨b,rfl,_⟩:=DataW.trod_bool hu h;exact⟨b,by simp[DC,LC],trivial⟩
  case h_3 hu=>
   cases hs;obtain⟨b,rfl,_,hw⟩:=DataW.trod_string hu h;exact⟨b.data.toList,by simp[DC,LC],by show b.data.toList.length≤maxLen;rw[Array.length_toList];exact hw⟩
  case h_4 e hu=>
   split at hs
   case h_2=>cases hs
   rename_i s' hs';cases hc:(zI (P.cellsOf e) s'.sz&&Nat.blt 0 s'.sz)with
   |false=>rw[hc]at hs;cases hs
   |true=>
   rw[hc]at hs;cases hs;simp only[zj]at hc;have hsz:=zq hc.1;have hpos:=Nat.le_of_ble_eq_true hc.2;rcases DataW.trod_slice hu h with⟨rfl,_⟩|⟨a,len,cap,elems,rest,n,rfl,rfl,_,_,hlc,hcm,hel,he,hr,_⟩
   ·exact⟨[],by simp[DC,LC],by simp[Qi]⟩
   ·obtain⟨hrl,hr⟩:=hr rfl;rw[hsz]at he hr;by_cases h0:cap=0
    ·obtain rfl:len=0:=by omega
     subst h0;exact⟨[],by simp[DC,LC],by simp[Qi]⟩
    ·
     have all:∀i,i<cap→∃ci z,W.cells? 0 (a.add (i*s'.sz)) s'.sz=some ci∧zo enc P W 0 (fun _=>true) true n e ci=some z:=by
      intro i hi;by_cases hl:i<len
      ·have h1:=he i hl;rw[zi (by omega)]at h1;rw[z6]at h1;obtain⟨ci,h2,h3⟩:=h1;exact⟨ci,_,h2,h3⟩
      ·have h1:=hr (i-len) (by omega);rw[show len+(i-len)=i by omega,zi (by omega)]at h1;rw[z6]at h1;obtain⟨ci,h2,h3⟩:=h1;exact⟨ci,_,h2,h3⟩
     obtain⟨c0,z0,g0,_⟩:=all 0 (by omega);rw[Nat.zero_mul,show a.add 0=a from by simp[yi]]at g0;obtain⟨c,tc,fz,hb,hsp,hoff,_⟩:=Np g0 hpos;have hlt:a.block<W.heap.size:=(zm.1 hb).1;have hF:=WG hb (by omega);obtain⟨ab,ao,ax⟩:=a;simp only at hsp hb hoff hlt hF;subst hsp;have cell:∀i,i<cap→ao+i*s'.sz+s'.sz≤c.size∧∃x:s'.T,DC (FW W) s' x (((c.toList.map (LC W.heap.size)).drop (ao+i*s'.sz)).take s'.sz)∧Qi s' x:=by
      intro i hi;obtain⟨ci,z,h1,h2⟩:=all i hi;rw[Addr.Gm]at h1;obtain⟨c',tc',fz',hb',_,ho',rfl⟩:=Np h1 (by omega);simp only at hb' ho';rw[hb]at hb';cases hb';refine⟨ho',?_⟩;have:=ih _ _ _ _ _ hs' h2;simpa [yc,yd]using this
     obtain⟨l,hl1,hl2⟩:=SC (p:=fun i (x:s'.T)=>DC (FW W) s' x (((c.toList.map (LC W.heap.size)).drop (ao+i*s'.sz)).take s'.sz)∧Qi s' x) len fun i hi=>(cell i (by omega)).2
     refine⟨l,?_,?_⟩
     ·simp only[DC];refine⟨.sl ab ao len cap 0,?_,.inr ⟨ab,ao,cap,0,_,by rw[hl1],by omega,hF,?_,.inl rfl,fun i hi=>(hl2 i hi).1⟩⟩
      ·have:(Value.slice (some ⟨ab,ao,none⟩) len cap)=.slice (some ⟨ab,ao,none⟩) len cap:=rfl;have hne:¬(len=0∧cap=0):=fun h=>h0 h.2
       cases cap with
       |zero=>exact absurd rfl h0
       |succ cap=>simp[LC,hlt,hlc]
      ·rw[hl1];have:=(cell (cap-1) (by omega)).1;have h2:len*s'.sz≤cap*s'.sz:=Nat.mul_le_mul_right _ hlc;have h3:cap*s'.sz=(cap-1)*s'.sz+s'.sz:=by rw[←Nat.succ_mul];congr 1;omega
       simp;omega
     ·simp only[Qi];refine⟨by omega,fun x hx=>?_⟩;obtain⟨i,hi,rfl⟩:=List.mem_iff_getElem.1 hx;exact(hl2 i hi).2
  case h_5 fs hu=>
   split at hs
   case h_2=>cases hs
   rename_i s' hs';cases hc:zI (P.cellsOf t) s'.sz with
   |false=>rw[hc]at hs;cases hs
   |true=>
   rw[hc]at hs;cases hs;have hsz:=zq hc;obtain⟨xs,n,rfl,_,hlen,hxl,hf⟩:=DataW.trod_struct hu h;obtain⟨x,h1,h2⟩:=MY (cs:=cs) (fun t s cs y h1 h2=>ih n t s cs y h1 h2) fs.toList 0 _ hs' (fun f hfm=>by
    obtain⟨i,hi⟩:=List.mem_iff_getElem?.1 hfm;have hi':fs[i]?=some f:=by simpa using hi
    have:=hf i f hi';have hlt:=(zm.1 hi').1;rw[zi (by omega)]at this;exact⟨_,this⟩)
   refine⟨x,?_,h2⟩;rw[List.drop_zero,zw (by simp;omega)]at h1;exact h1
  case h_6=>cases hs
theorem Xr{k:Nat}{t:TypeId}{s:Sh}{v:Value}{d:DataW H}{p:List MemPlace}(hs:bQ P k t=some s)(hp:s.MV=false)(hc:v.cells.toList=[v])(h:DataW.Trod enc P W 0 (fun _=>true) true t v d p):
  ∃x:s.T,PC (FW W) (Bz s x) (LC W.heap.size v)∧Qi s x∧Aa (pW W) (LC W.heap.size v) v:=by
 obtain⟨fuel,hf⟩:=h;rw[hc]at hf;obtain⟨x,h1,h2⟩:=Oc k fuel t s [v] (d,p) hs hf;simp only[List.map_cons,List.map_nil]at h1;exact⟨x,(PC.Bz h1).2 hp _ rfl,h2,NY (h1.ok _ (by simp))⟩
end
end
end Go.Pe
end
section
namespace Go.Pe
open Go.Det Go.RowKit
noncomputable section
open Go.Proofs.Tryz (prog)
theorem IS{F':Fz}{v:V}(h:PC F' (.dat .bool true) v):v=.bool true:=by
 have:=h (fun _=>none) 0;simp only[PR,DC]at this;simpa using this
def GW(W:World):Prop:=∀x∈EM,Ml W x.1=some x.2
theorem GW.h{W:World}(h:GW W):Gh (hW W):=fun x hx=>by rw[Ly];exact h x hx
theorem GW.p{W:World}(h:GW W):Gp (pW W):=fun x hx=>by
 have h1:=h x hx;unfold Ml at h1;split at h1
 case h_2=>cases h1
 rename_i c t fz hc;split at h1
 case isTrue=>cases h1
 have hlt:x.1<W.heap.size:=(zm.1 hc).1;have hs:Zp W x.1=c.size:=by unfold Zp;rw[hc]
 rw[JC hlt,hs];cases hx2:x.2 with
 |cells cs t' fz'=>rw[hx2]at h1;cases h1;simp[fN]
 |_=>rw[hx2]at h1;cases h1
theorem Dd{f:FuncId}{sp:Az}(ok:Ac A4 f sp)(i:(Bb sp.ins).T)(hpre:sp.pre i=true){args:List V}{args':Array Value}{W:World}(hgw:GW W)(hP:J8 (FW W) (Ah sp.ins i) args)
  (ha:Al (pW W) args args'.toList) (hres:∀F' v,PC F' (one (Ah sp.outs (sp.f i))) v→v=.bool true) (hp:A4.prim f=none:=by kernel_rfl):
  Calls prog f args' W fun e W'=>e=.returned (.bool true)∧Below W.heap.size W W':=by
 obtain⟨l,M,h1,_,h2⟩:=(ok.zero hp).run (FW W) (hW W) args i (fun b cs h=>by
  unfold FW at h;split at h
  case h_2=>cases h
  rename_i cs' t fz hg;cases h;exact⟨t,fz,hg⟩) (fun b o h=>(fP W).lt h) hgw.h hP hpre
 refine((Ga ZS Ua Og M).fn f args (hW W) l (h1 M (zD _)) (pW W) W args' (fP W) hgw.p ha).mono ?_;rintro e w' ⟨v,h',v',p',hm,rfl,hv,hx⟩;obtain⟨_,_,_,F',_,_,_,hr⟩:=h2 _ hm;obtain rfl:=hres F' v hr;refine⟨?_,XJ hx⟩;simp only[Aa]at hv;rw[hv]
end
end Go.Pe
end
