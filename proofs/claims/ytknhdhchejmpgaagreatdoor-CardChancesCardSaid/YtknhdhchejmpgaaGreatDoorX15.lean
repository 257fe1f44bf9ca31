import Derived.Test.YtknhdhchejmpgaaGreatDoorX11
import Derived.Test.YtknhdhchejmpgaaGreatDoorX13
import Derived.Test.YtknhdhchejmpgaaGreatDoorX14
/- A part of a proof (no law is stated here). Made by program out of texts by AI agents. -/
noncomputable section
set_option maxRecDepth 10000
open Go.Pe.Ends renaming tt -> zc, leaf -> zd, ite -> zf, Am -> zi, ff -> zj, eq -> zl
open Go.IntKind renaming wrap -> ze, i64 -> yn, u64 -> qc
open Int renaming toNat_natCast -> zg, eq_ofNat_of_zero_le -> z7, mul_le_mul_of_nonneg_left -> yf, tmod_eq_emod_of_nonneg -> yo, le_of_lt -> yq, lt_of_lt_of_le -> yr, gcd -> yx, tmod -> yy, natAbs_of_nonneg -> y7, mul_ne_zero -> qe, natCast_nonneg -> qg, tdiv_eq_ediv_of_nonneg -> qh, natAbs_mul -> qi, natAbs_natCast -> qk, mul_ediv_cancel_left -> qm, tdiv_eq_ediv_of_dvd -> qp, mul_zero -> qt, add_zero -> qu, lt_or_le -> qv, sign_eq_one_of_pos -> qw, one_mul -> jd, mul_nonneg -> je, add_assoc -> ji, tdiv -> jj, zero_sub -> jk, gcd_comm -> jl
open Bool renaming and_eq_true -> zh, true_and -> yj
open Rat renaming divInt -> zk, zero_add -> yu, add_assoc -> qn, not_lt -> qx, add_zero -> qz, den_natCast -> q9
open Go.Pe.Sh renaming str -> zo, int -> yw, list -> qf, bool -> qq, pair -> qy, nlist -> jg
open Go.Pe.Ad renaming of -> zq
open List renaming take_of_length_le -> zr, length_cons -> zt, length_append -> zu, length_drop -> zw, length_eq_zero_iff -> z8, drop_eq_nil_of_le -> ya, getD_eq_getElem?_getD -> yc, mem_cons_self -> ye, getElem?_eq_none -> yk, length_singleton -> yv, take -> qo, drop -> jh
open Nat renaming le_refl -> z6, mod_two_eq_zero_or_one -> yd, sub -> yh, add_sub_cancel -> yi, zero_le -> yt, lt_of_le_of_lt -> qj
open Go.Lib renaming decDigits -> yb
open Go.Sp renaming rW -> yg, AM -> ym, rN -> yp, B9 -> y8, first -> y9, isNum -> ql, vI -> jf, vR -> jm
open UInt8 renaming ofNat -> yz, toNat_inj -> qd
open Go.Pe.T77 renaming CX -> jc
namespace Go.Pe
open Sp
open Go.Det
section
open List Int Prod
namespace T108
def T(a b:Int):Tr:=tree MS false 9 108 (Af ([yw yn,yw yn]) (a,b))
def L1(v0 v1:Int):Tr:=re ((T 0 0)) (AA 12 [(0,.dat i64 v0),(1,.dat i64 v1)] [] 0)
theorem Al(a b:Int):T a b=L1 a b:=by kernel_rfl
theorem An(v0 v1:Int):stepT MS (L1 v0 v1)=.ite (decide (v1>0)) (.ite (decide (v1≠0)) (L1 v1 (yy v0 v1)) .fail) (.leaf (.dat i64 v0) []):=by kernel_rfl
end T108
namespace T41
def T(s:List UInt8):Tr:=tree MS false 9 41 (Af ([zo]) s)
theorem Al(s:List UInt8):T s=let a':Tr:=.leaf (.dat i64 (1:Int)) [];.ite (s==[(48:UInt8)]) (.leaf (.dat i64 (0:Int)) []) (.ite (decide ((length s:Int)>0)) (.ite (decide (0<(length s:Int))) (.ite ((↑(UInt8.toNat (getD s 0 (0:UInt8))):Int)==45) (.leaf (.dat i64 (-1:Int)) []) a') .fail) a'):=by kernel_rfl
end T41
namespace T99
def T(s:List UInt8):Tr:=tree XO2 false 9 99 (Af ([zo]) s)
theorem Al(s:List UInt8):T s=let a':=decide (length s<=1000000);.ite a' (.ite (decide (GL s<0)) (.ite (decide (1<=length s)&&decide (length s<=length s)) (.leaf (.dat zo (take (yh (length s) 1) (drop 1 s))) []) .fail) (.ite a' (.ite (GL s==0) (.leaf (.dat zo s) []) (.ite (decide (1+length s<=4611686018427387904)) (.leaf (.dat zo ([(45:UInt8)]++s)) []) .fail)) .fail)) .fail:=by kernel_rfl
end T99
namespace T109
def T(n l:Int):Tr:=tree MS false 9 109 (Af ([yw yn,yw yn]) (n,l))
def L1(v0 v1:Int)(v5:List UInt8):Tr:=re ((T 0 0)) (AA 25 [(0,.dat i64 v0),(1,.dat i64 v1),(5,.dat zo v5)] [] 0)
theorem Al(n l:Int):T n l=L1 n l []:=by kernel_rfl
theorem An(v0 v1:Int)(v5:List UInt8):stepT MS (L1 v0 v1 v5)=let c':=ze .i64 (yy v0 10+1);let d':=toNat (yy v0 10);let b':=drop d' [(48:UInt8),(49:UInt8),(50:UInt8),(51:UInt8),(52:UInt8),(53:UInt8),(54:UInt8),(55:UInt8),(56:UInt8),(57:UInt8)];let a':Tr:=.ite true (.ite true (.ite (decide (0<=yy v0 10)&&decide (0<=ze .i64 (yy v0 10+1))&&decide (toNat (yy v0 10)<=toNat c')&&decide (toNat c'<=10)) (.ite (decide (length (take (yh (toNat c') d') b')+length v5<=4611686018427387904)) (.ite true (L1 (ze .i64 (jj v0 10)) v1 (take (yh (toNat c') d') b'++v5)) .fail) .fail) .fail) .fail) .fail;.ite (decide (v0>0)) a' (.ite (decide ((length v5:Int)<v1)) a' (.leaf (.dat zo v5) [])):=by kernel_rfl
end T109
namespace T95
def T(s:List UInt8):Tr:=tree M8 false 9 95 (Af ([zo]) s)
def L1(v5:List UInt8)(v6:Bool):Tr:=re ((T []).R.L.L) (AA 54 [(5,.dat zo v5),(6,.dat qq v6)] [] 0)
def L2(v5:List UInt8):Tr:=re ((T []).R.R) (AA 54 [(5,.dat zo v5),(6,.bl false)] [] 0)
theorem Al(s:List UInt8):T s=let a':=(length s:Int);.ite (decide (a'>20)) (.leaf (.tup [.dat i64 (0:Int),.dat i64 (0:Int),.bl false]) []) (.ite (decide (a'>0)) (.ite (decide (0<a')) (L1 s ((↑(UInt8.toNat (getD s 0 (0:UInt8))):Int)==45)) .fail) (L2 s)):=by kernel_rfl
def L3(v5:List UInt8)(v6:Bool):Tr:=re ((stepT M8 (L1 [] false)).L.L) (AA 54 [(5,.dat zo v5),(6,.dat qq v6)] [] 0)
theorem An(v5:List UInt8)(v6:Bool):stepT M8 (L1 v5 v6)=.ite v6 (.ite (decide (1<=length v5)&&decide (length v5<=length v5)) (L3 (take (yh (length v5) 1) (drop 1 v5)) v6) .fail) (L3 v5 v6):=by kernel_rfl
def L4(v5:List UInt8):Tr:=re ((stepT M8 (L2 []))) (AA 54 [(5,.dat zo v5),(6,.bl false)] [] 0)
theorem AZ(v5:List UInt8):stepT M8 (L2 v5)=L4 v5:=by kernel_rfl
def L5(v5:List UInt8)(v6:Bool)(v7 v8 v9:Int):Tr:=re ((stepT M8 (L3 [] false)).L.R.R.L.L) (AA 54 [(5,.dat zo v5),(6,.dat qq v6),(7,.dat i64 v7),(8,.dat i64 v8),(9,.dat i64 v9)] [] 0)
theorem CU(v5:List UInt8)(v6:Bool):stepT M8 (L3 v5 v6)=let a':Tr:=.leaf (.tup [.dat i64 (0:Int),.dat i64 (0:Int),.bl false]) [];let b':=AU v5;.ite (decide (length v5<=1000000)) (.ite (decide (AU v5>9)) a' (.ite (decide (ze .i64 ((length v5:Int)-AU v5)>10)) a' (.ite (decide (0<=AU v5)&&decide (0<=toNat b')&&decide (toNat b'<=length v5)) (.ite (DL (take (toNat b') v5)) (L5 v5 v6 b' (Bx (take (toNat b') v5)) 1) .fail) .fail))) .fail:=by kernel_rfl
def L6(v5:List UInt8)(v7 v8 v9:Int):Tr:=re ((stepT M8 (L4 [])).L.R.R.L.L) (AA 54 [(5,.dat zo v5),(6,.bl false),(7,.dat i64 v7),(8,.dat i64 v8),(9,.dat i64 v9)] [] 0)
theorem Ct(v5:List UInt8):stepT M8 (L4 v5)=let a':Tr:=.leaf (.tup [.dat i64 (0:Int),.dat i64 (0:Int),.bl false]) [];let b':=AU v5;.ite (decide (length v5<=1000000)) (.ite (decide (AU v5>9)) a' (.ite (decide (ze .i64 ((length v5:Int)-AU v5)>10)) a' (.ite (decide (0<=AU v5)&&decide (0<=toNat b')&&decide (toNat b'<=length v5)) (.ite (DL (take (toNat b') v5)) (L6 v5 b' (Bx (take (toNat b') v5)) 1) .fail) .fail))) .fail:=by kernel_rfl
def L7(v6:Bool)(v8 v9:Int):Tr:=re ((stepT M8 (L5 [] false 0 0 0)).L.L.L) (AA 54 [(6,.dat qq v6),(8,.dat i64 v8),(9,.dat i64 v9)] [] 0)
theorem Ei(v5:List UInt8)(v6:Bool)(v7 v8 v9:Int):stepT M8 (L5 v5 v6 v7 v8 v9)=let b':=ze .i64 (v7+1);let a':=take (yh (length v5) (toNat b')) (drop (toNat b') v5);.ite (decide (v7<(length v5:Int))) (.ite (decide (0<=ze .i64 (v7+1))&&true&&decide (toNat b'<=length v5)&&decide (length v5<=length v5)) (.ite (DL a') (L7 v6 v8 (Bx a')) .fail) .fail) (L7 v6 v8 v9):=by kernel_rfl
def L8(v8 v9:Int):Tr:=re ((stepT M8 (L6 [] 0 0 0)).L.L.L) (AA 54 [(6,.bl false),(8,.dat i64 v8),(9,.dat i64 v9)] [] 0)
theorem Eo(v5:List UInt8)(v7 v8 v9:Int):stepT M8 (L6 v5 v7 v8 v9)=let b':=ze .i64 (v7+1);let a':=take (yh (length v5) (toNat b')) (drop (toNat b') v5);.ite (decide (v7<(length v5:Int))) (.ite (decide (0<=ze .i64 (v7+1))&&true&&decide (toNat b'<=length v5)&&decide (length v5<=length v5)) (.ite (DL a') (L8 v8 (Bx a')) .fail) .fail) (L8 v8 v9):=by kernel_rfl
theorem ES(v6:Bool)(v8 v9:Int):stepT M8 (L7 v6 v8 v9)=.ite v6 (.leaf (.tup [.dat i64 (ze .i64 (0-v8)),.dat i64 v9,.bl true]) []) (.leaf (.tup [.dat i64 v8,.dat i64 v9,.bl true]) []):=by kernel_rfl
theorem HL(v8 v9:Int):stepT M8 (L8 v8 v9)=.leaf (.tup [.dat i64 v8,.dat i64 v9,.bl true]) []:=by kernel_rfl
end T95
namespace T100
def T(a:List UInt8):Tr:=tree MS false 9 100 (Af ([zo]) a)
theorem Al(a:List UInt8):T a=let a':Tr:=.ite (decide (1<=length a)&&decide (length a<=length a)) (.leaf (.dat zo (take (yh (length a) 1) (drop 1 a))) []) .fail;let b':Tr:=.ite false a' (.leaf (.dat zo a) []);.ite (a==[(48:UInt8)]) b' (.ite (decide ((length a:Int)>0)) (.ite (decide (0<(length a:Int))) (.ite ((↑(UInt8.toNat (getD a 0 (0:UInt8))):Int)==45) (.ite true a' (.leaf (.dat zo a) [])) b') .fail) b'):=by kernel_rfl
end T100
namespace T101
def T(a:List UInt8):Tr:=tree zW false 9 101 (Af ([zo]) a)
theorem Al(a:List UInt8):T a=.ite (decide (length a<=1000000)) (.ite (decide (0<=AU a)&&decide (0<=toNat (AU a))&&decide (toNat (AU a)<=length a)) (.leaf (.dat zo (take (toNat (AU a)) a)) []) .fail) .fail:=by kernel_rfl
end T101
namespace T102
def T(a:List UInt8):Tr:=tree zW false 9 102 (Af ([zo]) a)
theorem Al(a:List UInt8):T a=let a':=ze .i64 (AU a+1);.ite (decide (length a<=1000000)) (.ite (AU a==(length a:Int)) (.leaf (.dat zo [(49:UInt8)]) []) (.ite (decide (0<=ze .i64 (AU a+1))&&true&&decide (toNat a'<=length a)&&decide (length a<=length a)) (.leaf (.dat zo (take (yh (length a) (toNat a')) (drop (toNat a') a))) []) .fail)) .fail:=by kernel_rfl
end T102
namespace T31
def T(a:List UInt8)(n:Int):Tr:=tree XM3 false 9 31 (Af ([zo,yw yn]) (a,n))
theorem Al(a:List UInt8)(n:Int):T a n=let a':=decide (length a<=1000000);let b':Tr:=.leaf (.bl false) [];.ite (decide ((length a:Int)<=ze .i64 (ze .i64 (2*n)+2))) (.ite a' (.ite (AO a==0) (.ite a' (.ite (decide (length (Ax a)<=1000000)) (.ite (decide ((↑(length (A0 (Ax a))):Int)<=n)) (.ite a' (.leaf (.dat qq (decide ((↑(length (LH a)):Int)<=n))) []) .fail) b') .fail) .fail) b') .fail) b':=by kernel_rfl
end T31
namespace T46
def T(a:List UInt8)(n:Int):Tr:=tree XM4 false 9 46 (Af ([zo,yw yn]) (a,n))
theorem Al(a:List UInt8)(n:Int):T a n=.ite (decide ((length a:Int)<=40)) (.ite (decide (length a<=1000000)) (.ite (AO a !=0) (.leaf (.bl true) []) (.ite (decide (0<=n)&&decide (n<=1000)) (.leaf (.dat qq (P2 a n)) []) .fail)) .fail) (.leaf (.bl false) []):=by kernel_rfl
end T46
end
theorem XL:DF zW:=Aa T89.ok AN
theorem T100.ok:Ag Bh 100 Xq:=by
 refine B5 Fc (fun(a:List UInt8) hl=>?_);have hl:a.length<=1000000:=w6 hl;have hq:∀s ob,s=A0 a->Ad Xq a (.dat .str s) ob:=fun s ob h=>zq rfl rfl h
 refine zl (T100.Al a) (zf (fun c=>zj rfl (zd (hq _ _ ?_))) (fun c=>?_))
 ·have c:a=[48]:=by simpa using c
  subst c;rfl
 ·cases a with
  |nil=>exact zj rfl (zj rfl (zd (hq _ _ rfl)))
  |cons x r=>
   have g0:(x::r).getD 0 0=x:=rfl;have e:(jh 1 (x::r)).take (yh (x::r).length 1)=r:=by show r.take ((r.length+1)-1)=r;rw[yi];exact List.take_length
   rw[g0,e];refine zc (by simp) (zc (by simp) (zf (fun d=>zc rfl (zc (by simp) (zd (hq _ _ ?_)))) (fun d=>zj rfl (zd (hq _ _ ?_)))))
   ·have hc:x=45:=by
     have:(x.toNat:Int)=45:=by simpa using d
     exact qd.1 (by show _=45;omega)
    unfold A0;rw[g0,wd hc];rfl
   ·have hc:x≠45:=by rintro rfl;exact wh d (by decide)
    unfold A0;rw[g0,wc hc]
theorem T101.ok:Ag Bh 101 fL:=by
 refine B5 XL (fun(a:List UInt8) hl=>?_);have hle:=(jc a).1;refine zl (T101.Al a) (zc hl ?_);rw[show AU a=((Ax a).length:Int)from rfl,zg];exact zc (by simp;omega) (zd (zq rfl rfl (BD a).1.symm))
theorem T102.ok:Ag Bh 102 T1:=by
 refine B5 XL (fun(a:List UInt8) hl=>?_);have hl':a.length<=1000000:=w6 hl;obtain⟨c1,c2,c3⟩:=BD a;have hq:∀s ob,s=LH a->Ad T1 a (.dat .str s) ob:=fun s ob h=>zq rfl rfl h
 have hle:=(jc a).1;have es:AU a=((Ax a).length:Int):=rfl;refine zl (T102.Al a) (zc hl ?_);rw[es];cases hc:Bm a with
 |false=>
  refine zc (by rw[(c3 hc).1];simp) (zd (hq _ _ ?_));unfold LH;rw[hc];rfl
 |true=>
  obtain⟨k1,k2⟩:=c2 hc;have e1:ze .i64 (((Ax a).length:Int)+1)=(((Ax a).length+1:Nat):Int):=by rw[wr _ (by omega) (by omega)];omega
  have e2:(a.drop ((Ax a).length+1)).take (yh a.length ((Ax a).length+1))=a.drop ((Ax a).length+1):=zr (by rw[zw];exact z6 _);rw[e1,zg,e2];refine zj (by simp;omega) (zc (by simp;omega) (zd (hq _ _ ?_)));unfold LH;rw[hc,k2];rfl
theorem kR:DF XM3:=Aa T24.ok (Aa T100.ok (Aa T101.ok (Aa T102.ok AN)))
theorem T31.ok:Ag Bh 31 aL:=by
 refine B5 kR (fun(i:List UInt8×Int) hi=>?_);obtain⟨a,n⟩:=i;have hi:(decide (0<=n)&&decide (n<=1000))=true:=hi;rw[zh,w5,w5]at hi;obtain⟨h0,h1⟩:=hi;have hq:∀v b ob,v=.bl b\/v=.dat .bool b->b=P2 a n->Ad aL (a,n) v ob:=by
  rintro v b ob (rfl|rfl) hb
  ·exact zq rfl rfl hb
  ·exact zq rfl rfl hb
 have e1:ze .i64 (ze .i64 (2*n)+2)=2*n+2:=by rw[wr (2*n) (by omega) (by omega)];exact wr _ (by omega) (by omega)
 have hle:=(jc a).1;refine zl (T31.Al a n) ?_;conv=>zeta
 rw[e1];by_cases hl:a.length<=1000000
 case neg=>
  have c:decide ((a.length:Int)<=2*n+2)=false:=w8 (by omega);refine zj c (zd (hq _ _ _ (.inl rfl) ?_));unfold P2;rw[c];rfl
 refine zf (fun c=>zc (w4 hl) (zf (fun d=>zc (w4 hl) (zc (w4 (by omega)) (zf (fun e=>zc (w4 hl) (zd (hq _ _ _ (.inr rfl) ?_))) (fun e=>zd (hq _ _ _ (.inl rfl) ?_))))) (fun d=>zd (hq _ _ _ (.inl rfl) ?_)))) (fun c=>zd (hq _ _ _ (.inl rfl) ?_))
 ·have d:AO a=0:=by simpa using d
  unfold P2;rw[c,e,w4 d];rfl
 ·unfold P2;rw[e];simp
 ·have d:AO a≠0:=by simpa using d
  unfold P2;rw[w8 d];simp
 ·unfold P2;rw[c];rfl
theorem lG:DF XM4:=Aa T24.ok (Aa T31.ok AN)
theorem T46.ok:Ag Bh 46 Mb:=by
 refine B5 lG (fun(i:List UInt8×Int) hi=>?_);obtain⟨a,n⟩:=i;have hi':(decide (0<=n)&&decide (n<=1000))=true:=hi;rw[zh,w5,w5]at hi';obtain⟨h0,h1⟩:=hi';have hq:∀v b ob,v=.bl b\/v=.dat .bool b->b=BY a n->Ad Mb (a,n) v ob:=by
  rintro v b ob (rfl|rfl) hb
  ·exact zq rfl rfl hb
  ·exact zq rfl rfl hb
 refine zl (T46.Al a n) (zf (fun c=>zc (w4 (by have:=w6 c;omega)) (zf (fun d=>zd (hq _ _ _ (.inl rfl) ?_)) (fun d=>zc (Ab (w4 h0) (w4 h1)) (zd (hq _ _ _ (.inr rfl) ?_))))) (fun c=>zd (hq _ _ _ (.inl rfl) ?_)))
 ·have c:=w6 c;have d:AO a≠0:=by simpa using d
  unfold BY;rw[w4 (p:=a.length<=40) (by omega),w4 d];rfl
 ·have c:=w6 c;have d:AO a=0:=by simpa using d
  unfold BY;rw[w4 (p:=a.length<=40) (by omega),w8 (fun h=>h d)];rfl
 ·have c:=w7 c;unfold BY;rw[w8 (p:=a.length<=40) (by omega)];rfl
namespace T108
variable {Q:PV->Ob->Prop}
theorem Ap(g:Nat)(hq:∀ob,Q (.dat i64 (g:Int)) ob):∀(f x y:Nat),y<f->Nat.gcd x y=g->Ends MS (L1 (x:Int) (y:Int)) Q
 |0,x,y,h,_=>by omega
 |f+1,x,y,hy,hg=>by
  refine zi (An ..) ?_;conv=>zeta
  by_cases h0:y=0
  ·subst h0;rw[Nat.gcd_zero_right]at hg;subst hg;exact zj rfl (zd (hq _))
  ·have e:yy (x:Int) (y:Int)=((x % y:Nat):Int):=by rw[yo (qg x)];rfl
   rw[e];have hlt:x % y<y:=Nat.mod_lt _ (by omega);exact zc (by simp;omega) (zc (by simp;omega) (Ap g hq f y (x % y) (by omega) (by rw[Nat.gcd_comm, <-Nat.gcd_rec,Nat.gcd_comm];exact hg)))
theorem ok:Ag Bh 108 qD:=by
 refine B5 Fc (fun(i:Int×Int) hi=>?_);obtain⟨a,b⟩:=i;have hi:(decide (0<=a)&&decide (a<9223372036854775808)&&decide (0<=b)&&decide (b<9223372036854775808))=true:=hi;rw[zh,zh,zh,w5,w5,w5,w5]at hi;obtain⟨⟨⟨a0,_⟩,b0⟩,_⟩:=hi;obtain⟨x,rfl⟩:=z7 a0;obtain⟨y,rfl⟩:=z7 b0;refine zl (Al x y) (Ap (Nat.gcd x y) (fun ob=>zq rfl rfl ?_) (y+1) x y (Nat.lt_succ_self _) rfl);show((Nat.gcd x y:Nat):Int)=Sp.gI (x:Int) (y:Int);rw[Gr];rfl
end T108
namespace T41
theorem ok:Ag Bh 41 Pv:=by
 refine B5 Fc (fun(s:List UInt8) hl=>?_);have hq:∀v ob,v=GL s->Ad Pv s (.dat i64 v) ob:=fun v ob hb=>zq rfl rfl hb
 refine zl (Al s) (zf (fun c=>zd (hq _ _ ?_)) (fun c=>?_))
 ·have c:s=[48]:=by simpa using c
  unfold GL;rw[wd c]
 ·have c:¬s=[48]:=by simpa using c
  cases s with
  |nil=>exact zj rfl (zd (hq _ _ rfl))
  |cons x r=>
   have g0:(x::r).getD 0 0=x:=rfl;rw[g0];refine zc (by simp) (zc (by simp) (zf (fun d=>zd (hq _ _ ?_)) (fun d=>zd (hq _ _ ?_))))
   ·have hx:x=45:=by
     have:(x.toNat:Int)=45:=by simpa using d
     exact qd.1 (by show _=45;omega)
    unfold GL;rw[wc c,g0,wd hx]
   ·have hx:x≠45:=by rintro rfl;exact wh d (by decide)
    unfold GL;rw[wc c,g0,wc hx]
end T41
theorem oZ:DF XO2:=Aa T41.ok AN
theorem T99.ok:Ag Bh 99 Z9:=by
 refine B5 oZ (fun(s:List UInt8) hl=>?_);have hl:s.length<=1000000:=w6 hl;have hq:∀v ob,v=K2 s->Ad Z9 s (.dat .str v) ob:=fun v ob hb=>zq rfl rfl hb
 refine zl (T99.Al s) (zc (w4 hl) ?_);unfold K2 at hq;unfold GL;by_cases c:s=[48]
 ·rw[wd c];rw[wd c]at hq;exact zj rfl (zc (w4 hl) (zc rfl (zd (hq _ _ rfl))))
 ·rw[wc c];rw[wc c]at hq;by_cases d:s.getD 0 0=45
  ·rw[wd d];rw[wd d]at hq;have hn:s≠[]:=by rintro rfl;exact wh d (by decide)
   have hp:1<=s.length:=List.length_pos_iff.2 hn;refine zc rfl (zc (by simp;omega) (zd (hq _ _ ?_)));exact zr (by rw[zw];exact z6 _)
  ·rw[wc d];rw[wc d]at hq;exact zj rfl (zc (w4 hl) (zj rfl (zc (by simp;omega) (zd (hq _ _ rfl)))))
namespace T109
theorem Y1:∀k:Fin 10,qo (yh (k.1+1) k.1) (jh k.1 [(48:UInt8),49,50,51,52,53,54,55,56,57])=[yz (48+k.1)]:=by decide
theorem Ap{Q:PV->Ob->Prop}(l:Nat)(hl:l<=20):∀(f n:Nat) (acc:List UInt8),n<9223372036854775808->n<10^f->l<=acc.length+f->acc.length+f<=64->(∀ob,Q (.dat .str (Hm (f+1) n l acc)) ob)->Ends MS (L1 (n:Int) (l:Int) acc) Q:=by
 intro f;induction f with
 |zero=>
  intro n acc hn hf hle h64 hq;have h0:n=0:=by rw[Nat.pow_zero]at hf;omega
  subst h0;unfold Hm at hq;rw[wd ⟨rfl,by omega⟩]at hq;exact zi (An ..) (zj rfl (zj (by simp;omega) (zd (hq _))))
 |succ f ih=>
  intro n acc hn hf hle h64 hq;have e1:yy (n:Int) 10=((n % 10:Nat):Int):=by rw[yo (qg n)];rfl
  have e2:ze .i64 (((n % 10:Nat):Int)+1)=((n % 10+1:Nat):Int):=by rw[wr _ (by omega) (by omega)];omega
  have e3:ze .i64 (jj (n:Int) 10)=((n/10:Nat):Int):=by rw[qh (qg n),wr _ (by omega) (by omega)];rfl
  have hd:=Y1 ⟨n % 10,Nat.mod_lt _ (by decide)⟩;have hd:qo (yh (n % 10+1) (n % 10)) (jh (n % 10) [(48:UInt8),49,50,51,52,53,54,55,56,57])=[yz (48+n % 10)]:=hd;have hm:n % 10<10:=Nat.mod_lt _ (by decide);rw[Nat.pow_succ]at hf;refine zi (An ..) ?_;conv=>zeta
  rw[e1,e2,e3,zg,zg,hd];by_cases hz:n=0/\l<=acc.length
  ·obtain⟨z1,z2⟩:=hz;subst z1;unfold Hm at hq;rw[wd ⟨rfl,z2⟩]at hq;exact zj rfl (zj (by simp;omega) (zd (hq _)))
  ·have hq2:∀ob,Q (.dat .str (Hm (f+1) (n/10) l (yz (48+n % 10)::acc))) ob:=by
    intro ob;have:=hq ob;unfold Hm at this;rw[wc hz]at this;exact this
   have go:Ends MS (L1 ((n/10:Nat):Int) (l:Int) ([yz (48+n % 10)]++acc)) Q:=ih (n/10) (yz (48+n % 10)::acc) (by omega) (by omega) (by rw[zt];omega) (by rw[zt];omega) hq2;refine zf (fun _=>?_) (fun c=>zc ?_ ?_)
   ·exact zc rfl (zc rfl (zc (by simp;omega) (zc (by simp;omega) (zc rfl go))))
   ·have c:=w7 c;exact w4 (by omega)
   ·exact zc rfl (zc rfl (zc (by simp;omega) (zc (by simp;omega) (zc rfl go))))
theorem ok:Ag Bh 109 PB:=by
 refine B5 Fc (fun(i:Int×Int) hi=>?_);obtain⟨a,b⟩:=i;have hi:(decide (0<=a)&&decide (a<9223372036854775808)&&decide (0<=b)&&decide (b<=20))=true:=hi;rw[zh,zh,zh,w5,w5,w5,w5]at hi;obtain⟨⟨⟨a0,a1⟩,b0⟩,b1⟩:=hi;obtain⟨x,rfl⟩:=z7 a0;obtain⟨y,rfl⟩:=z7 b0;refine zl (Al x y) (Ap y (by omega) 63 x [] (by omega) (by omega) (by show y<=0+63;omega) (by decide) (fun ob=>zq rfl rfl ?_));show Hm 64 x y []=Hm 64 (x:Int).toNat (y:Int).toNat [];rw[zg,zg]
end T109
theorem pE:DF M8:=Aa T165.ok (Aa T89.ok AN)
namespace T95
variable {Q:PV->Ob->Prop}
theorem Cj(neg:Bool)(n d:Int)(h0:0<=n)(h1:n<1000000000)(hq:∀ob,Q (.tup [.dat i64 (if neg=true then -n else n),.dat i64 d,.bl true]) ob):Ends M8 (L7 neg n d) Q:=by
 refine zi (ES ..) ?_;conv=>zeta
 cases neg with
 |true=>
  refine zc rfl (zd ?_);rw[wr _ (by omega) (by omega),jk];exact hq _
 |false=>exact zj rfl (zd (hq _))
theorem Cu(s:List UInt8)(neg:Bool)(n:Int)(h0:0<=n)(h1:n<1000000000)(hl:s.length<=20)(lb:(ym s).length<=9)(db:Aj (ym s)=true)(hq:∀ob,Q (.tup [.dat i64 (if neg=true then -n else n),.dat i64 (if Bm s=true then Az 0 (ym s)else 1),.bl true]) ob):Ends M8 (L5 s neg (AU s) n 1) Q:=by
 obtain⟨c1,c2,c3⟩:=BD s;refine zi (Ei ..) ?_;conv=>zeta
 have es:AU s=((Ax s).length:Int):=rfl;have hle:=(jc s).1;cases hc:Bm s with
 |true=>
  rw[hc]at hq;obtain⟨k1,k2⟩:=c2 hc;have e3:ze .i64 (AU s+1)=(((Ax s).length+1:Nat):Int):=by rw[es,wr _ (by omega) (by omega)];omega
  have hl2:(ym s).length=s.length-((Ax s).length+1):=by rw[k2,zw]
  have et:(ym s).take (yh s.length ((Ax s).length+1))=ym s:=zr (by show _<=s.length-_;omega);rw[e3,zg, <-k2,et];exact zc (by simp[es];omega) (zc (by simp;omega) (zc (T163.BV db (by omega)) (Cj neg n _ h0 h1 hq)))
 |false=>
  obtain⟨k1,k2⟩:=c3 hc;rw[hc]at hq;exact zj (by simp[es,k1]) (Cj neg n 1 h0 h1 hq)
theorem CY(s:List UInt8)(neg:Bool)(hl:s.length<=20)(la:(Ax s).length<=9)(lb:(ym s).length<=9)(da:Aj (Ax s)=true)(db:Aj (ym s)=true)(hq:∀n ob,n=Az 0 (Ax s)->Q (.tup [.dat i64 (if neg=true then -n else n),.dat i64 (if Bm s=true then Az 0 (ym s)else 1),.bl true]) ob):Ends M8 (L3 s neg ) Q:=by
 obtain⟨c1,c2,c3⟩:=BD s;have es:AU s=((Ax s).length:Int):=rfl;have hle:=(jc s).1;have hlen:s.length-(Ax s).length<=10:=by
  cases hc:Bm s with
  |true=>
   obtain⟨k1,k2⟩:=c2 hc;have:(ym s).length=s.length-((Ax s).length+1):=by rw[k2,zw]
   omega
  |false=>rw[(c3 hc).1];omega
 have et:qo (Int.toNat (AU s)) s=Ax s:=by rw[es,zg];exact c1.symm
 obtain⟨v0,v1⟩:=T163.Cq da la;refine zi (CU ..) ?_;conv=>zeta
 rw[et];refine zc (by simp;omega) (zj (by simp[es];omega) (zj ?_ (zc (by simp[es];omega) (zc (T163.BV da (by omega)) ?_))))
 ·rw[es,wr _ (by omega) (by omega)];exact w8 (by omega)
 ·exact Cu s neg (Az 0 (Ax s)) v0 v1 hl lb db (fun ob=>hq _ ob rfl)
theorem E9(n d:Int)(hq:∀ob,Q (.tup [.dat i64 n,.dat i64 d,.bl true]) ob):Ends M8 (L8 n d) Q:=by
 refine zi (HL ..) ?_;conv=>zeta
 exact zd (hq _)
theorem EE(s:List UInt8)(n:Int)(hl:s.length<=20)(lb:(ym s).length<=9)(db:Aj (ym s)=true)(hq:∀ob,Q (.tup [.dat i64 n,.dat i64 (if Bm s=true then Az 0 (ym s)else 1),.bl true]) ob):Ends M8 (L6 s (AU s) n 1) Q:=by
 obtain⟨c1,c2,c3⟩:=BD s;refine zi (Eo ..) ?_;conv=>zeta
 have es:AU s=((Ax s).length:Int):=rfl;have hle:=(jc s).1;cases hc:Bm s with
 |true=>
  rw[hc]at hq;obtain⟨k1,k2⟩:=c2 hc;have e3:ze .i64 (AU s+1)=(((Ax s).length+1:Nat):Int):=by rw[es,wr _ (by omega) (by omega)];omega
  have hl2:(ym s).length=s.length-((Ax s).length+1):=by rw[k2,zw]
  have et:(ym s).take (yh s.length ((Ax s).length+1))=ym s:=zr (by show _<=s.length-_;omega);rw[e3,zg, <-k2,et];exact zc (by simp[es];omega) (zc (by simp;omega) (zc (T163.BV db (by omega)) (E9 n _ hq)))
 |false=>
  obtain⟨k1,k2⟩:=c3 hc;rw[hc]at hq;exact zj (by simp[es,k1]) (E9 n 1 hq)
theorem BP(s:List UInt8)(hl:s.length<=20)(la:(Ax s).length<=9)(lb:(ym s).length<=9)(da:Aj (Ax s)=true)(db:Aj (ym s)=true)(hq:∀n ob,n=Az 0 (Ax s)->Q (.tup [.dat i64 n,.dat i64 (if Bm s=true then Az 0 (ym s)else 1),.bl true]) ob):Ends M8 (L4 s ) Q:=by
 obtain⟨c1,c2,c3⟩:=BD s;have es:AU s=((Ax s).length:Int):=rfl;have hle:=(jc s).1;have hlen:s.length-(Ax s).length<=10:=by
  cases hc:Bm s with
  |true=>
   obtain⟨k1,k2⟩:=c2 hc;have:(ym s).length=s.length-((Ax s).length+1):=by rw[k2,zw]
   omega
  |false=>rw[(c3 hc).1];omega
 have et:qo (Int.toNat (AU s)) s=Ax s:=by rw[es,zg];exact c1.symm
 obtain⟨v0,v1⟩:=T163.Cq da la;refine zi (Ct ..) ?_;conv=>zeta
 rw[et];refine zc (by simp;omega) (zj (by simp[es];omega) (zj ?_ (zc (by simp[es];omega) (zc (T163.BV da (by omega)) ?_))))
 ·rw[es,wr _ (by omega) (by omega)];exact w8 (by omega)
 ·exact EE s (Az 0 (Ax s)) hl lb db (fun ob=>hq _ ob rfl)
end T95
end Go.Pe
namespace Go.Sp
theorem GM(a:List Int)(i:Nat):val B9 (a.drop i)=a.getD i 0+1000000000*val B9 (a.drop (i+1)):=by
 by_cases h:i<a.length
 ·rw[Ca h];rfl
 ·rw[ya (by omega),ya (by omega),show a.getD i 0=0 by rw[yc,yk (by omega)];rfl];rfl
structure Fo(a b:List Int)(i:Nat)(o:List Int)(c:Int):Prop where
 len:o.length=i
 d:Av B9 o
 c01:0<=c/\c<=1
 v:val B9 o+(B9:Int)^i*(c+val B9 (a.drop i)+val B9 (b.drop i))=Ar a+Ar b
 top:a.length<=i->b.length<=i->i=0\/(B9:Int)^(i-1)<=val B9 o+(B9:Int)^i*c
theorem Fo.start(a b:List Int):Fo a b 0 [] 0:=⟨rfl,(fun x hx=>by cases hx),by decide,by
 show 0+(B9:Int)^0*(0+val B9 a+val B9 b)=val B9 a+val B9 b;rw[Int.pow_zero,jd];omega,fun _ _=>.inl rfl⟩
theorem Bw{a:List Int}(h:A5 a=true)(i:Nat):0<=a.getD i 0/\a.getD i 0<1000000000:=Gy (Bk h).2.1 i
theorem Sd{a:List Int}(h:A5 a=true){i:Nat}(h1:i<a.length)(h2:a.length<=i+1):1<=a.getD i 0:=by
 have:=(Go.Pe.Gj (Bk h).2.1 (Bk h).2.2 (k:=i) (by omega)).1;omega
theorem Fo.step{a b:List Int}{i:Nat}{o:List Int}{c:Int}(h:Fo a b i o c)(ha:A5 a=true)(hb:A5 b=true)(hc:i<a.length\/i<b.length\/0<c):
  Fo a b (i+1) (o++[(a.getD i 0+b.getD i 0+c) % 1000000000]) ((a.getD i 0+b.getD i 0+c)/1000000000):=by
 obtain⟨x0,x1⟩:=Bw ha i;obtain⟨y0,y1⟩:=Bw hb i;obtain⟨c0,c1⟩:=h.c01;have hv:=h.v;rw[GM a i,GM b i]at hv;have hs:1<=a.getD i 0+b.getD i 0+c\/¬(a.length<=i+1/\b.length<=i+1):=by
  by_cases k:a.length<=i+1/\b.length<=i+1
  ·refine .inl ?_;rcases hc with hc|hc|hc
   ·have:=Sd ha hc k.1;omega
   ·have:=Sd hb hc k.2;omega
   ·omega
  ·exact .inr k
 have ho:=Ay (b:=B9) (by decide) h.d;have hP:=AL (b:=B9) (by decide) i;generalize a.getD i 0=x at*;generalize b.getD i 0=y at*;have hval:val B9 (o++[(x+y+c) % 1000000000])=val B9 o+(B9:Int)^i*((x+y+c) % 1000000000):=by rw[B8,h.len]
 refine⟨by rw[zu,h.len];rfl,E4 h.d (by omega),by omega,?_,fun k1 k2=>.inr ?_⟩
 ·rw[hval,JB,ji, <-Int.mul_add, <-hv];congr 2;omega
 ·rw[hval,JB,ji, <-Int.mul_add,yi];have e:(x+y+c) % 1000000000+1000000000*((x+y+c)/1000000000)=x+y+c:=by omega
  rw[e];rcases hs with hs|hs
  ·have:=yf hs (yq hP);rw[Int.mul_one]at this;omega
  ·exact wh ⟨k1,k2⟩ hs
theorem xF{o:List Int}(hd:Av B9 o)(h:o=[]\/(B9:Int)^(o.length-1)<=val B9 o):nz o:=by
 rcases h with rfl|h
 ·unfold nz;simp
 ·intro e;have hn:o≠[]:=by rintro rfl;simp at e
  have e2:o=o.dropLast++[0]:=by
   have h1:=(List.dropLast_concat_getLast hn).symm;rw[List.getLast?_eq_some_getLast hn]at e;rw[Option.some.inj e]at h1;exact h1
  have hl:o.length=o.dropLast.length+1:=by rw[List.length_dropLast];have:=List.length_pos_iff.2 hn;omega
  have hv:val B9 o=val B9 o.dropLast:=by
   conv=>lhs;rw[e2]
   rw[B8,qt,qu]
  have hd2:Av B9 o.dropLast:=fun x hx=>hd x (by rw[e2];exact List.mem_append_left _ hx)
  have:=Bq (b:=B9) (by decide) hd2;rw[hv,hl,yi]at h;omega
theorem Fo.fin{a b:List Int}{i:Nat}{o:List Int}(h:Fo a b i o 0)(h1:a.length<=i)(h2:b.length<=i):o=Lm a b:=by
 have hv:=h.v;rw[ya h1,ya h2]at hv;have hv:val B9 o+(B9:Int)^i*(0+0+0)=Ar a+Ar b:=hv;rw[show(0+0+0:Int)=0 from rfl,qt,qu]at hv;have ht:=h.top h1 h2;rw[qt,qu, <-h.len]at ht;have hn:nz o:=xF h.d (by
  rcases ht with k|k
  ·exact .inl (z8.1 k)
  ·exact .inr k)
 unfold Lm;rw[<-hv];exact Ia (b:=B9) (by decide) h.d hn
structure Gs(a b:List Int)(i:Nat)(o:List Int)(c:Int):Prop where
 len:o.length=i
 d:Av B9 o
 c01:0<=c/\c<=1
 v:val B9 o+(B9:Int)^i*(val B9 (a.drop i)-val B9 (b.drop i)-c)=Ar a-Ar b
theorem Gs.start(a b:List Int):Gs a b 0 [] 0:=⟨rfl,(fun x hx=>by cases hx),by decide,by
 show 0+(B9:Int)^0*(val B9 a-val B9 b-0)=val B9 a-val B9 b;rw[Int.pow_zero,jd];omega⟩
theorem Gs.step{a b:List Int}{i:Nat}{o:List Int}{c:Int}(h:Gs a b i o c)(ha:A5 a=true)(hb:A5 b=true)(d c':Int)(hd:(a.getD i 0-b.getD i 0-c<0/\d=a.getD i 0-b.getD i 0-c+1000000000/\c'=1)\/(¬a.getD i 0-b.getD i 0-c<0/\d=a.getD i 0-b.getD i 0-c/\c'=0)):
  Gs a b (i+1) (o++[d]) c':=by
 obtain⟨x0,x1⟩:=Bw ha i;obtain⟨y0,y1⟩:=Bw hb i;obtain⟨c0,c1⟩:=h.c01;have hv:=h.v;rw[GM a i,GM b i]at hv;generalize a.getD i 0=x at*;generalize b.getD i 0=y at*;refine⟨by rw[zu,h.len];rfl,E4 h.d (by omega),by omega,?_⟩;rw[B8,h.len,JB,ji, <-Int.mul_add, <-hv];congr 2;omega
theorem Gs.fin{a b:List Int}{o:List Int}{c:Int}(h:Gs a b a.length o c)(hb:A5 b=true)(hle:Ar b<=Ar a):Au o=Gx a b:=by
 have hv:=h.v;rw[List.drop_length]at hv;have h0:=Ay (b:=B9) (by decide) (Ex (Bk hb).2.1 a.length);have hlt:=Bq (b:=B9) (by decide) h.d;rw[h.len]at hlt;obtain⟨c0,c1⟩:=h.c01;have hP:=AL (b:=B9) (by decide) a.length;have hv:val B9 o+(B9:Int)^a.length*(0-val B9 (b.drop a.length)-c)=Ar a-Ar b:=hv;generalize val B9 (b.drop a.length)=z at*;have hz:0-z-c=0:=by
  rcases qv (0-z-c) 0 with k|k
  ·have:=yf (show 0-z-c<= -1 by omega) (yq hP);rw[Int.mul_neg,Int.mul_one]at this;omega
  ·omega
 rw[hz,qt,qu]at hv;unfold Gx;rw[Fj h.d, <-hv];rfl
open Go.Lib
theorem V7(n:Int):rN n=decide (n<0):=rfl
theorem Mu(a:Bool×List Int):(a.1=true->vR a= -Ar a.2)/\(a.1=false->vR a=Ar a.2):=by
 unfold vR;exact⟨fun h=>by rw[wd h],fun h=>by rw[wc (by rw[h];decide)]⟩
theorem NF{neg:Bool}{w:List Int}{n:Int}(hd:Av B9 w)(h0:0<=Ar w)(h1:neg=true->n= -Ar w)(h2:neg=false->n=Ar w):(B6 neg w,Au w)=(rN n,rW n):=by
 refine gM hd ?_ (fun hn=>?_)
 ·rw[Ah];cases neg with
  |true=>have:=h1 rfl;omega
  |false=>have:=h2 rfl;omega
 ·rw[V7];cases neg with
  |true=>have:=h1 rfl;symm;rw[w5];omega
  |false=>have:=h2 rfl;symm;rw[w9];omega
theorem Jg{n:Int}(h:0<=n):Ar (BM n)=n/\Av B9 (BM n):=⟨CP (b:=B9) (by decide) h,E6 (b:=B9) (by decide) n⟩
theorem Zp{a b:Bool×List Int}(ha:CG a=true)(hb:CG b=true)(h:a.1=b.1):(B6 a.1 (Lm a.2 b.2),Au (Lm a.2 b.2))=(Mo a b,Mm a b):=by
 have a0:=(Gz ha).2;have b0:=(Gz hb).2;obtain⟨e1,e2⟩:=Mu a;obtain⟨f1,f2⟩:=Mu b;obtain⟨hv,hd⟩:=Jg (n:=Ar a.2+Ar b.2) (by omega);refine NF hd (by show 0<=Ar (BM _);omega) (fun k=>?_) (fun k=>?_)
 ·rw[e1 k,f1 (by rw[<-h];exact k)];show _= -Ar (BM _);omega
 ·rw[e2 k,f2 (by rw[<-h];exact k)];show _=Ar (BM _);omega
theorem XU{a b:Bool×List Int}(hb:CG b=true)(h:a.1≠b.1)(hl:Ar b.2<=Ar a.2):(B6 a.1 (Gx a.2 b.2),Au (Gx a.2 b.2))=(Mo a b,Mm a b):=by
 have b0:=(Gz hb).2;obtain⟨e1,e2⟩:=Mu a;obtain⟨f1,f2⟩:=Mu b;obtain⟨hv,hd⟩:=Jg (n:=Ar a.2-Ar b.2) (by omega);refine NF hd (by show 0<=Ar (BM _);omega) (fun k=>?_) (fun k=>?_)
 ·rw[e1 k,f2 (by rw[k]at h;cases hb:b.1 with|true=>exact wh hb.symm h|false=>rfl)];show _= -Ar (BM _);omega
 ·rw[e2 k,f1 (by rw[k]at h;cases hb:b.1 with|true=>rfl|false=>exact wh hb.symm h)];show _=Ar (BM _);omega
theorem jV{a b:Bool×List Int}(ha:CG a=true)(h:a.1≠b.1)(hl:Ar a.2<=Ar b.2):(B6 b.1 (Gx b.2 a.2),Au (Gx b.2 a.2))=(Mo a b,Mm a b):=by
 have:=XU ha (fun k=>h k.symm) hl;rw[this];unfold Mo Mm;rw[Int.add_comm]
theorem Z2{a b:Bool×List Int}(ha:CG a=true)(hb:CG b=true):(B6 (a.1 !=b.1) (BM (Ar a.2*Ar b.2)),Au (BM (Ar a.2*Ar b.2)))=(Ho a b,Ha a b):=by
 have a0:=(Gz ha).2;have b0:=(Gz hb).2;obtain⟨e1,e2⟩:=Mu a;obtain⟨f1,f2⟩:=Mu b;have p0:=je a0 b0;obtain⟨hv,hd⟩:=Jg p0;refine NF hd (by omega) (fun k=>?_) (fun k=>?_)
 ·rw[hv];cases h1:a.1<;>cases h2:b.1<;>rw[h1,h2]at k
  ·exact wh k (by decide)
  ·rw[e2 h1,f1 h2,Int.mul_neg]
  ·rw[e1 h1,f2 h2,Int.neg_mul]
  ·exact wh k (by decide)
 ·rw[hv];cases h1:a.1<;>cases h2:b.1<;>rw[h1,h2]at k
  ·rw[e2 h1,f2 h2]
  ·exact wh k (by decide)
  ·exact wh k (by decide)
  ·rw[e1 h1,f1 h2,Int.neg_mul,Int.mul_neg,Int.neg_neg]
theorem ZV{a:Bool×List Int}(ha:CG a=true):(B6 (!a.1) a.2,Au a.2)=(RV a,Sx a):=by
 have a0:=(Gz ha).2;obtain⟨e1,e2⟩:=Mu a;refine NF (Bk (Dp ha).1).2.1 a0 (fun k=>?_) (fun k=>?_)
 ·rw[e2 (by simpa using k)]
 ·rw[e1 (by simpa using k),Int.neg_neg]
theorem mG{w:List Int}{i:Nat}(hl:w.length=i+1):val B9 (w.drop i)=w.getD i 0:=by
 rw[GM,ya (by omega)];show _+1000000000*0=_;omega
theorem Vv{w:List Int}(hw:A5 w=true){i:Nat}(hl:w.length=i+1):HO (w.getD i 0) 1=decDigits (val B9 (w.drop i)).toNat/\0<val B9 (w.drop i):=by
 have g:=Bw hw i;have t:=Sd hw (i:=i) (by omega) (by omega);rw[mG hl];exact⟨OT g.1 (by omega),by omega⟩
theorem Zx{w:List Int}(hw:A5 w=true)(i:Nat)(h0:0<val B9 (w.drop (i+1))):decDigits (val B9 (w.drop (i+1))).toNat++HO (w.getD i 0) 9=decDigits (val B9 (w.drop i)).toNat/\0<val B9 (w.drop i):=by
 have g:=Bw hw i;rw[GM w i,Ys g.1 g.2];generalize val B9 (w.drop (i+1))=V at*;generalize w.getD i 0=x at*;have h:=R8 9 V.toNat x.toNat (by decide) (by omega) (by omega);refine⟨?_,by omega⟩;rw[<-h];congr 1;omega
theorem eP{a:Bool×List Int}(ha:CG a=true)(hne:a.2≠[]):(if a.1=true then 45::decDigits (Ar a.2).toNat else decDigits (Ar a.2).toNat)=GH a:=by
 obtain⟨e1,e2⟩:=Mu a;have h0:0<Ar a.2:=I1 (b:=B9) (by decide) (Bk (Dp ha).1).2.1 (Bk (Dp ha).1).2.2 hne;unfold GH AV itoa;by_cases h:a.1=true
 ·rw[wd h,e1 h,wd (by omega),show(-Ar a.2).natAbs=(Ar a.2).toNat by omega]
 ·have h:a.1=false:=by simpa using h
  rw[wc (by rw[h];decide),e2 h,wc (by omega)]
theorem eB{a:Bool×List Int}(h:a.2=[]):[48]=GH a:=by
 have:vR a=0:=by
  unfold vR;rw[h];split<;>rfl
 unfold GH AV itoa;rw[this,wc (by decide),show(0:Int).toNat=0 from rfl,decDigits_one (by decide)];rfl
theorem Hq{N D:Int}(hD:0<D):0<gI (Ae N) D/\Ae N/gI (Ae N) D=Ae (zk N D).num/\D/gI (Ae N) D=((zk N D).den:Int)/\(N<0↔(zk N D).num<0):=by
 have hs:D.sign=1:=qw hD;have e1:(zk N D).num=N/(yx N D:Int):=by rw[Rat.num_divInt,hs,jd,jl]
 have e2:((zk N D).den:Int)=D/(yx N D:Int):=by
  rw[Rat.den_divInt,wc (Int.ne_of_gt hD),jl,Int.natCast_ediv];rw[y7 (yq hD)]
 have eg:gI (Ae N) D=(yx N D:Int):=by rw[Gr,Ah];rfl
 have hg:0<yx N D:=Int.gcd_pos_of_ne_zero_right _ (by omega);obtain⟨k,hk⟩:(yx N D:Int)∣N:=Int.gcd_dvd_left ..;rw[eg,e1,e2];have hg:(0:Int)<(yx N D:Int):=by omega
 generalize (yx N D:Int)=g at*;have h1:N/g=k:=by rw[hk,qm _ (by omega)]
 have h2:Ae N/g=Ae k:=by
  rw[Ah,Ah,hk,qi,Int.natCast_mul,show((g.natAbs:Nat):Int)=g by omega,qm _ (by omega)]
 refine⟨hg,by rw[h1,h2],rfl,?_⟩;rw[h1];constructor
 ·intro h;rcases qv k 0 with x|x
  ·exact x
  ·have:=je (yq hg) x;omega
 ·intro h;have:=Int.mul_neg_of_pos_of_neg hg h;omega
theorem fS{N D:Int}(hD:0<D){neg:Bool}(hn:neg=rN N):(B6 neg (BM (Ae N/gI (Ae N) D)),Au (BM (Ae N/gI (Ae N) D)))=(rN (zk N D).num,rW (zk N D).num):=by
 obtain⟨_,h1,_,h3⟩:=Hq (N:=N) hD;rw[h1];have a0:=MV (zk N D).num;obtain⟨hv,hd⟩:=Jg a0;refine gM hd hv (fun _=>?_);rw[hn,V7,V7,decide_eq_decide];exact h3
theorem lI{n:Int}(h0:0<=n):BM n=[1]↔n=1:=by
 constructor
 ·intro h;have:=(Jg h0).1;rw[h]at this;exact this.symm
 ·rintro rfl;rfl
theorem Qq{N D:Int}:CZ N D=if (zk N D).den=1 then AV (zk N D).num else AV (zk N D).num++47::AV ((zk N D).den:Int):=by
 unfold CZ AE;split
 ·rfl
 ·rw[show AV ((zk N D).den:Int)=decDigits (zk N D).den from Lib.itoa_nonneg _];rfl
theorem Ux(N D:Int):CZ (-N) (-D)=CZ N D:=by
 unfold CZ;rw[Rat.neg_divInt_neg]
theorem Nv{s:List UInt8}(h:Bj s=true):A6 s=H4 s/\AG s=RR s/\Aj (Ax (A0 s))=true/\Aj (AM (A0 s))=true:=by
 obtain⟨t,_⟩:=DG h;obtain⟨c1,c2,c3⟩:=EF (AP s);obtain⟨p1,p2,p3,p4⟩:=WQ s;obtain⟨i1,i2,i3,i4⟩:=DU (AP s).num;rw[t]at c1 c2 c3;have hB:Aj (AM s)=true:=by
  rw[c2];split
  ·rfl
  ·exact D9 _
 refine⟨?_,?_,?_,?_⟩
 ·unfold A6 H4 Cd;rw[p1, <-p4];unfold A0 preB;by_cases hc:(Ax s).getD 0 0=45
  ·rw[wd hc,wd hc,wd (w4 hc)]
  ·rw[wc hc,wc hc,wc (by rw[w8 hc];decide)]
 ·unfold AG RR Cd;rw[p2,p3,wc (Fi hB)]
 ·rw[p1,c1,i2];exact D9 _
 ·rw[p2];exact hB
theorem F8{s:List UInt8}(h:Bj s=true)(hq:DK s=true):gN s=A6 s/\Uy s=AG s/\ -1000000000<A6 s/\A6 s<1000000000/\0<AG s/\AG s<1000000000:=by
 obtain⟨h1,h2,h3,h4⟩:=Nv h;have hd:0<AG s:=by
  have:=(DE h).2.2.2.2.2.1;have:=(AP s).den_pos;omega
 unfold gN Uy;rw[wd hq,wd hq];unfold DK at hq;rw[zh,zh,w5,w5,w5]at hq;obtain⟨⟨_,l1⟩,l2⟩:=hq;have b1:=Bd h3;have b2:=Bd h4;have m1:(10:Int)^(Ax (A0 s)).length<=10^9:=AH (by decide) l1;have m2:(10:Int)^(AM (A0 s)).length<=10^9:=AH (by decide) l2;refine⟨h1.symm,h2.symm,?_,?_,hd,?_⟩
 ·rw[h1];unfold H4;split<;>omega
 ·rw[h1];unfold H4;split<;>omega
 ·rw[h2];unfold RR;split<;>omega
theorem YO{a b:List UInt8}(ha:Bj a=true)(hb:Bj b=true):GJ a b=CZ (A6 a*AG b+AG a*A6 b) (AG a*AG b)/\GJ a b=CZ (A6 a*AG b+A6 b*AG a) (AG a*AG b):=by
 have d1:AG a≠0:=by
  have:=(DE ha).2.2.2.2.2.1;have:=(AP a).den_pos;omega
 have d2:AG b≠0:=by
  have:=(DE hb).2.2.2.2.2.1;have:=(AP b).den_pos;omega
 have e:GJ a b=CZ (A6 a*AG b+A6 b*AG a) (AG a*AG b):=by
  unfold GJ CZ AP;rw[Rat.divInt_add_divInt _ _ d1 d2]
 exact⟨by rw[e,Int.mul_comm (AG a) (A6 b)],e⟩
theorem Zl{a b:List UInt8}:Gq a b=CZ (A6 a*A6 b) (AG a*AG b):=by
 unfold Gq CZ AP;rw[Rat.divInt_mul_divInt]
theorem YU{a:List UInt8}:lT a=CZ (AG a) (A6 a):=by
 unfold lT CZ AP;rw[Rat.inv_divInt]
end Go.Sp
namespace Go.Sp
theorem UG:∀(f n l:Nat) (acc:List UInt8),(Hm f n l acc).length<=acc.length+f
 |0,_,_,acc=>z6 _
 |f+1,n,l,acc=>by
  unfold Hm;split
  ·omega
  ·have:=UG f (n/10) l (yz (48+n % 10)::acc);rw[zt]at this;omega
theorem OU(n l:Int):(HO n l).length<=64:=by
 have:=UG 64 n.toNat l.toNat [];rw[List.length_nil,Nat.zero_add]at this;exact this
theorem S2{v:Int}{k:Nat}(h:v<(B9:Int)^k)(hk:1<=k):(yb v.toNat).length<=9*k:=by
 rw[Vd]at h;have h4:((10^(9*k):Nat):Int)=(10:Int)^(9*k):=Int.natCast_pow ..;rw[<-h4]at h;refine FO (k:=9*k) ?_ (by omega);have hp:0<10^(9*k):=Nat.pow_pos (by decide);generalize 10^(9*k)=P at*;omega
end Go.Sp
namespace Go.Pe
open Sp
open Go.Det
theorem sD{s:Sh}(hs:s.sz=1){id n:Nat}{tail:Ob}{fz:Bool}{t:TypeId}{o:List s.T}(hn:n=o.length):HZ ⟨0,.leaf,(id,.arr fz t s o)::tail,0⟩ (.list s) (.sl id 1 0 n none)=some (true,o):=by
 subst hn;have h1:AI ((id,Obj.arr fz t s o)::tail) id=some (.arr fz t s o):=by unfold AI;rw[Nat.beq_refl];rfl
 unfold HZ;have h2:Ep ⟨0,.leaf,(id,.arr fz t s o)::tail,0⟩ (PV.cells (.sl id 1 0 o.length none))=some (true,[.dat (.list s) o]):=by
  show(match CF ⟨0,.leaf,(id,.arr fz t s o)::tail,0⟩ (.sl id 1 0 o.length none),some (true,[])with|some (c,x),some (d,xs)=>some (c&&d,x::xs)|_,_=>none)=_;have:CF ⟨0,.leaf,(id,.arr fz t s o)::tail,0⟩ (.sl id 1 0 o.length none)=some (true,.dat (.list s) o):=by
   unfold CF AJ.obj;simp only[h1,hs,Nat.beq_refl,we];simp
  rw[this];rfl
 simp only[Kq,Sh.PN];show(match Ep ⟨0,.leaf,(id,.arr fz t s o)::tail,0⟩ (PV.cells (.sl id 1 0 o.length none))with|some (c,cs)=>_|none=>none)=_;rw[h2];have:C0 (.list s) [PV.dat (.list s) o]=some o:=by
  unfold C0 Cw oI D6;simp
 simp only[N3,this,yj]
theorem oW{s:Sh}(hs:s.sz=1){id n:Nat}{tail:Ob}{fz:Bool}{t:TypeId}{o:List s.T}(hn:n=o.length):OP [.list s] (.sl id 1 0 n none) ((id,.arr fz t s o)::tail)=some (true,o):=sD hs hn
theorem Hn(a:List Int)(i:Nat):HF a (i:Int)=a.getD i 0:=by unfold HF;rw[zg]
theorem kK:DF zZ:=fun g sp h=>by cases h
theorem T229.ok:Ag Bh 229 Vf:=by
 refine B5 kK (fun(i:List Int×Int) hi=>?_);obtain⟨a,i⟩:=i;have h0:0<=i:=w6 hi;have hq:∀v ob,v=HF a i->Ad Vf (a,i) (.dat i64 v) ob:=fun v ob h=>zq rfl rfl h
 refine zl (T229.Al a i) (zf (fun c=>zc (Ab (w4 h0) c) (zd (hq _ _ rfl))) (fun c=>zd (hq _ _ ?_)));have c:=w7 c;unfold HF;rw[yc,yk (by omega)];rfl
theorem Xo:DF US:=Aa T229.ok (Aa T227.ok AN)
theorem Qz{x y c:Int}(hx:0<=x/\x<1000000000)(hy:0<=y/\y<1000000000)(hc:0<=c/\c<=1):
  ze .i64 (ze .i64 (x+y)+c)=x+y+c/\yy (x+y+c) 1000000000=(x+y+c) % 1000000000/\ze .i64 (jj (x+y+c) 1000000000)=(x+y+c)/1000000000:=by
 refine⟨?_,yo (by omega),?_⟩
 ·rw[wr (x+y) (by omega) (by omega)];exact wr _ (by omega) (by omega)
 ·rw[qh (by omega)];exact wr _ (by omega) (by omega)
theorem iO{a b:List Int}(h:iX a b=true):A5 a=true/\A5 b=true/\a.length<=9000/\b.length<=9000:=by
 unfold iX at h;rw[zh,zh,zh,w5,w5]at h;exact⟨h.1.1.1,h.1.1.2,h.1.2,h.2⟩
theorem cQ{a b:List Int}(h1:A5 a=true)(h2:A5 b=true)(h3:a.length<=9000)(h4:b.length<=9000):iX a b=true:=by
 unfold iX;rw[h1,h2,w4 h3,w4 h4];rfl
namespace T169
variable {Q:PV->Ob->Prop}
theorem done(a b o:List Int)(i:Nat)(ha:a.length<=i)(hb:b.length<=i)(hq:Q (.sl 0 1 0 o.length none) [(0,.arr false 3 (.int .i64) o)]):Ends US (L2 a b o.length 0 i o) Q:=
 zi (AZ ..) (zj (w8 (by omega)) (zj (w8 (by omega)) (zj (by decide) (zd hq))))
theorem A2(a b:List Int)(ha:A5 a=true)(hb:A5 b=true)(la:a.length<=9000)(lb:b.length<=9000)(hq:Q (.sl 0 1 0 (Lm a b).length none) [(0,.arr false 3 (.int .i64) (Lm a b))]):∀(k i:Nat) (o:List Int) (c:Int),i+k=max a.length b.length->Fo a b i o c->Ends US (L2 a b o.length c i o) Q:=by
 have stop:∀(i:Nat) (o:List Int),a.length<=i->b.length<=i->Fo a b i o 0->Ends US (L2 a b o.length 0 i o) Q:=fun i o h1 h2 h=>by
  have:=h.fin h1 h2;exact done a b o i h1 h2 (by rw[this];exact hq)
 have next:∀(i:Nat) (o:List Int) (c:Int),i<=9000->Fo a b i o c->(i<a.length\/i<b.length\/0<c->Ends US (L2 a b (o++[(a.getD i 0+b.getD i 0+c) % 1000000000]).length ((a.getD i 0+b.getD i 0+c)/1000000000) ((i+1:Nat):Int) (o++[(a.getD i 0+b.getD i 0+c) % 1000000000])) Q)->Ends US (L2 a b o.length c i o) Q:=fun i o c hi h go=>by
  obtain⟨s1,s2,s3⟩:=Qz (Bw ha i) (Bw hb i) h.c01;have e1:ze .i64 ((i:Int)+1)=((i+1:Nat):Int):=by rw[wr _ (by omega) (by omega)];omega
  have hl:=h.len;have cap:(decide ((1:Nat)<=(1:Nat))&&true&&decide (o.length=o.length)&&decide ((2*(o.length+1)+1000)*8<=281474976710656))=true:=by
   rw[w4 (z6 1),w4 (p:=o.length=o.length) rfl,Bool.and_true,yj];exact w4 (by omega)
  have h0:decide ((0:Int)<=(i:Int))=true:=w4 (by omega);rw[zu]at go;by_cases c1:(i:Int)<(a.length:Int)
  ·refine zi (AZ ..) ?_;conv=>zeta
   rw[Hn,Hn,s1,s2,s3,e1];exact zc (w4 c1) (zc h0 (zc h0 (zc rfl (zc cap (zc rfl (go (.inl (by omega))))))))
  ·by_cases c2:(i:Int)<(b.length:Int)
   ·refine zi (AZ ..) ?_;conv=>zeta
    rw[Hn,Hn,s1,s2,s3,e1];exact zj (w8 c1) (zc (w4 c2) (zc h0 (zc h0 (zc rfl (zc cap (zc rfl (go (.inr (.inl (by omega))))))))))
   ·by_cases c3:c>0
    ·refine zi (AZ ..) ?_;conv=>zeta
     rw[Hn,Hn,s1,s2,s3,e1];exact zj (w8 c1) (zj (w8 c2) (zc (w4 c3) (zc h0 (zc h0 (zc rfl (zc cap (zc rfl (go (.inr (.inr c3))))))))))
    ·obtain rfl:c=0:=by have:=h.c01;omega
     exact stop i o (by omega) (by omega) h
 intro k;induction k with
 |zero=>
  intro i o c hi h;refine next i o c (by omega) h (fun hc=>?_);have h2:=h.step ha hb hc;have z1:a.getD i 0=0:=by rw[yc,yk (by omega)];rfl
  have z2:b.getD i 0=0:=by rw[yc,yk (by omega)];rfl
  have hc0:=h.c01;have z3:(a.getD i 0+b.getD i 0+c)/1000000000=0:=by rw[z1,z2];omega
  rw[z3]at h2 ⊢;exact stop (i+1) _ (by omega) (by omega) h2
 |succ k ih=>
  intro i o c hi h;exact next i o c (by omega) h (fun hc=>ih (i+1) _ _ (by omega) (h.step ha hb hc))
theorem ok:Ag Bh 169 Vs:=by
 refine B5 Xo (fun(i:List Int×List Int) hi=>?_);obtain⟨a,b⟩:=i;obtain⟨ha,hb,la,lb⟩:=iO hi;obtain⟨s1,s2,s3⟩:=Qz (Bw ha 0) (Bw hb 0) (c:=0) (by decide);have h0:=Fo.start a b;have e0:(0:Int)=((0:Nat):Int):=rfl;have go:(0<a.length\/0<b.length)->Ends US (L2 a b 1 ((a.getD 0 0+b.getD 0 0+0)/1000000000) ((1:Nat):Int) [(a.getD 0 0+b.getD 0 0+0) % 1000000000]) (Ad Vs (a,b)):=fun hc=>
  A2 a b ha hb la lb (zq (oW rfl rfl) rfl rfl) (max a.length b.length-1) 1 _ _ (by omega) (h0.step ha hb (by rcases hc with h|h<;>omega))
 refine zl (Al a b) (zi (An ..) ?_);have d1:HF a 0=a.getD 0 0:=rfl;have d2:HF b 0=b.getD 0 0:=rfl;have e1:ze .i64 ((0:Int)+1)=((1:Nat):Int):=rfl;rw[d1,d2,s1,s2,s3,e1];refine zf (fun c=>?_) (fun c1=>zf (fun c=>?_) (fun c2=>zj rfl (zd (zq (y:=[]) rfl rfl ?_))))
 ·exact zc rfl (zc rfl (zc rfl (zc rfl (zc rfl (go (.inl (by have:=w6 c;omega)))))))
 ·exact zc rfl (zc rfl (zc rfl (zc rfl (zc rfl (go (.inr (by have:=w6 c;omega)))))))
 ·have c1:=w7 c1;have c2:=w7 c2;exact h0.fin (by omega) (by omega)
end T169
namespace T171
variable {Q:PV->Ob->Prop}
theorem GV{x y c:Int}(hx:0<=x/\x<1000000000)(hy:0<=y/\y<1000000000)(hc:0<=c/\c<=1):
  ze .i64 (ze .i64 (x-y)-c)=x-y-c/\ze .i64 (x-y-c+1000000000)=x-y-c+1000000000:=by
 refine⟨?_,wr _ (by omega) (by omega)⟩;rw[wr (x-y) (by omega) (by omega)];exact wr _ (by omega) (by omega)
theorem A2(a b:List Int)(ha:A5 a=true)(hb:A5 b=true)(la:a.length<=9000)(hle:Ar b<=Ar a)(hq:∀ob,Q (.dat li (Gx a b)) ob):∀(k i:Nat) (o:List Int) (c:Int),i+k=a.length->Gs a b i o c->Ends US (L2 a b o.length c i o) Q
 |0,i,o,c,hi,h=>by
  have hi:i=a.length:=by omega
  subst hi;have hl:=h.len;refine zi (AZ ..) (zj (w8 (by omega)) ?_);rw[zr (z6 _)];refine zc (Ab (Ab (w4 (by omega)) rfl) (w4 (by omega))) (zd ?_);rw[h.fin hb hle];exact hq _
 |k+1,i,o,c,hi,h=>by
  obtain⟨s1,s2⟩:=GV (Bw ha i) (Bw hb i) h.c01;have e1:ze .i64 ((i:Int)+1)=((i+1:Nat):Int):=by rw[wr _ (by omega) (by omega)];omega
  have hl:=h.len;have cap:(decide ((1:Nat)<=(1:Nat))&&true&&decide (o.length=o.length)&&decide ((2*(o.length+1)+1000)*8<=281474976710656))=true:=by
   rw[w4 (z6 1),w4 (p:=o.length=o.length) rfl,Bool.and_true,yj];exact w4 (by omega)
  refine zi (AZ ..) ?_;conv=>zeta
  rw[Hn,zg,s1,s2,e1];refine zc (w4 (by omega)) (zc (Ab (w4 (by omega)) (w4 (by omega))) (zc (w4 (by omega)) (zf (fun d=>zc cap ?_) (fun d=>zc cap ?_))))
  ·have:=A2 a b ha hb la hle hq k (i+1) _ _ (by omega) (h.step ha hb _ 1 (.inl ⟨w6 d,rfl,rfl⟩));rw[zu]at this;exact this
  ·have:=A2 a b ha hb la hle hq k (i+1) _ _ (by omega) (h.step ha hb _ 0 (.inr ⟨w7 d,rfl,rfl⟩));rw[zu]at this;exact this
theorem ok:Ag Bh 171 VK:=by
 refine B5 Xo (fun(i:List Int×List Int) hi=>?_);obtain⟨a,b⟩:=i;have hi:(iX a b&&decide (Ar b<=Ar a))=true:=hi;rw[zh,w5]at hi;obtain⟨hi,hle⟩:=hi;obtain⟨ha,hb,la,lb⟩:=iO hi;have h0:=Gs.start a b;have hq:∀ob,Ad VK (a,b) (.dat li (Gx a b)) ob:=fun ob=>zq rfl rfl rfl
 refine zl (Al a b) (zi (An ..) ?_);obtain⟨s1,s2⟩:=GV (Bw ha 0) (Bw hb 0) (c:=0) (by decide);have d2:HF b 0=b.getD 0 0:=rfl;have e1:ze .i64 ((0:Int)+1)=((1:Nat):Int):=rfl;rw[d2,show Int.toNat 0=0 from rfl,s1,s2,e1];refine zf (fun c=>?_) (fun c=>?_)
 ·have c1:=w6 c;refine zc (Ab rfl c) (zc rfl (zf (fun d=>zc rfl ?_) (fun d=>zc rfl ?_)))
  ·exact A2 a b ha hb la hle hq (a.length-1) 1 _ _ (by omega) (h0.step ha hb _ 1 (.inl ⟨w6 d,rfl,rfl⟩))
  ·exact A2 a b ha hb la hle hq (a.length-1) 1 _ _ (by omega) (h0.step ha hb _ 0 (.inr ⟨w7 d,rfl,rfl⟩))
 ·have c:=w7 c;have hz:a=[]:=z8.1 (by omega);subst hz;refine zc rfl (zd ?_);rw[Gs.fin h0 hb hle];exact hq _
end T171
theorem Rh:DF yK:=Aa T168.ok (Aa T169.ok (Aa T170.ok (Aa T171.ok (Aa T172.ok (Aa T164.ok AN)))))
theorem KR{n:Int}{k:Nat}(h0:0<=n)(h:n<(y8:Int)^k):(BM n).length<=k:=Ng h0 h
theorem J3{a:Bool×List Int}(h:CG a=true):0<=Ar a.2/\Ar a.2<(y8:Int)^3000:=by
 obtain⟨h1,h2,_⟩:=Dp h;refine⟨(Gz h).2,yr (Bq (b:=y8) (by decide) (Bk h1).2.1) (AH (by decide) h2)⟩
theorem Vz{x y:Int}{k:Nat}(h1:x<(y8:Int)^k)(h2:y<(y8:Int)^k):x+y<(y8:Int)^(k+1):=by
 have:(y8:Int)^(k+1)=(y8:Int)^k*1000000000:=Int.pow_succ ..;have hp:=AL (b:=(y8:Int)) (by decide) k;rw[this];omega
theorem T97.ok:Ag Bh 97 fF:=by
 refine B5 Rh (fun(i:(Bool×List Int)×(Bool×List Int)) hi=>?_);obtain⟨a,b⟩:=i;have hi:(CG a&&CG b)=true:=hi;rw[zh]at hi;obtain⟨ha,hb⟩:=hi;obtain⟨a1,a2,_⟩:=Dp ha;obtain⟨b1,b2,_⟩:=Dp hb;obtain⟨va,wa⟩:=J3 ha;obtain⟨vb,wb⟩:=J3 hb;have pl:=cQ a1 b1 (by omega) (by omega);have pl2:=cQ b1 a1 (by omega) (by omega);refine zl (T97.Al a b) (zf (fun c=>?_) (fun c=>zc (Ab a1 b1) (zf (fun d=>?_) (fun d=>?_))))
 ·have hl:(Lm a.2 b.2).length<=3001:=KR (by omega) (Vz wa wb);exact zc pl (zc (w4 (by omega)) (zd (zq rfl rfl (Zp ha hb (by simpa using c)))))
 ·have hle:Ar b.2<=Ar a.2:=by
   have d:=w6 d;unfold BO at d;split at d
   ·omega
   ·omega
  have hl:(Gx a.2 b.2).length<=3000:=KR (by omega) (by omega);exact zc (Ab pl (w4 hle)) (zc (w4 (by omega)) (zd (zq rfl rfl (XU hb (by simpa using c) hle))))
 ·have hle:Ar a.2<=Ar b.2:=by
   have d:=w7 d;unfold BO at d;split at d
   ·omega
   ·split at d<;>omega
  have hl:(Gx b.2 a.2).length<=3000:=KR (by omega) (by omega);exact zc (Ab pl2 (w4 hle)) (zc (w4 (by omega)) (zd (zq rfl rfl (jV ha (by simpa using c) hle))))
theorem T98.ok:Ag Bh 98 XK:=by
 refine B5 Rh (fun(i:(Bool×List Int)×(Bool×List Int)) hi=>?_);obtain⟨a,b⟩:=i;have hi:(CG a&&CG b)=true:=hi;rw[zh]at hi;obtain⟨ha,hb⟩:=hi;obtain⟨a1,a2,_⟩:=Dp ha;obtain⟨b1,b2,_⟩:=Dp hb;obtain⟨va,wa⟩:=J3 ha;obtain⟨vb,wb⟩:=J3 hb;have hm:Ar a.2*Ar b.2<(y8:Int)^(3000+3000):=by
  rw[Int.pow_add];have hp:(0:Int)<(y8:Int)^3000:=AL (by decide) 3000;exact Int.lt_of_le_of_lt (yf (yq wb) va) (Int.mul_lt_mul_of_pos_right wa hp)
 have hl:=KR (je va vb) hm;exact zl (T98.Al a b) (zc (Ab (QO (by omega) (Bk a1).2.1) (QO (by omega) (Bk b1).2.1)) (zc (w4 (by omega)) (zd (zq rfl rfl (Z2 ha hb)))))
theorem T166.ok:Ag Bh 166 Yn:=by
 refine B5 Rh (fun(a:Bool×List Int) ha=>?_);have ha:CG a=true:=ha;have:=(Dp ha).2.1;exact zl (T166.Al a) (zc (w4 (by omega)) (zd (zq rfl rfl (ZV ha))))
theorem nY:DF yG:=Aa T109.ok AN
namespace T167
variable {Q:PV->Ob->Prop}
theorem Ap(neg:Bool)(w:List Int)(hw:A5 w=true)(hwl:w.length<=3000)(hq:∀ob,Q (.dat .str (if neg=true then 45::yb (Ar w).toNat else yb (Ar w).toNat)) ob):∀(i:Nat),i<=w.length->0<Sp.val y8 (w.drop i)->Ends yG (L1 (yb (Sp.val y8 (w.drop i)).toNat) ((i:Int)-1) neg w) Q:=by
 have hlen:∀i,(yb (Sp.val y8 (w.drop i)).toNat).length<=27000:=fun i=>by
  have h1:=Bq (b:=y8) (by decide) (Ex (Bk hw).2.1 i);have h2:(y8:Int)^(w.drop i).length<=(y8:Int)^3000:=AH (by decide) (by rw[zw];omega);exact S2 (k:=3000) (yr h1 h2) (by decide)
 intro i;induction i with
 |zero=>
  intro _ _;have hl:=hlen 0;rw[List.drop_zero]at hl ⊢;have hl:(yb (Ar w).toNat).length<=27000:=hl;refine zi (An ..) (zj (by decide) (zf (fun c=>zc (w4 (by show 1+(yb (Ar w).toNat).length<=_;omega)) (zd ?_)) (fun c=>zd ?_)))
  ·rw[wd c]at hq;exact hq _
  ·rw[wc (by rw[c];decide)]at hq;exact hq _
 |succ i ih=>
  intro hi h0;have g:=Bw hw i;have e1:(((i+1:Nat):Int)-1)=(i:Int):=by omega
  have hl:=hlen (i+1);have h9:(HO (w.getD i 0) 9).length<=64:=by
   have:=OU (w.getD i 0) 9;exact this
  obtain⟨s1,s2⟩:=Zx hw i h0;rw[e1];refine zi (An ..) ?_;conv=>zeta
  rw[zg,s1,wr ((i:Int)-1) (by omega) (by omega)];exact zc (w4 (by omega)) (zc (Ab (w4 (by omega)) (w4 (by omega))) (zc (Ab (Ab (Ab (w4 g.1) (w4 (by omega))) rfl) rfl) (zc (w4 (by omega)) (ih (by omega) s2))))
theorem ok:Ag Bh 167 VU:=by
 refine B5 nY (fun(a:Bool×List Int) ha=>?_);have ha:CG a=true:=ha;obtain⟨a1,a2,_⟩:=Dp ha;refine zl (Al a) (zf (fun c=>zd (zq rfl rfl (eB ?_))) (fun c=>?_))
 ·exact z8.1 (by have:(a.2.length:Int)=0:=(by simpa using c);omega)
 ·have c:(a.2.length:Int)≠0:=by simpa using c
  obtain⟨i,hi⟩:∃i,a.2.length=i+1:=⟨a.2.length-1,by omega⟩;have g:=Bw a1 i;obtain⟨s1,s2⟩:=Vv a1 hi;have e1:ze .i64 ((a.2.length:Int)-1)=(i:Int):=by rw[wr _ (by omega) (by omega)];omega
  have e2:ze .i64 ((a.2.length:Int)-2)=(i:Int)-1:=by rw[wr _ (by omega) (by omega)];omega
  rw[e1,e2,zg,s1];refine zc (Ab (w4 (by omega)) (w4 (by omega))) (zc (Ab (Ab (Ab (w4 g.1) (w4 (by omega))) rfl) rfl) (Ap a.1 a.2 a1 a2 (fun ob=>zq rfl rfl ?_) i (by omega) s2));exact eP ha (by intro h;rw[h]at hi;cases hi)
end T167
end Go.Pe
namespace Go.Sp
theorem ZY{a k m:Nat}(h:a<10^k)(hk:k<=m):a<10^m:=Nat.lt_of_lt_of_le h (Nat.pow_le_pow_right (by decide) hk)
theorem cB{a b k:Nat}(h1:a<10^k)(h2:b<10^k):a+b<10^(k+1):=by rw[Nat.pow_succ];omega
theorem JH{n:Int}{k:Nat}(h:n.natAbs<10^k)(hk:k<=27000):CG (rN n,rW n)=true:=OH (ZY (m:=27000) h hk)
theorem Jf{m n:Int}(h:CG (rN n,rW n)=true)(hm:m.natAbs<=n.natAbs):CG (rN m,rW m)=true:=by
 have:=uN h;rw[EP]at this;exact OH (qj hm this)
theorem Yg{n:Int}(h:CH n=true):CG (rN n,rW n)=true:=by
 have h:=Go.Pe.Ej h;exact JH (k:=20) (by have:10^20=100000000000000000000:=rfl;omega) (by decide)
theorem TA{n:Int}(h:CG (rN n,rW n)=true):A5 (rW n)=true/\(rW n).length<=3000/\Ae n<(B9:Int)^3000:=by
 obtain⟨h1,h2,_⟩:=Dp h;refine⟨h1,h2,?_⟩;have:=(Go.Pe.J3 h).2;rwa [show Ar (rN n,rW n).2=Ae n from JN n]at this
theorem UR{n:Int}(h:CG (rN n,rW n)=true):(AV n).length<=27001:=by
 have h1:=(TA h).2.2;have h2:=S2 h1 (by decide);have e:(Ae n).toNat=n.natAbs:=by rw[Ah];omega
 rw[e]at h2;unfold AV Lib.itoa;split
 ·rw[zt];omega
 ·rw[show n.toNat=n.natAbs by omega];omega
theorem Pd(n:Int):GH (rN n,rW n)=AV n:=by unfold GH;rw[EP]
theorem Wl{N D:Int}(hD:0<D):jj N (gI (Ae N) D)=(zk N D).num/\jj D (gI (Ae N) D)=((zk N D).den:Int):=by
 have hs:D.sign=1:=qw hD;have eg:gI (Ae N) D=(yx N D:Int):=by rw[Gr,Ah];rfl
 have d1:(yx N D:Int)∣N:=Int.gcd_dvd_left ..;have d2:(yx N D:Int)∣D:=Int.gcd_dvd_right ..;rw[eg,qp d1,qp d2];refine⟨?_,(Hq (N:=N) hD).2.2.1▸?_⟩
 ·rw[Rat.num_divInt,hs,jd,jl]
 ·rw[eg]
theorem Qa(x y:Int):Ho (rN x,rW x) (rN y,rW y)=rN (x*y):=by unfold Ho;rw[EP,EP]
theorem QR(x y:Int):Ha (rN x,rW x) (rN y,rW y)=rW (x*y):=by unfold Ha;rw[EP,EP]
theorem fH(x y:Int):Mo (rN x,rW x) (rN y,rW y)=rN (x+y):=by unfold Mo;rw[EP,EP]
theorem dP(x y:Int):Mm (rN x,rW x) (rN y,rW y)=rW (x+y):=by unfold Mm;rw[EP,EP]
theorem Of(x y:Int):HK (rN x,rW x) (rN y,rW y)=CZ x y:=by unfold HK;rw[EP,EP]
theorem neg_num(x:Rat):(x.num<0↔x<0)/\(x.num>0↔0<x):=by
 rw[Rat.lt_iff,Rat.lt_iff];have:(0:Rat).num=0:=rfl;have h1:((0:Rat).den:Int)=1:=rfl;rw[this,h1];omega
end Go.Sp
namespace Go.Pe
open Sp
open Go.Det
theorem nI:DF iY:=Aa T166.ok (Aa T92.ok (Aa T164.ok (Aa T168.ok (Aa T167.ok AN))))
namespace T96
variable {Q:PV->Ob->Prop}
theorem CY(n d:Int)(hn:CG (yp n,yg n)=true)(hd:CG (yp d,yg d)=true)(d0:0<=d)(hq:∀ob,Q (.dat .str (AV n++47::AV d)) ob):Ends iY (L3 (BM d) (AV n)) Q:=by
 have l1:=UR hn;have l2:=UR hd;have e:yg d=BM d:=by unfold yg;rw[Ah,y7 d0]
 have l3:=(TA hd).2.1;rw[e]at l3;obtain⟨hv,hg⟩:=Jg d0;have hp:(B6 false (BM d),Au (BM d))=(yp d,yg d):=NF hg (by omega) (fun k=>(by cases k)) (fun _=>hv.symm);refine zi (CU ..) ?_;conv=>zeta
 rw[hp,Pd];refine zc (w4 (by omega)) (zc (w4 (by omega)) (zc hd (zc (w4 (by rw[zu,yv];omega)) (zd ?_))));rw[List.append_assoc];exact hq _
theorem A2(n d:Int)(hn:CG (yp n,yg n)=true)(hd:CG (yp d,yg d)=true)(d0:0<d)(hq1:d=1->∀ob,Q (.dat .str (AV n)) ob)(hq:d≠1->∀ob,Q (.dat .str (AV n++47::AV d)) ob):Ends iY (L2 (BM d) (AV n)) Q:=by
 have h1:=lI (n:=d) (by omega);by_cases h:d=1
 ·rw[h1.2 h];exact zi (AZ ..) (zc rfl (zc rfl (zc rfl (zd (hq1 h _)))))
 ·have h3:=CY n d hn hd (by omega) (hq h);refine zi (AZ ..) (zf (fun c=>zc ?_ (zf (fun e=>?_) (fun _=>h3))) (fun _=>h3))
  ·have c:((BM d).length:Int)=1:=by simpa using c
   exact w4 (by omega)
  ·exfalso;have c:((BM d).length:Int)=1:=by simpa using c
   have e:(BM d).getD 0 0=1:=by simpa using e
   refine h (h1.1 ?_);cases hl:BM d with
   |nil=>rw[hl]at c;cases c
   |cons x r=>
    rw[hl]at c e;have hr:r=[]:=z8.1 (by have:((r.length+1:Nat):Int)=1:=c;omega);have e:x=1:=e;rw[hr,e]
theorem Ap(N D:Int)(hN:CG (yp N,yg N)=true)(hD:CG (yp D,yg D)=true)(h0:0<D)(hq:∀ob,Q (.dat .str (CZ N D)) ob):Ends iY (L1 (yp D) (yg D) (yp N) (yg N)) Q:=by
 obtain⟨n1,n2,n3⟩:=TA hN;obtain⟨d1,d2,d3⟩:=TA hD;obtain⟨g0,f1,f2,f3⟩:=Hq (N:=N) h0;have eD:Ae D=D:=by rw[Ah,y7 (yq h0)]
 have ec:Ci (yg N) (yg D)=BM (Sp.gI (Ae N) D):=by
  unfold Ci;rw[JN,JN,eD]
 have gd:Sp.gI (Ae N) D<=D:=by
  have eg:Sp.gI (Ae N) D=(yx N D:Int):=by rw[Gr,Ah];rfl
  rw[eg];exact Int.le_of_dvd h0 (Int.gcd_dvd_right ..)
 have fn:=fS h0 (neg:=yp N) rfl;have nn:(zk N D).num.natAbs<=N.natAbs:=(GU (n:=N) (d:=D) (by omega)).1;have dd:(zk N D).den<=D.natAbs:=(GU (n:=N) (d:=D) (by omega)).2;have FC:=Jf (m:=(zk N D).num) hN nn;have okD:=Jf (m:=((zk N D).den:Int)) hD (by rw[qk];exact dd);have lg:Ae (zk N D).num<(y8:Int)^3000:=(TA FC).2.2;have ft:=Qq (N:=N) (D:=D);have dp:=(zk N D).den_pos;have a0:=MV (zk N D).num;rw[eD]at d3;refine zi (An ..) ?_;conv=>zeta
 rw[ec,JN,JN,eD];generalize Sp.gI (Ae N) D=g at*;have fg:=GI (n:=g) (k:=3000) (by omega) (by omega) (by decide);rw[fg.2.2.1,fn,f1,f2,Pd];have ll:=KR a0 lg;refine zc (Ab (Ab (Ab n1 d1) (w4 (by omega))) (w4 (by omega))) (zc (Ab (Ab (Ab (Ab n1 fg.1) (w4 (by omega))) (w4 (by omega))) (w4 g0)) (zc (Ab (Ab (Ab (Ab d1 fg.1) (w4 (by omega))) (w4 (by omega))) (w4 g0)) (zc (w4 (by omega)) (zc FC (A2 _ _ FC okD (by omega) (fun h ob=>?_) (fun h ob=>?_))))))
 ·have:=hq ob;rw[ft,wd (by omega)]at this;exact this
 ·have:=hq ob;rw[ft,wc (by omega)]at this;exact this
theorem ok:Ag Bh 96 LP:=by
 refine B5 nI (fun(i:(Bool×List Int)×(Bool×List Int)) hi=>?_);obtain⟨a,b⟩:=i;have hi:(CG a&&CG b&&decide (jm b≠0))=true:=hi;rw[zh,zh,w5]at hi;obtain⟨⟨ha,hb⟩,h0⟩:=hi;have ea:=pQ ha;have eb:=pQ hb;have hq:∀ob,Ad LP (a,b) (.dat .str (CZ (jm a) (jm b))) ob:=fun ob=>zq rfl rfl rfl
 have ha2:=ha;have hb2:=hb;rw[ea]at ha2;rw[eb]at hb2;refine zl (Al a b) (zf (fun c=>zc ha (zc hb ?_)) (fun c=>?_))
 ·have hneg:jm b<0:=by
   have:=OX hb;rw[c]at this;exact w6 this.symm
  have:=Ap (Q:=Ad LP (a,b)) (-jm a) (-jm b) (Jf ha2 (by rw[Int.natAbs_neg];exact z6 _)) (Jf hb2 (by rw[Int.natAbs_neg];exact z6 _)) (by omega) (fun ob=>by rw[Ux];exact hq ob);exact this
 ·have hpos:0<jm b:=by
   have:=OX hb;rw[c]at this;have:=w7 this.symm;omega
  have:=Ap (Q:=Ad LP (a,b)) (jm a) (jm b) ha2 hb2 hpos hq;rw[<-OX ha, <-sS ha, <-OX hb, <-sS hb]at this;exact this
end T96
theorem mF:DF ZS:=Aa T107.ok (Aa T96.ok (Aa T108.ok (Aa T109.ok AN)))
namespace T36
variable {Q:PV->Ob->Prop}
theorem Uj{n:Int}(h1: -9000000000000000000<=n)(h2:n<=9000000000000000000):imax n (ze .i64 (0-n))=Ae n:=by
 rw[wr _ (by omega) (by omega)];unfold imax Ae;split<;>split<;>omega
theorem BP(n d:Int)(v:List UInt8)(hv:v=AV n)(hl:v.length<=27001)(d0:0<d)(d1:d<9000000000000000000)(hq1:d=1->∀ob,Q (.dat .str (AV n)) ob)(hq:d≠1->∀ob,Q (.dat .str (AV n++47::AV d)) ob):Ends ZS (L4 d v) Q:=by
 have h9:=OU d 1;have e:HO d 1=AV d:=by
  rw[OT (by omega) (by omega)];unfold AV Lib.itoa;rw[wc (by omega)]
 refine zi (Ct ..) (zf (fun c=>zc (w4 (by omega)) (zc (Ab (Ab (Ab (w4 (by omega)) (w4 (by omega))) rfl) rfl) (zc (w4 (by rw[zu,yv];omega)) (zd ?_)))) (fun c=>zd ?_))
 ·have c:=w6 c;rw[hv,e,List.append_assoc];exact hq (by omega) _
 ·have c:=w7 c;rw[hv];exact hq1 (by omega) _
theorem CY(n d:Int)(n1: -9000000000000000000<n)(n2:n<9000000000000000000)(d0:0<d)(d1:d<9000000000000000000)(hq1:d=1->∀ob,Q (.dat .str (AV n)) ob)(hq:d≠1->∀ob,Q (.dat .str (AV n++47::AV d)) ob):Ends ZS (L3 n d) Q:=by
 have h9:=OU (Ae n) 1;have ha:=Ah n;have e:HO (Ae n) 1=yb n.natAbs:=by
  rw[OT (by omega) (by omega)];congr 1;omega
 have ei:=ZJ n;refine zi (CU ..) ?_;conv=>zeta
 rw[Uj (by omega) (by omega)];have hr:(decide (0<=Ae n)&&decide (Ae n<9223372036854775808)&&decide ((0:Int)<=1)&&decide ((1:Int)<=20))=true:=Ab (Ab (Ab (w4 (by omega)) (w4 (by omega))) rfl) rfl;refine zf (fun c=>zc hr (zc (w4 (by omega)) (BP n d _ ?_ ?_ d0 d1 hq1 hq))) (fun c=>zc hr (zc (w4 (by omega)) (BP n d _ ?_ ?_ d0 d1 hq1 hq)))
 ·have c:=w6 c;rw[wd c]at ei;rw[e];exact ei.symm
 ·rw[zu,yv];omega
 ·have c:=w7 c;rw[wc c]at ei;rw[e];exact ei.symm
 ·rw[List.nil_append];omega
theorem A2(n d:Int)(n1: -9000000000000000000<n)(n2:n<9000000000000000000)(d0:0<d)(d1:d<9000000000000000000)(hq:∀ob,Q (.dat .str (CZ n d)) ob):Ends ZS (L2 n d) Q:=by
 obtain⟨g0,_⟩:=Hq (N:=n) d0;obtain⟨q1,q2⟩:=Wl (N:=n) d0;obtain⟨l1,l2⟩:=GU (n:=n) (d:=d) (by omega);have ha:=Ah n;have dp:=(zk n d).den_pos;have ft:=Qq (N:=n) (D:=d);refine zi (AZ ..) ?_;conv=>zeta
 rw[Uj (by omega) (by omega),q1,q2,wr _ (by omega) (by omega),wr _ (by omega) (by omega)];have hg:decide (Sp.gI (Ae n) d≠0)=true:=w4 (by omega);refine zc (Ab (Ab (Ab (w4 (by omega)) (w4 (by omega))) (w4 (by omega))) (w4 (by omega))) (zc hg (zc hg (CY _ _ (by omega) (by omega) (by omega) (by omega) (fun h ob=>?_) (fun h ob=>?_))))
 ·have:=hq ob;rw[ft,wd (by omega)]at this;exact this
 ·have:=hq ob;rw[ft,wc (by omega)]at this;exact this
theorem ok:Ag Bh 36 eE:=by
 refine B5 mF (fun(i:Int×Int) hi=>?_);obtain⟨n,d⟩:=i;have hi:(CH n&&CH d&&decide (d≠0))=true:=hi;rw[zh,zh,w5]at hi;obtain⟨⟨hn,hd⟩,h0⟩:=hi;have hq:∀ob,Ad eE (n,d) (.dat .str (CZ n d)) ob:=fun ob=>zq rfl rfl rfl
 have slow:(CG (yp n,yg n)&&CG (yp d,yg d)&&decide (jm (yp d,yg d)≠0))=true:=Ab (Ab (Yg hn) (Yg hd)) (by rw[EP];exact w4 h0);refine zl (Al n d) ?_;conv=>zeta
 rw[Of];refine zf (fun _=>zc hn (zc hd (zc slow (zd (hq _))))) (fun c1=>zf (fun _=>zc hn (zc hd (zc slow (zd (hq _))))) (fun c2=>zf (fun _=>zc hn (zc hd (zc slow (zd (hq _))))) (fun c3=>zf (fun _=>zc hn (zc hd (zc slow (zd (hq _))))) (fun c4=>?_))));have c1:=w7 c1;have c2:=w7 c2;have c3:=w7 c3;have c4:=w7 c4;refine zi (An ..) (zf (fun c=>?_) (fun c=>?_))
 ·have c:=w6 c;rw[wr (0-n) (by omega) (by omega),wr (0-d) (by omega) (by omega),jk,jk];exact A2 (-n) (-d) (by omega) (by omega) (by omega) (by omega) (fun ob=>by rw[Ux];exact hq ob)
 ·have c:=w7 c;exact A2 n d (by omega) (by omega) (by omega) (by omega) hq
end T36
namespace T95
theorem zE{Q:PV->Ob->Prop}(s:List UInt8)(neg:Bool)(hl:s.length<=20)(h:9<(Ax s).length\/9<(ym s).length)(hq:∀ob,Q (.tup [.dat i64 0,.dat i64 0,.bl false]) ob):Ends M8 (L3 s neg) Q/\Ends M8 (L4 s) Q:=by
 obtain⟨c1,c2,c3⟩:=BD s;have es:AU s=((Ax s).length:Int):=rfl;have hle:=(jc s).1;have hB:9<(ym s).length->(s.length:Int)-(Ax s).length>10:=fun h=>by
  cases hc:Bm s with
  |true=>
   have k2:=wi List.length (c2 hc).2;rw[zw]at k2;omega
  |false=>rw[(c3 hc).2]at h;cases h
 refine⟨zi (CU ..) (zc (w4 (by omega)) (zf (fun _=>zd (hq _)) (fun c=>?_))),zi (Ct ..) (zc (w4 (by omega)) (zf (fun _=>zd (hq _)) (fun c=>?_)))⟩
 ·have c:=w7 c;rw[es]at c;have hb:=hB (by omega);refine zc ?_ (zd (hq _));rw[es,wr _ (by omega) (by omega)];exact w4 hb
 ·have c:=w7 c;rw[es]at c;have hb:=hB (by omega);refine zc ?_ (zd (hq _));rw[es,wr _ (by omega) (by omega)];exact w4 hb
theorem okG:Ag Bh 95 MX:=by
 refine B5 pE (fun(a:List UInt8) ha=>?_);obtain⟨_,_,da,db⟩:=Nv ha;by_cases hqk:DK a=true
 ·have hq:∀n ob,n=H4 a->Ad MX a (.tup [.dat i64 n,.dat i64 (if Bm (A0 a)=true then Az 0 (ym (A0 a))else 1),.bl true]) ob:=fun n ob h=>zq rfl rfl (by
   show(n,_,true)=(gN a,Uy a,DK a);unfold gN Uy;rw[wd hqk,wd hqk,hqk,h];rfl)
  unfold DK at hqk;rw[zh,zh,w5,w5,w5]at hqk;obtain⟨⟨hl,la⟩,lb⟩:=hqk;clear ha;refine zl (Al a) (zj (by simp;omega) ?_);cases a with
  |nil=>exact zj rfl (zi (AZ ..) (BP [] hl la lb da db (fun n ob h=>hq n ob (by rw[h];rfl))))
  |cons c r=>
   have g0:(c::r).getD 0 0=c:=rfl;rw[g0];refine zc (by simp) (zc (by simp) (zi (An ..) (zf (fun d=>zc (by simp) ?_) (fun d=>?_))))
   ·have hc:c=45:=by
     have:(c.toNat:Int)=45:=by simpa using d
     exact qd.1 (by show _=45;omega)
    have ep:A0 (c::r)=r:=by unfold A0;rw[g0,wd hc];rfl
    have eb:Sp.preB (c::r)=true:=by unfold Sp.preB;rw[g0];exact w4 hc
    have et:qo (yh (c::r).length 1) (jh 1 (c::r))=r:=zr (z6 _);unfold H4 at hq;rw[ep]at la lb da db hq;rw[eb]at hq;rw[et,d];exact CY r true (by rw[zt]at hl;omega) la lb da db (fun n ob h=>hq _ ob (by rw[h];try rfl))
   ·have hc:c≠45:=by rintro rfl;exact wh d (by decide)
    have ep:A0 (c::r)=c::r:=by unfold A0;rw[g0,wc hc]
    have eb:Sp.preB (c::r)=false:=by unfold Sp.preB;rw[g0];exact w8 hc
    unfold H4 at hq;rw[ep]at la lb da db hq;rw[eb]at hq;rw[d];exact CY (c::r) false hl la lb da db (fun n ob h=>hq _ ob (by rw[h];try rfl))
 ·have hf:DK a=false:=by simpa using hqk
  have hq:∀ob,Ad MX a (.tup [.dat i64 0,.dat i64 0,.bl false]) ob:=fun ob=>zq rfl rfl (by
   show((0:Int),(0:Int),false)=(gN a,Uy a,DK a);unfold gN Uy;rw[wc hqk,wc hqk,hf])
  refine zl (Al a) (zf (fun _=>zd (hq _)) (fun hl=>?_));have hl:a.length<=20:=by have:=w7 hl;omega
  have h9:9<(Ax (A0 a)).length\/9<(ym (A0 a)).length:=by
   by_cases h1:(Ax (A0 a)).length<=9
   ·by_cases h2:(ym (A0 a)).length<=9
    ·exact wh (by unfold DK;rw[w4 hl,w4 h1,w4 h2];rfl) hqk
    ·exact .inr (by omega)
   ·exact .inl (by omega)
  cases a with
  |nil=>exact zj rfl (zi (AZ ..) (zE [] false hl h9 hq).2)
  |cons c r=>
   have g0:(c::r).getD 0 0=c:=rfl;rw[g0];refine zc (by simp) (zc (by simp) (zi (An ..) (zf (fun d=>zc (by simp) ?_) (fun d=>?_))))
   ·have hc:c=45:=by
     have:(c.toNat:Int)=45:=by simpa using d
     exact qd.1 (by show _=45;omega)
    have ep:A0 (c::r)=r:=by unfold A0;rw[g0,wd hc];rfl
    have et:qo (yh (c::r).length 1) (jh 1 (c::r))=r:=zr (z6 _);rw[ep]at h9;rw[et];exact(zE r _ (by rw[zt]at hl;omega) h9 hq).1
   ·have hc:c≠45:=by rintro rfl;exact wh d (by decide)
    have ep:A0 (c::r)=c::r:=by unfold A0;rw[g0,wc hc]
    rw[ep]at h9;exact(zE (c::r) _ hl h9 hq).1
end T95
theorem RB:DF pG:=Aa T95.okG (Aa T36.ok (Aa (T91.ok) (Aa T97.ok (Aa T98.ok (Aa T96.ok AN)))))
theorem UB{x y:Int}(h1: -1000000000<x)(h2:x<1000000000)(h3: -1000000000<y)(h4:y<1000000000): -1000000000000000000<=x*y/\x*y<=1000000000000000000:=by
 have h:(x*y).natAbs<=1000000000*1000000000:=by
  rw[qi];exact Nat.mul_le_mul (by omega) (by omega)
 omega
theorem T27.ok:Ag Bh 27 P4:=by
 refine B5 RB (fun(i:List UInt8×List UInt8) hi=>?_);obtain⟨a,b⟩:=i;have hi:(Bj a&&Bj b)=true:=hi;rw[zh]at hi;obtain⟨ha,hb⟩:=hi;obtain⟨a1,a2,a3,a4,a5,a6,a7,a8,a9⟩:=DE ha;obtain⟨b1,b2,b3,b4,b5,b6,b7,b8,b9⟩:=DE hb;have ad:=(AP a).den_pos;have bd:=(AP b).den_pos;have eq:=(YO ha hb).2;have hq:∀ob,Ad P4 (a,b) (.dat .str (CZ (A6 a*AG b+A6 b*AG a) (AG a*AG b))) ob:=fun ob=>zq rfl rfl eq.symm
 have slow:Ends pG (T27.L1 a b) (Ad P4 (a,b)):=by
  have e1:Bz a=yp (A6 a):=rfl;have e2:Br a=yg (A6 a):=rfl;have e3:Bi a=yp (AG a):=rfl;have e4:Be a=yg (AG a):=rfl;have e5:Bz b=yp (A6 b):=rfl;have e6:Br b=yg (A6 b):=rfl;have e7:Bi b=yp (AG b):=rfl;have e8:Be b=yg (AG b):=rfl;rw[e1,e2]at a1;rw[e3,e4]at a3;rw[e5,e6]at b1;rw[e7,e8]at b3;refine zi (T27.An ..) ?_;conv=>zeta
  simp only[e1,e2,e3,e4,e5,e6,e7,e8,Qa,QR,fH,dP,Of,EP];have m1:=Dz a8 b9;have m2:=Dz b8 a9;have m3:=Dz a9 b9;rw[<-qi]at m1 m2 m3;have m4:=qj (Int.natAbs_add_le (A6 a*AG b) (A6 b*AG a)) (cB (k:=4000+4000) m1 m2);have k1:=JH m1 (by decide);have k2:=JH m2 (by decide);have k3:=JH m3 (by decide);have k4:=JH m4 (by decide);have k5:AG a*AG b≠0:=qe (by omega) (by omega);exact zc a7 (zc b7 (zc (Ab a1 b3) (zc (Ab b1 a3) (zc (Ab k1 k2) (zc (Ab a3 b3) (zc (Ab (Ab k4 k3) (w4 k5)) (zd (hq _))))))))
 refine zl (T27.Al a b) (zc ha (zc hb (zf (fun qa=>zf (fun qb=>?_) (fun _=>slow)) (fun _=>slow))));obtain⟨x1,x2,x3,x4,x5,x6⟩:=F8 ha qa;obtain⟨y1,y2,y3,y4,y5,y6⟩:=F8 hb qb;have p1:=UB x3 x4 (by omega) y6;have p2:=UB y3 y4 (by omega) x6;have p3:=UB (by omega) x6 (by omega) y6;have p4:AG a*AG b≠0:=qe (by omega) (by omega);rw[x1,x2,y1,y2,wr (A6 a*AG b) (by omega) (by omega),wr (A6 b*AG a) (by omega) (by omega),wr (A6 a*AG b+A6 b*AG a) (by omega) (by omega),wr (AG a*AG b) (by omega) (by omega)];exact zc (Ab (Ab (Dg (by omega) (by omega)) (Dg (by omega) (by omega))) (w4 p4)) (zd (hq _))
theorem T29.ok:Ag Bh 29 OA:=by
 refine B5 RB (fun(i:List UInt8×List UInt8) hi=>?_);obtain⟨a,b⟩:=i;have hi:(Bj a&&Bj b)=true:=hi;rw[zh]at hi;obtain⟨ha,hb⟩:=hi;obtain⟨a1,a2,a3,a4,a5,a6,a7,a8,a9⟩:=DE ha;obtain⟨b1,b2,b3,b4,b5,b6,b7,b8,b9⟩:=DE hb;have ad:=(AP a).den_pos;have bd:=(AP b).den_pos;have hq:∀ob,Ad OA (a,b) (.dat .str (CZ (A6 a*A6 b) (AG a*AG b))) ob:=fun ob=>zq rfl rfl (Zl).symm
 have slow:Ends pG (T29.L1 a b) (Ad OA (a,b)):=by
  have e1:Bz a=yp (A6 a):=rfl;have e2:Br a=yg (A6 a):=rfl;have e3:Bi a=yp (AG a):=rfl;have e4:Be a=yg (AG a):=rfl;have e5:Bz b=yp (A6 b):=rfl;have e6:Br b=yg (A6 b):=rfl;have e7:Bi b=yp (AG b):=rfl;have e8:Be b=yg (AG b):=rfl;rw[e1,e2]at a1;rw[e3,e4]at a3;rw[e5,e6]at b1;rw[e7,e8]at b3;refine zi (T29.An ..) ?_;conv=>zeta
  simp only[e1,e2,e3,e4,e5,e6,e7,e8,Qa,QR,Of,EP];have m1:=Dz a8 b8;have m3:=Dz a9 b9;rw[<-qi]at m1 m3;have k1:=JH m1 (by decide);have k3:=JH m3 (by decide);have k5:AG a*AG b≠0:=qe (by omega) (by omega);exact zc a7 (zc b7 (zc (Ab a1 b1) (zc (Ab a3 b3) (zc (Ab (Ab k1 k3) (w4 k5)) (zd (hq _))))))
 refine zl (T29.Al a b) (zc ha (zc hb (zf (fun qa=>zf (fun qb=>?_) (fun _=>slow)) (fun _=>slow))));obtain⟨x1,x2,x3,x4,x5,x6⟩:=F8 ha qa;obtain⟨y1,y2,y3,y4,y5,y6⟩:=F8 hb qb;have p1:=UB x3 x4 y3 y4;have p3:=UB (by omega) x6 (by omega) y6;have p4:AG a*AG b≠0:=qe (by omega) (by omega);rw[x1,x2,y1,y2,wr _ (by omega) (by omega),wr (AG a*AG b) (by omega) (by omega)];exact zc (Ab (Ab (Dg (by omega) (by omega)) (Dg (by omega) (by omega))) (w4 p4)) (zd (hq _))
theorem T94.ok:Ag Bh 94 pL:=by
 refine B5 RB (fun(a:List UInt8) hi=>?_);obtain⟨hs,h0⟩:=tI hi;obtain⟨a1,a2,a3,a4,a5,a6,a7,a8,a9⟩:=DE (Rq hs).1;refine zl (T94.Al a) (zc a7 (zc (Ab (Ab a3 a1) ?_) (zd (zq rfl rfl ?_))))
 ·rw[a2];exact w4 fun e=>h0 (Rat.num_eq_zero.mp (by rw[a5,e]))
 ·show HK _ _=lT a;unfold HK;rw[a2,a4];exact YU.symm
theorem kP:DF XR7:=Aa T94.ok (Aa T29.ok (Aa T27.ok (Aa T99.ok AN)))
theorem fD{s:List UInt8}(h:VL s=true):Bj (K2 s)=true/\AP (K2 s)= -AP s:=by
 obtain⟨h1,h2⟩:=Rq h;obtain⟨t,_⟩:=DG h1;have e:K2 s=AE (-AP s):=by
  have:=dH (AP s);rwa [t]at this
 have r:AP (K2 s)= -AP s:=by rw[e,CB]
 refine⟨?_,r⟩;have hl:(K2 s).length<=4000:=by
  unfold K2;split
  ·omega
  ·split
   ·rw[zw];omega
   ·rw[zt];omega
 unfold Bj;rw[r, <-e,w4 rfl,w4 hl];rfl
theorem T28.ok:Ag Bh 28 qL:=by
 refine B5 kP (fun(i:List UInt8×List UInt8) hi=>?_);obtain⟨a,b⟩:=i;have hi:(Bj a&&VL b)=true:=hi;rw[zh]at hi;obtain⟨ha,hb⟩:=hi;obtain⟨n1,n2⟩:=fD hb;have hl:=(Rq hb).2;refine zl (T28.Al a b) (zc (w4 (by omega)) (zc (Ab ha n1) (zd (zq rfl rfl ?_))));show GJ a (K2 b)=tE a b;unfold GJ tE;rw[n2,Rat.sub_eq_add_neg]
theorem XV:DF zN:=Aa T28.ok (Aa T41.ok (Aa T89.ok (Aa T100.ok (Aa T101.ok (Aa T102.ok AN)))))
theorem T43.ok:Ag Bh 43 WN:=by
 refine B5 XV (fun(a:List UInt8) ha=>?_);refine zl (T43.Al a) (zc ha (zd (zq rfl rfl ?_)));show(AU a==(a.length:Int))=H5 a;obtain⟨c1,c2,c3⟩:=BD a;have es:AU a=((Ax a).length:Int):=rfl;unfold H5;cases hc:Bm a with
 |false=>rw[es,(c3 hc).1];simp
 |true=>
  obtain⟨k1,k2⟩:=c2 hc;rw[es];simp;omega
theorem T93.ok:Ag Bh 93 M5:=by
 refine B5 XV (fun(a:List UInt8) ha=>?_);have hl:a.length<=1000000:=w6 ha;have hc:=(jc a).1;have hq:∀v ob,v=DN a->Ad M5 a (.dat i64 v) ob:=fun v ob h=>zq rfl rfl h
 unfold DN at hq;refine zl (T93.Al a) (zc ha (zc (w4 (by omega)) (zf (fun c=>zd (hq _ _ ?_)) (fun c=>zc ha (zf (fun d=>zd (hq _ _ ?_)) (fun d=>zd (hq _ _ ?_)))))))
 ·have c:=w6 c;rw[wd (.inl (by omega))]
 ·have d:=w6 d;rw[wd (.inr (by omega))]
 ·have c:=w7 c;have d:=w7 d;rw[wc (by omega)]
theorem Z4{n:Int}:Sp.Rv n<=0↔n<=0:=by
 unfold Sp.Rv;split
 ·omega
 ·split<;>omega
theorem U7(n:Int):zk n 1=(n:Rat):=by
 have:=Rat.num_divInt_den (n:Rat);rw[Rat.num_intCast,Rat.den_intCast]at this;exact this
theorem jW:DF zX:=Aa T29.ok AN
theorem T44.ok:Ag Bh 44 pH:=by
 refine B5 jW (fun(a:List UInt8) ha=>?_);exact zl (T44.Al a) (zc (Ab ha (Sp.XO.num (by decide))) (zd (zq rfl rfl rfl)))
section
open List Int Prod
namespace T23
def T(l:List Int):Tr:=tree xG false 9 23 (Af ([qf i64]) l)
def L1(v0:List Int)(v3:Int):Tr:=re ((T [])) (AA 19 [(0,.dat (qf i64) v0),(3,.dat i64 v3)] [] 0)
theorem Al(l:List Int):T l=L1 l 0:=by kernel_rfl
theorem An(v0:List Int)(v3:Int):stepT xG (L1 v0 v3)=let a':=decide (v3<(length v0:Int));.ite (a') (.ite (decide (0<=v3)&&a') (.ite (getD v0 (toNat v3) 0 !=0) (.ite (decide (0<=v3)&&a') (.leaf (.dat i64 (getD v0 (toNat v3) 0)) []) .fail) (L1 v0 (ze .i64 (v3+1)))) .fail) (.leaf (.dat i64 (0:Int)) []):=by kernel_rfl
end T23
end
namespace T23
theorem loop{Q:PV->Ob->Prop}(l:List Int)(hl:l.length<=1000000):∀(r:List Int) (i:Nat),l.drop i=r->i<=l.length->(∀ob,Q (.dat i64 (y9 r)) ob)->Ends xG (L1 l (i:Int)) Q
 |[],i,h,hi,hq=>by
  have:=drop_nil h hi;exact zi (An ..) (zj (w8 (by omega)) (zd (hq _)))
 |x::r,i,h,hi,hq=>by
  obtain⟨g1,g2,g3⟩:=drop_cons (d:=(0:Int)) h;have e1:ze .i64 ((i:Int)+1)=((i+1:Nat):Int):=by rw[wr _ (by omega) (by omega)];omega
  have ef:y9 (x::r)=if x≠0 then x else y9 r:=rfl
  rw[ef]at hq;have hc:(decide ((0:Int)<=(i:Int))&&decide ((i:Int)<(l.length:Int)))=true:=Ab (w4 (by omega)) (w4 (by omega));refine zi (An ..) ?_;conv=>zeta
  rw[zg,g2,e1];refine zc (w4 (by omega)) (zc hc (zf (fun c=>?_) (fun c=>loop l hl r (i+1) g3 g1 ?_)))
  ·have c:x≠0:=by simpa using c
   rw[wd c]at hq;exact zc hc (zd (hq _))
  ·have c:x=0:=by simpa using c
   rw[wc (by rw[c];decide)]at hq;exact hq
theorem ok:Ag Bh 23 JL:=by
 refine B5 Xt (fun(l:List Int) hl=>?_);exact zl (Al l) (loop l (w6 hl) l 0 rfl (yt _) (fun ob=>zq rfl rfl rfl))
end T23
theorem pB:DF yA:=Aa T93.ok AN
theorem T25.ok:Ag Bh 25 QG:=by
 refine B5 pB (fun(i:List UInt8×Int×List UInt8×Int) hi=>?_);obtain⟨a,e,w,bad⟩:=i;have hq:∀v ob,v=Sp.E3 a e w bad->Ad QG (a,e,w,bad) (.dat .bool v) ob:=fun v ob h=>zq rfl rfl h
 have hqb:∀v ob,v=Sp.E3 a e w bad->Ad QG (a,e,w,bad) (.bl v) ob:=fun v ob h=>zq rfl rfl h
 have key:∀x:Int,x=(if bad=0 then Sp.DN w else bad)->Sp.E3 a e w bad=if x≠0 then decide (a=[])&&decide (e=x)else decide (e=0)&&decide (a=w):=by
  rintro x rfl;rfl
 have yes:∀(x:Int) ob,x=(if bad=0 then Sp.DN w else bad)->x≠0->Ends yA (.ite (a==[]) (.leaf (PV.dat qq (e==x)) ob) (.leaf (PV.bl false) ob)) (Ad QG (a,e,w,bad)):=fun x ob h h0=>by
  have k:=key x h;rw[wd h0]at k;refine zf (fun c=>zd (hq _ _ ?_)) (fun c=>zd (hqb _ _ ?_))
  ·have c:a=[]:=by simpa using c
   rw[k,w4 c,yj];rfl
  ·have c:a≠[]:=by simpa using c
   rw[k,w8 c];rfl
 have no:∀(x:Int) ob,x=(if bad=0 then Sp.DN w else bad)->x=0->Ends yA (.ite (e==0) (.leaf (PV.dat qq (a==w)) ob) (.leaf (PV.bl false) ob)) (Ad QG (a,e,w,bad)):=fun x ob h h0=>by
  have k:=key x h;rw[wc (by rw[h0];decide)]at k;refine zf (fun c=>zd (hq _ _ ?_)) (fun c=>zd (hqb _ _ ?_))
  ·have c:e=0:=by simpa using c
   rw[k,w4 c,yj];by_cases h:a=w
   ·rw[w4 h];simpa using h
   ·rw[w8 h];simpa using h
  ·have c:e≠0:=by simpa using c
   rw[k,w8 c];rfl
 refine zl (T25.Al a e w bad) (zf (fun c=>zc hi (zf (fun d=>?_) (fun d=>?_))) (fun c=>zf (fun d=>?_) (fun d=>?_)))
 ·have c:bad=0:=by simpa using c
  exact yes _ _ (by rw[wd c]) (by simpa using d)
 ·have c:bad=0:=by simpa using c
  exact no _ _ (by rw[wd c]) (by simpa using d)
 ·have c:bad≠0:=by simpa using c
  exact yes _ _ (by rw[wc c]) c
 ·have c:bad≠0:=by simpa using c
  exact wh (by simpa using d) c
end Go.Pe
namespace Go.Sp
theorem UP(n:Nat):AE (n:Rat)=yb n:=by
 unfold AE;rw[Rat.num_natCast,q9,wd rfl];rfl
theorem Lp:AE 1=[49]:=by decide+kernel
theorem IJ(m:Nat):((2*m:Nat):Rat)*(1/2)=(m:Rat):=by
 rw[Rat.natCast_mul];have:((2:Nat):Rat)=2:=rfl;rw[this];grind
theorem NY(m:Nat):(((2*m+1:Nat):Rat)*(1/2)).den≠1:=by
 intro h;have e:(((2*m+1:Nat):Rat)*(1/2))=(((((2*m+1:Nat):Rat)*(1/2)).num:Int):Rat):=by
  have:=Rat.num_divInt_den (((2*m+1:Nat):Rat)*(1/2));rw[h]at this;exact this.symm.trans (Go.Pe.U7 _)
 generalize (((2*m+1:Nat):Rat)*(1/2)).num=k at e;have e2:((2*m+1:Nat):Rat)=((2*k:Int):Rat):=by
  rw[Rat.intCast_mul, <-e];have:((2:Int):Rat)=2:=rfl;rw[this];grind
 have e3:((2*m+1:Nat):Rat)=(((2*m+1:Nat):Int):Rat):=rfl;rw[e3,Rat.intCast_inj]at e2;omega
end Go.Sp
namespace Go.Pe
open Sp
open Go.Det
theorem eO:DF iW:=Aa T46.ok AN
theorem T130.ok:Ag Bh 130 VO:=by
 refine B5 eO (fun(n:Int) _=>?_);refine zl (T130.Al n) (zf (fun c=>zd (zq rfl rfl ?_)) (fun c=>zd (zq rfl rfl ?_)))
 ·have c:=w6 c;show decide (n<=999999999)=ql n;unfold ql;rw[w4 (show -999999999<=n from c),yj]
 ·have c:=w7 c;show false=ql n;unfold ql;rw[w8 (show ¬ -999999999<=n from c),Bool.false_and]
theorem mZ:DF yB:=Aa T105n.ok (Aa T154.ok (Aa T176.ok (Aa T173.ok AN)))
namespace T134
variable {Q:PV->Ob->Prop}
theorem loop(R:Bool)(hq:∀ob,Q (.bl R) ob):∀(k n:Nat) (d:AR),n<=k->0<n->A4 d=true->jf d=(n:Int)->iZ (n:Int)=R->Ends yB (L1 2 (BB 2) d.1 d.2) Q
 |0,n,d,h,h0,_,_,_=>by omega
 |k+1,n,d,h,h0,hd,hv,hr=>by
  obtain⟨j1,v1⟩:=Np (n:=1) rfl;obtain⟨j2,v2⟩:=Np (n:=2) rfl;have hc:Nr d (1,BB 1)=BO (n:Int) 1:=by unfold Nr;rw[hv,v1]
  refine zi (An ..) (zc rfl (zc (Ab hd j1) (zf (fun c=>?_) (fun c=>?_))))
  ·have c:Nr d (1,BB 1)>0:=w6 c;rw[hc]at c;have hn:1<n:=by
    unfold BO at c;split at c
    ·omega
    ·split at c
     ·omega
     ·omega
   have hm:jf (Iv d (2,BB 2),HS d (2,BB 2))=((n % 2:Nat):Int):=by
    show jf (Cx (jf d % jf (2,BB 2)),Cv (jf d % jf (2,BB 2)))=_;rw[Jw,hv,v2];omega
   have hmo:Dh (Iv d (2,BB 2),HS d (2,BB 2))=true:=by
    show Dh (CO (jf d % jf (2,BB 2)))=true;rw[hv,v2];refine(Ce (De ?_)).1;rw[Ah];exact yr (show(((n:Int) % 2).natAbs:Int)<(Ai:Int)^1 by rw[Int.pow_one];show _<(18446744073709551616:Int);omega) (AH (by decide) (by decide))
   have hs:EI (Iv d (2,BB 2),HS d (2,BB 2))=Rv ((n % 2:Nat):Int):=by unfold EI;rw[hm]
   refine zc (Ab (Ab hd j2) (w4 (by rw[v2];decide))) (zc hmo (zf (fun e=>zd ?_) (fun e=>?_)))
   ·have e:EI (Iv d (2,BB 2),HS d (2,BB 2))≠0:=by simpa using e
    rw[hs]at e;have h2:n % 2=1:=by
     rcases yd n with h|h
     ·rw[h]at e;exact wh rfl e
     ·exact h
    obtain⟨m,rfl⟩:∃m,n=2*m+1:=⟨n/2,by omega⟩;rw[XR (by omega)]at hr;rw[hr];exact hq _
   ·have e:EI (Iv d (2,BB 2),HS d (2,BB 2))=0:=by simpa using e
    rw[hs]at e;have h2:n % 2=0:=by
     rcases yd n with h|h
     ·exact h
     ·rw[h]at e;exact wh e (by decide)
    obtain⟨m,rfl⟩:∃m,n=2*m:=⟨n/2,by omega⟩;rw[T8 (by omega)]at hr;have hv2:jf (Gn d (2,BB 2))=(m:Int):=by
     rw[cO (by rw[v2];decide),hv,v2];omega
    have hb:Ae (jf d)<(Ai:Int)^9000:=(words hd).2.2.2.2.2;refine loop R hq k m (Gn d (2,BB 2)) (by omega) (by omega) (Yh (Yi hd (by rw[v2];decide)) ?_) hv2 hr;rw[hv2];rw[hv]at hb;rw[Ah]at hb ⊢;exact Int.lt_of_le_of_lt (by omega) hb
  ·have c:¬Nr d (1,BB 1)>0:=w7 c;rw[hc]at c;have hn:n=1:=by
    unfold BO at c;split at c
    ·omega
    ·split at c
     ·exact wh (by decide) c
     ·omega
   subst hn;have:R=true:=by rw[<-hr];exact Ya
   subst this;exact zd (hq _)
end T134
theorem T134.ok:Ag Bh 134 xT:=by
 refine B5 mZ (fun(a:AS) ha=>?_);have ha:(A4 a.2&&decide (0<jf a.2))=true:=ha;rw[zh,w5]at ha;obtain⟨n,hn⟩:=z7 (yq ha.2);refine zl (T134.Al a) (zc rfl (T134.loop (WB a) (fun ob=>zq rfl rfl rfl) n n a.2 (z6 _) (by omega) ha.1 hn ?_));unfold WB;rw[hn]
theorem pC:DF yH:=Aa T102.ok (Aa T44.ok (Aa T43.ok AN))
namespace T133
variable {Q:PV->Ob->Prop}
theorem loop(R:Bool)(hq:∀ob,Q (.bl R) ob)(E:Nat)(hE:1<=E/\E<=4000):∀(k n:Nat),n<=k->0<n->n<10^E->iZ (n:Int)=R->Ends yH (L1 (AE (n:Rat))) Q
 |0,n,h,h0,_,_=>by omega
 |k+1,n,h,h0,hb,hr=>by
  have z:ER E (n:Rat):=by
   unfold ER;rw[Rat.num_natCast,q9];exact⟨by rw[qk];exact hb,Nat.one_lt_pow (by omega) (by decide)⟩
  have hn:Bj (AE (n:Rat))=true:=by
   unfold Bj;rw[CB,w4 rfl,yj,UP];exact w4 (Nat.le_trans (FO hb hE.1) hE.2)
  have e1:QJ (AE (n:Rat))=AE ((n:Rat)*(1/2)):=by
   unfold QJ Gq;rw[CB,rG]
  have z2:ER (E+1) ((n:Rat)*(1/2)):=z.mul XO.z;have hl:=Kv z2 (by omega);refine zi (An ..) (zf (fun c=>?_) (fun c=>zd ?_))
  ·have c:AE (n:Rat)≠[49]:=by simpa using c
   rw[e1];refine zc hn (zc (w4 (by omega)) (zf (fun d=>zd ?_) (fun d=>?_)))
   ·have d:H5 (AE ((n:Rat)*(1/2)))=false:=by simpa using d
    unfold H5 at d;rw[(EF _).2.2]at d;have d:((n:Rat)*(1/2)).den≠1:=by simpa using d
    have h2:n % 2=1:=by
     rcases yd n with h|h
     ·obtain⟨m,rfl⟩:∃m,n=2*m:=⟨n/2,by omega⟩;rw[Sp.IJ,q9]at d;exact wh rfl d
     ·exact h
    obtain⟨m,rfl⟩:∃m,n=2*m+1:=⟨n/2,by omega⟩;have hm:0<m:=by
     rcases Nat.eq_zero_or_pos m with rfl|h
     ·exact wh Lp c
     ·exact h
    rw[XR hm]at hr;rw[hr];exact hq _
   ·have d:H5 (AE ((n:Rat)*(1/2)))=true:=by simpa using d
    unfold H5 at d;rw[(EF _).2.2]at d;have d:((n:Rat)*(1/2)).den=1:=by simpa using d
    have h2:n % 2=0:=by
     rcases yd n with h|h
     ·exact h
     ·obtain⟨m,rfl⟩:∃m,n=2*m+1:=⟨n/2,by omega⟩;exact wh d (Sp.NY m)
    obtain⟨m,rfl⟩:∃m,n=2*m:=⟨n/2,by omega⟩;rw[Sp.IJ];rw[T8 (by omega)]at hr;exact loop R hq E hE k m (by omega) (by omega) (qj (by omega) hb) hr
  ·have c:AE (n:Rat)=[49]:=by simpa using c
   rw[<-Lp]at c;have c2:=X0 (n:Rat) 1;rw[w4 c]at c2;have c3:(n:Rat)=1:=by simpa using c2.symm
   have c4:((n:Int):Rat)=((1:Int):Rat):=c3;rw[Rat.intCast_inj]at c4;have hn:n=1:=by omega
   subst hn;have:R=true:=by rw[<-hr];exact Ya
   subst this;exact hq _
end T133
theorem T133.ok:Ag Bh 133 vW:=by
 refine B5 pC (fun(s:List UInt8) hs=>?_);have hs:Bj s=true:=hs;have e:=(DG hs).1;have ed:LH s=AE (((AP s).den:Nat):Rat):=by
  rw[UP, <-Ol,e]
 refine zl (T133.Al s) (zc (w4 (by have:=(DG hs).2;omega)) ?_);rw[ed];refine T133.loop (Xv s) (fun ob=>zq rfl rfl rfl) 4000 (by decide) _ _ (z6 _) (AP s).den_pos (W6 hs).2 ?_;unfold Xv;rw[(DE hs).2.2.2.2.2.1]
end Go.Pe
namespace Go.Pe
open Go.Det
theorem rM{a:List UInt8}(ha:Sp.AO a=0):Sp.Du (frS a)=true/\Sp.Hg a=true:=by
 obtain⟨n,z⟩:=Sp.Ey ha;exact⟨(T6 n).Du (Cc z (by decide)),(Sp.DE n).2.2.2.2.2.2.1⟩
end Go.Pe
namespace Go.Sp
theorem JT(x:Int)(l:List Int):first (x::l)=if x≠0 then x else first l:=by
 by_cases h:x=0
 ·subst h;rw[wc (by simp),first];rfl
 ·rw[wd h,first];simp[h]
theorem Za:first []=0:=rfl
theorem Iu(b:Bool)(e:Int):Dl b e=if b=true then e else 0:=by cases b<;>rfl
theorem step1(o:Option Int)(c:Bg)(h:first [Dl (!isNum c.1) 3,AO c.2]≠0):Cr o c=first [Dl (!isNum c.1) 3,AO c.2]:=by
 rw[Go.Pe.Fh,Iu]at*;unfold Cr;cases hn:isNum c.1 with
 |false=>rfl
 |true=>
  rw[hn]at h;have h:AO c.2≠0:=by simpa using h
  simp[h]
theorem step2(c:Bg)(h:first [Dl (!isNum c.1) 3,AO c.2]=0):isNum c.1=true/\AO c.2=0:=by
 rw[Go.Pe.Fh,Iu]at h;cases hn:isNum c.1 with
 |false=>rw[hn]at h;exact wh h (by simp)
 |true=>
  rw[hn]at h;exact⟨rfl,by simpa using h⟩
end Go.Sp
namespace Go.Pe
open Sp
open Go.Det
theorem rR(q:Rat):q.num<=0↔q<=0:=by
 have k:=(Sp.neg_num q).2;constructor
 ·intro h;exact qx.1 (fun x=>by have:=k.2 x;omega)
 ·intro h;rcases qv 0 q.num with x|x
  ·exact wh (k.1 x) (qx.2 h)
  ·exact x
theorem D5{w:List UInt8}(h:AO w=0):EW (Jr w) (AP w)/\ER (Sp.K9 w) (AP w)/\WB (Jr w)=Xv w/\RJ (Jr w).2=true/\Hg w=true:=by
 obtain⟨n,z⟩:=Ey h;have r:EW (Jr w) (AP w):=T6 n;have hs:=Cc z (by decide);refine⟨r,(JS h).z,?_,?_,(rM h).2⟩
 ·unfold WB Xv;rw[r.vd,(DE n).2.2.2.2.2.1]
 ·unfold RJ;refine Ab (Yh r.d ?_) (w4 r.den_pos);rw[r.vd,Ah,qk];exact yr hs.2 (AH (by decide) (by decide))
theorem xI(o:Option Int)(c:Bg)(h1:ql c.1=true)(h2:AO c.2=0):y9 [Dl (decide (VA (Jr c.2)<=0)) 3,Dl (!WB (Jr c.2)) 1,Dl (sG o c.1) 11]=Cr o c:=by
 obtain⟨r,_,hd,_⟩:=D5 h2;have hs:(VA (Jr c.2)<=0)↔AP c.2<=0:=by
  unfold VA;rw[r.vn];exact Z4.trans (rR (AP c.2))
 rw[hd];unfold Cr;rw[h1,wc (by decide),wc (by simpa using h2)];rw[JT,JT,JT,Za,Iu,Iu,Iu];by_cases k1:AP c.2<=0
 ·rw[w4 (hs.2 k1),wd k1];rfl
 ·rw[w8 (fun x=>k1 (hs.1 x)),wc k1];cases Xv c.2 with
  |false=>rfl
  |true=>cases sG o c.1<;>rfl
theorem oO:DF vZ:=Aa T130.ok (Aa T83.ok (Aa T85.ok (Aa T77.ok (Aa T87.ok (Aa T110.ok (Aa T134.ok (Aa T80.ok (Aa T88.ok (Aa T111.ok AN)))))))))
namespace T63
variable {Q:PV->Ob->Prop}
theorem loop(l:List Bg)(h64:l.length<=64)(hl:∀c∈l,c.2.length<=1000000)(hq:∀ob,Q (.dat i64 (HP none 0 l)) ob):∀(r:List Bg) (i K:Nat) (o:Option Int) (s:Rat) (f:AS),l.drop i=r->i<=l.length->EW f s->ER K s->K+Fl r<=1900->((i=0/\o=none)\/(0<i/\o=some (l.getD (i-1) ((0:Int),[])).1))->HP none 0 l=HP o s r->Ends vZ (L1 l l (l.length:Int) (i:Int) f.1.1 f.1.2 f.2.1 f.2.2) Q
 |[],i,K,o,s,f,h,hi,hf,hz,hk,ho,he=>by
  have:=drop_nil h hi;have e:i=l.length:=by omega
  subst e;have h1:EW ((1,BB 1),(1,BB 1)) ((1:Int):Rat):=dX 1 rfl;have z1:=yZ 1 (by decide);have hc:=EW.cmp hf h1;refine zi (An ..) (zj (w8 (by omega)) (zc rfl (zc (Ab (hf.Du (Cc hz (by omega))) (h1.Du (Cc z1 (by decide)))) (zc rfl (zd ?_)))));have ev:Dl (!eQ f ((1,BB 1),(1,BB 1))==0) 15=HP none 0 l:=by
   rw[he,HP,hc,Iu];have e1:((1:Int):Rat)=1:=rfl;rw[e1];by_cases k:s=1
   ·subst k;rw[wc Rat.lt_irrefl,wc Rat.lt_irrefl];rfl
   ·rw[wc k];by_cases k1:s<1
    ·rw[wd k1];rfl
    ·have k2:1<s:=by
      rcases(Rat.le_total:s<=1\/1<=s)with x|x
      ·exact wh (Rat.le_antisymm x (qx.1 k1)) k
      ·exact Rat.not_le.1 fun y=>k (Rat.le_antisymm y x)
     rw[wc k1,wd k2];rfl
  rw[<-ev]at hq;exact hq _
 |c::r,i,K,o,s,f,h,hi,hf,hz,hk,ho,he=>by
  obtain⟨g1,g2,g3⟩:=drop_cons (d:=(((0:Int),[]):Bg)) h;have hm:c∈l:=List.mem_of_mem_drop (by rw[h];exact ye ..);have e1:ze .i64 ((i:Int)+1)=((i+1:Nat):Int):=by rw[wr _ (by omega) (by omega)];omega
  rw[Ln]at he;refine zi (An ..) ?_;conv=>zeta
  rw[e1,zg,g2];refine zc (w4 (by omega)) (zc (Ab (w4 (by omega)) (w4 (by omega))) (zc rfl (zc rfl (zc (w4 (hl c hm)) (zc rfl (zf (fun k=>zd ?_) (fun k=>?_)))))))
  ·have k:y9 [Dl (!ql c.1) 3,AO c.2]≠0:=by simpa using k
   have e:=Sp.step1 o c k;rw[wd (by rw[e];exact k),e]at he;rw[<-he];exact hq _
  ·have k:y9 [Dl (!ql c.1) 3,AO c.2]=0:=by simpa using k
   obtain⟨k1,k2⟩:=Sp.step2 c k;obtain⟨rr,zz,_,sm,rb⟩:=D5 k2;have st:=fun o=>xI o c k1 k2
   have ht:Fl (c::r)=Sp.K9 c.2+1+Fl r:=by rw[Fl,wd k2]
   rw[ht]at hk;have s1:=Cc hz (by omega);have s2:=Cc zz (by omega);have next:(o=none\/0<i)->Cr o c=0->Ends vZ (L1 l l (l.length:Int) ((i+1:Nat):Int) (TX f (Jr c.2)) (TU f (Jr c.2)) (Ud f (Jr c.2)) (S9 f (Jr c.2))) Q:=by
    intro _ hs0;rw[wc (by simpa using hs0)]at he;exact loop l h64 hl hq r (i+1) _ (some c.1) (s+AP c.2) (Hp f (Jr c.2)) g3 g1 (EW.add hf rr s1 s2) (hz.add zz) (by omega) (.inr ⟨by omega,by rw[yi,g2]⟩) he
   refine zc rb (zc rr.n (zc rfl (zc sm (zc rfl (zf (fun p=>?_) (fun p=>?_))))))
   ·have p:0<i:=by have:=w6 p;omega
    rcases ho with ho|ho
    ·omega
    obtain⟨_,rfl⟩:=ho;have e2:ze .i64 ((i:Int)-1)=((i-1:Nat):Int):=by rw[wr _ (by omega) (by omega)];omega
    rw[e2,zg];have st:y9 [Dl (decide (VA (Jr c.2)<=0)) 3,Dl (!WB (Jr c.2)) 1,Dl (decide (c.1<=(l.getD (i-1) ((0:Int),[])).1)) 11]=Cr (some (l.getD (i-1) ((0:Int),[])).1) c:=st (some (l.getD (i-1) ((0:Int),[])).1)
    refine zc (Ab (w4 (by omega)) (w4 (by omega))) (zc rfl (zc rfl (zf (fun m=>zd ?_) (fun m=>?_))))
    ·have m:Cr (some (l.getD (i-1) ((0:Int),[])).1) c≠0:=by rw[<-st];simpa using m
     rw[wd m, <-st]at he;rw[he]at hq;exact hq _
    ·have m:Cr (some (l.getD (i-1) ((0:Int),[])).1) c=0:=by rw[<-st];simpa using m
     exact zc (Ab (hf.FC s1) (rr.FC s2)) (next (.inr p) m)
   ·have p:i=0:=by have:=w7 p;omega
    rcases ho with ho|ho
    ·obtain⟨_,rfl⟩:=ho;have st:y9 [Dl (decide (VA (Jr c.2)<=0)) 3,Dl (!WB (Jr c.2)) 1,Dl false 11]=Cr none c:=st none
     refine zc rfl (zc rfl (zf (fun m=>zd ?_) (fun m=>?_)))
     ·have m:Cr none c≠0:=by rw[<-st];simpa using m
      rw[wd m, <-st]at he;rw[he]at hq;exact hq _
     ·have m:Cr none c=0:=by rw[<-st];simpa using m
      exact zc (Ab (hf.FC s1) (rr.FC s2)) (next (.inl rfl) m)
    ·omega
end T63
theorem gU{α:Type}(l:List α):y9 [Dl ((l.length:Int)==0) 12,Dl (decide ((l.length:Int)>64)) 5]=if l=[]then 12 else if 64<l.length then 5 else 0:=by
 rw[Fh,Iu,Iu];cases l with
 |nil=>rfl
 |cons x l=>
  have e:(((x::l).length:Int)==0)=false:=by
   rw[zt];simp;omega
  rw[e,wc (show ¬(if false=true then(12:Int)else 0)≠0 by decide),wc (List.cons_ne_nil x l)];by_cases k:64<(x::l).length
  ·rw[wd k,w4 (by omega)];rfl
  ·rw[wc k,w8 (by omega)];rfl
theorem Fs:EW ((0,BB 0),(1,BB 1)) 0:=dX 0 rfl
theorem Gb:ER 1 0:=⟨by decide,by decide⟩
theorem T63.ok:Ag Bh 63 Ry:=by
 refine B5 oO (fun(l:List Bg) hl=>?_);have hl:K8 l=true:=hl;obtain⟨h1,h2,h3⟩:=Vj hl;have hq:∀e ob,e=As l->Ad Ry l (.dat i64 e) ob:=fun e ob h=>zq rfl rfl h
 refine zl (T63.Al l) ?_;conv=>zeta
 rw[gU];refine zc rfl (zc rfl (zc rfl ?_));by_cases k:l=[]
 ·rw[wd k];exact zc rfl (zd (hq _ _ (by unfold As;rw[wd k])))
 rw[wc k];by_cases m:64<l.length
 ·rw[wd m];exact zc rfl (zd (hq _ _ (by unfold As;rw[wc k,wd m])))
 rw[wc m];have e:As l=HP none 0 l:=by unfold As;rw[wc k,wc m]
 refine zj rfl (zc rfl ?_);exact T63.loop l (by omega) h2 (fun ob=>hq _ ob e.symm) l 0 1 none 0 ((0,BB 0),(1,BB 1)) rfl (yt _) Fs Gb (by omega) (.inl ⟨rfl,rfl⟩) rfl
theorem lX{u:List UInt8}(n:Bj u=true):GL u<=0↔AP u<=0:=by
 have t:=(DG n).1;have h:=QP (AP u);rw[t]at h;rw[h,Z4];have k:=(Sp.neg_num (AP u)).2;constructor
 ·intro h;exact qx.1 (fun x=>by have:=k.2 x;omega)
 ·intro h;rcases qv 0 (AP u).num with x|x
  ·exact wh (k.1 x) (qx.2 h)
  ·exact x
end Go.Pe
namespace Go.Sp
theorem ZZ{n:Int}(h1:¬n< -999999999)(h2:¬n>999999999):isNum n=true:=by
 unfold isNum;rw[w4 (by omega),w4 (by omega)];rfl
theorem UI{n:Int}(h:n< -999999999\/n>999999999):isNum n=false:=by
 unfold isNum;rcases h with h|h
 ·rw[w8 (by omega),Bool.false_and]
 ·rw[w8 (show ¬n<=999999999 by omega),Bool.and_false]
variable {o:Option Int}{c:Bg}
theorem bL(h:isNum c.1=false):Cr o c=3:=by unfold Cr;rw[wd h]
theorem tG(h:isNum c.1=true)(k:AO c.2≠0):Cr o c=AO c.2:=by unfold Cr;rw[h,wc (by decide),wd k]
theorem tC(h:isNum c.1=true)(k:AO c.2=0)(p:AP c.2<=0):Cr o c=3:=by unfold Cr;rw[h,wc (by decide),wc (by simpa using k),wd p]
theorem vK(h:isNum c.1=true)(k:AO c.2=0)(p:¬AP c.2<=0)(d:Xv c.2=false):Cr o c=1:=by unfold Cr;rw[h,wc (by decide),wc (by simpa using k),wc p,wd d]
theorem wW(h:isNum c.1=true)(k:AO c.2=0)(p:¬AP c.2<=0)(d:Xv c.2=true):Cr o c=if sG o c.1=true then 11 else 0:=by unfold Cr;rw[h,wc (by decide),wc (by simpa using k),wc p,d,wc (by decide)]
theorem M7{k:Nat}{q:Rat}(h:ER k q):Nu k (AE q) q:=⟨rfl,h⟩
end Go.Sp
namespace Go.Pe
open Sp
open Go.Det
theorem mT:DF Tn:=Aa T24.ok (Aa T41.ok (Aa T133.ok (Aa T27.ok AN)))
namespace T62
variable {Q:PV->Ob->Prop}{l:List Bg}{v:List UInt8}{i e:Int}
theorem xE(h:e≠0)(hq:∀ob,Q (.dat i64 e) ob):Ends Tn (L5 l v i e) Q:=zi (Ei ..) (zc (by simpa using h) (zd (hq _)))
theorem xR(h:e≠0)(hq:∀ob,Q (.dat i64 e) ob):Ends Tn (L4 l v i e) Q:=zi (Ct ..) (zj (by simpa using h) (xE h hq))
theorem vL(h:e≠0)(hq:∀ob,Q (.dat i64 e) ob):Ends Tn (L3 l v i e) Q:=zi (CU ..) (zj (by simpa using h) (xR h hq))
theorem rF(h:e≠0)(hq:∀ob,Q (.dat i64 e) ob):Ends Tn (L2 l v i e) Q:=zi (AZ ..) (zj (by simpa using h) (vL h hq))
theorem loop(l:List Bg)(h64:l.length<=64)(hl:∀c∈l,c.2.length<=1000000)(hq:∀ob,Q (.dat i64 (HP none 0 l)) ob):∀(r:List Bg) (i K:Nat) (o:Option Int) (s:Rat),l.drop i=r->i<=l.length->ER K s->K+Fl r<=1900->((i=0/\o=none)\/(0<i/\o=some (l.getD (i-1) ((0:Int),[])).1))->HP none 0 l=HP o s r->Ends Tn (L1 l (AE s) (i:Int)) Q
 |[],i,K,o,s,h,hi,hz,hk,ho,he=>by
  have:=drop_nil h hi;have e:i=l.length:=by omega
  subst e;have ht:=X0 s 1;rw[Lp]at ht;rw[HP]at he;refine zi (An ..) (zj (w8 (by omega)) (zf (fun c=>zd ?_) (fun c=>zd ?_)))
  ·have c:AE s≠[49]:=by simpa using c
   rw[w8 c]at ht;have:s≠1:=by simpa using ht.symm
   rw[wc this]at he;rw[<-he];exact hq _
  ·have c:AE s=[49]:=by simpa using c
   rw[w4 c]at ht;have:s=1:=by simpa using ht.symm
   rw[wd this]at he;rw[<-he];exact hq _
 |c::r,i,K,o,s,h,hi,hz,hk,ho,he=>by
  obtain⟨g1,g2,g3⟩:=drop_cons (d:=(((0:Int),[]):Bg)) h;have hm:c∈l:=List.mem_of_mem_drop (by rw[h];exact ye ..);have e1:ze .i64 ((i:Int)+1)=((i+1:Nat):Int):=by rw[wr _ (by omega) (by omega)];omega
  have bd:(decide ((0:Int)<=(i:Int))&&decide ((i:Int)<(l.length:Int)))=true:=Ab (w4 (by omega)) (w4 (by omega));have hlc:=hl c hm;rw[Ln]at he;have bad:∀e:Int,Cr o c=e->e≠0->∀ob,Q (.dat i64 e) ob:=by
   intro e h1 h2 ob;rw[h1,wd h2]at he;rw[<-he];exact hq _
  refine zi (An ..) ?_;conv=>zeta
  rw[zg,g2];refine zc (w4 (by omega)) (zc bd (zf (fun k=>?_) (fun k=>?_)))
  ·have k:=w6 k;exact zj rfl (rF (by decide) (bad 3 (bL (UI (.inl k))) (by decide)))
  have k1:=w7 k;refine zc bd (zf (fun k=>?_) (fun k=>?_))
  ·have k:=w6 k;exact zj rfl (rF (by decide) (bad 3 (bL (UI (.inr k))) (by decide)))
  have k2:=w7 k;have kn:=ZZ k1 k2;refine zc rfl (zc bd (zc (w4 hlc) ?_));by_cases kc:AO c.2=0
  case neg=>exact rF kc (bad _ (tG kn kc) kc)
  rw[kc];have nw:=JS kc;have nb:=(Ey kc).1;have hsg:=lX nb;have ht:Fl (c::r)=Sp.K9 c.2+1+Fl r:=by rw[Fl,wd kc]
  rw[ht]at hk;refine zi (AZ ..) ?_;conv=>zeta
  rw[zg,g2];refine zc rfl (zc bd (zc (w4 hlc) (zf (fun p=>?_) (fun p=>?_))))
  ·have p:=hsg.1 (w6 p);exact vL (by decide) (bad 3 (tC kn kc p) (by decide))
  have kp:¬AP c.2<=0:=fun x=>w7 p (hsg.2 x)
  refine zi (CU ..) ?_;conv=>zeta
  rw[zg,g2];refine zc rfl (zc bd (zc nb (zf (fun d=>?_) (fun d=>?_))))
  ·have d:Xv c.2=false:=by simpa using d
   exact xR (by decide) (bad 1 (vK kn kc kp d) (by decide))
  have kd:Xv c.2=true:=by simpa using d
  have sl:=wW (o:=o) kn kc kp kd;have next:sG o c.1=false->Ends Tn (L5 l (AE s) (i:Int) 0) Q:=by
   intro h0;rw[h0,wc (by decide)]at sl;rw[sl,wc (by decide)]at he;have ns:=M7 hz;have es:GJ (AE s) c.2=AE (s+AP c.2):=by unfold GJ;rw[CB]
   refine zi (Ei ..) ?_;conv=>zeta
   rw[zg,g2,e1,es];exact zj rfl (zc bd (zc (Ab (ns.num (by omega)) nb) (loop l h64 hl hq r (i+1) _ (some c.1) (s+AP c.2) g3 g1 (hz.add nw.z) (by omega) (.inr ⟨by omega,by rw[yi,g2]⟩) he)))
  refine zi (Ct ..) (zc rfl (zf (fun p=>?_) (fun p=>?_)))
  ·have p:0<i:=by have:=w6 p;omega
   rcases ho with ho|ho
   ·omega
   obtain⟨_,rfl⟩:=ho;have e2:ze .i64 ((i:Int)-1)=((i-1:Nat):Int):=by rw[wr _ (by omega) (by omega)];omega
   rw[e2,zg,zg,g2];refine zc (Ab (w4 (by omega)) (w4 (by omega))) (zc bd (zf (fun m=>?_) (fun m=>?_)))
   ·have m:c.1<=(l.getD (i-1) ((0:Int),[])).1:=w6 m;have m:sG (some (l.getD (i-1) ((0:Int),[])).1) c.1=true:=w4 m;rw[m,wd rfl]at sl;exact xE (by decide) (bad 11 sl (by decide))
   ·have m:¬c.1<=(l.getD (i-1) ((0:Int),[])).1:=w7 m;exact next (w8 m)
  ·have p:i=0:=by have:=w7 p;omega
   rcases ho with ho|ho
   ·obtain⟨_,rfl⟩:=ho;exact next rfl
   ·omega
end T62
theorem T62.ok:Ag Bh 62 Ry:=by
 refine B5 mT (fun(l:List Bg) hl=>?_);have hl:K8 l=true:=hl;obtain⟨h1,h2,h3⟩:=Vj hl;have hq:∀e ob,e=As l->Ad Ry l (.dat i64 e) ob:=fun e ob h=>zq rfl rfl h
 refine zl (T62.Al l) (zf (fun c=>zd (hq _ _ ?_)) (fun c=>zf (fun d=>zd (hq _ _ ?_)) (fun d=>?_)))
 ·have c:(l.length:Int)=0:=by simpa using c
  unfold As;rw[wd (z8.1 (by omega))]
 all_goals
  have c:l≠[]:=fun k=>by rw[k]at c;exact wh c (by decide)
 ·have d:=w6 d;unfold As;rw[wc c,wd (by omega)]
 ·have d:=w7 d;have e:As l=HP none 0 l:=by unfold As;rw[wc c,wc (by omega)]
  have z:=T62.loop (Q:=Ad Ry l) l (by omega) h2 (fun ob=>hq _ ob e.symm) l 0 1 none 0 rfl (yt _) Gb (by omega) (.inl ⟨rfl,rfl⟩) rfl;rw[Lh]at z;exact z
section
open List Int Prod
namespace T59
def T(l:List (Int×List UInt8)):Tr:=tree sT false 9 59 (Af ([qf (qy i64 zo)]) l)
def L1(v14:List (Int×List UInt8))(v15 v16 o0:Int)(o0_1:List Int)(o0_2:Int)(o0_3:List Int):Tr:=re ((T []).L.R.L) (AA 34 [(5,.ptr 0 0),(14,.dat (qf (qy i64 zo)) v14),(15,.dat i64 v15),(16,.dat i64 v16)] [(0,.box [.dat i64 o0,.dat (jg (yw qc)) o0_1,.dat i64 o0_2,.dat (jg (yw qc)) o0_3])] 1)
theorem Al(l:List (Int×List UInt8)):T l=.ite (K8 l) (.ite (As l !=0) (.leaf (.tup [.dat zo [],.dat i64 (As l)]) []) (.ite true (L1 l ((length l:Int)) 0 0 (BB 0) 1 (BB 1)) .fail)) .fail:=by kernel_rfl
theorem An(v14:List (Int×List UInt8))(v15 v16 o0:Int)(o0_1:List Int)(o0_2:Int)(o0_3:List Int):stepT sT (L1 v14 v15 v16 o0 o0_1 o0_2 o0_3)=let b':=getD v14 (toNat v16) (0,[]);let c':=((o0,o0_1),o0_2,o0_3);let e':=jg (yw qc);let d':=((fst b',BB (fst b')),1,BB 1);let a':=OD d' (Jr (snd b'));.ite (decide (v16<v15)) (.ite (decide (0<=v16)&&decide (v16<(length v14:Int))) (.ite true (.ite (Hg (snd b')) (.ite (Sp.FC d'&&Sp.FC (Jr (snd b'))) (.ite (Sp.FC c'&&Sp.FC a') (L1 v14 v15 (ze .i64 (v16+1)) (TX c' a') (TU c' a') (Ud c' a') (S9 c' a')) .fail) .fail) .fail) .fail) .fail) (.ite (Sp.Du c') (.leaf (.tup [.dat zo (MG c'),.dat i64 (ML c')]) ([(0,.box [.dat i64 o0,.dat e' o0_1,.dat i64 o0_2,.dat e' o0_3])])) .fail):=by kernel_rfl
end T59
namespace T61
def T(l:List (Int×List UInt8))(n:Int):Tr:=tree sT false 9 61 (Af ([qf (qy i64 zo),yw yn]) (l,n))
def L1(v1:Int)(v16:List (Int×List UInt8))(v17 v18 o0:Int)(o0_1:List Int)(o0_2:Int)(o0_3:List Int):Tr:=re ((T [] 0).L.R.L) (AA 36 [(1,.dat i64 v1),(7,.ptr 0 0),(16,.dat (qf (qy i64 zo)) v16),(17,.dat i64 v17),(18,.dat i64 v18)] [(0,.box [.dat i64 o0,.dat (jg (yw qc)) o0_1,.dat i64 o0_2,.dat (jg (yw qc)) o0_3])] 1)
theorem Al(l:List (Int×List UInt8))(n:Int):T l n=.ite (K8 l) (.ite (As l !=0) (.leaf (.tup [.dat zo [],.dat i64 (As l)]) []) (.ite true (L1 n l ((length l:Int)) 0 0 (BB 0) 1 (BB 1)) .fail)) .fail:=by kernel_rfl
theorem An(v1:Int)(v16:List (Int×List UInt8))(v17 v18 o0:Int)(o0_1:List Int)(o0_2:Int)(o0_3:List Int):stepT sT (L1 v1 v16 v17 v18 o0 o0_1 o0_2 o0_3)=let b':=((o0,o0_1),o0_2,o0_3);let c':=getD v16 (toNat v18) (0,[]);let d':=jg (yw qc);let e':=ze .i64 (v18+1);let a':=Jr (snd c');.ite (decide (v18<v17)) (.ite (decide (0<=v18)&&decide (v18<(length v16:Int))) (.ite (decide (fst c'<=v1)) (.ite (Hg (snd c')) (.ite (Sp.FC b'&&Sp.FC a') (L1 v1 v16 v17 e' (TX b' a') (TU b' a') (Ud b' a') (S9 b' a')) .fail) .fail) (L1 v1 v16 v17 e' o0 o0_1 o0_2 o0_3)) .fail) (.ite (Sp.Du b') (.leaf (.tup [.dat zo (MG b'),.dat i64 (ML b')]) ([(0,.box [.dat i64 o0,.dat d' o0_1,.dat i64 o0_2,.dat d' o0_3])])) .fail):=by kernel_rfl
end T61
namespace T64
def T(l:List (Int×List UInt8)):Tr:=tree iV false 9 64 (Af ([qf (qy i64 zo)]) l)
def L1(v0:List (Int×List UInt8))(v3:List UInt8)(v4:Int):Tr:=re ((T [])) (AA 26 [(0,.dat (qf (qy i64 zo)) v0),(3,.dat zo v3),(4,.dat i64 v4)] [] 0)
theorem Al(l:List (Int×List UInt8)):T l=L1 l ([(48:UInt8)]) 0:=by kernel_rfl
theorem An(v0:List (Int×List UInt8))(v3:List UInt8)(v4:Int):stepT iV (L1 v0 v3 v4)=let a':=getD v0 (toNat v4) (0,[]);let c':=decide (v4<(length v0:Int));let b':=(yp (fst a'),yg (fst a'));let d':=Gq (GH b') (snd a');.ite (c') (.ite (decide (0<=v4)&&c') (.ite (decide (0<=v4)&&c') (.ite (CH (fst a')) (.ite (CG b') (.ite (Bj (GH b')&&Bj (snd a')) (.ite (Bj v3&&Bj d') (L1 v0 (GJ v3 d') (ze .i64 (v4+1))) .fail) .fail) .fail) .fail) .fail) .fail) (.leaf (.dat zo v3) []):=by kernel_rfl
end T64
namespace T65
def T(l:List (Int×List UInt8))(n:Int):Tr:=tree iV false 9 65 (Af ([qf (qy i64 zo),yw yn]) (l,n))
def L1(v0:List (Int×List UInt8))(v1:Int)(v5:List UInt8)(v6:Int):Tr:=re ((T [] 0)) (AA 28 [(0,.dat (qf (qy i64 zo)) v0),(1,.dat i64 v1),(5,.dat zo v5),(6,.dat i64 v6)] [] 0)
theorem Al(l:List (Int×List UInt8))(n:Int):T l n=L1 l n ([(48:UInt8)]) 0:=by kernel_rfl
theorem An(v0:List (Int×List UInt8))(v1:Int)(v5:List UInt8)(v6:Int):stepT iV (L1 v0 v1 v5 v6)=let a':=decide (v6<(length v0:Int));let b':=getD v0 (toNat v6) (0,[]);let c':=ze .i64 (v6+1);.ite (a') (.ite (decide (0<=v6)&&a') (.ite (decide (fst b'<=v1)) (.ite (decide (0<=v6)&&a') (.ite (Bj v5&&Bj (snd b')) (L1 v0 v1 (GJ v5 (snd b')) c') .fail) .fail) (L1 v0 v1 v5 c')) .fail) (.leaf (.dat zo v5) []):=by kernel_rfl
end T65
end
end Go.Pe
namespace Go.Sp
def PZ(l:List Bg):Prop:=∀c∈l,isNum c.1=true/\AO c.2=0
theorem IP{l:List Bg}(h:As l=0):PZ l:=fun c hc=>by
 have:=Tq (LR h).2.2 c hc;exact⟨this.1,this.2.1⟩
theorem PZ.tail{c:Bg}{l:List Bg}(h:PZ (c::l)):PZ l:=fun x hx=>h x (List.mem_cons_of_mem _ hx)
theorem GS{c:Bg}{l:List Bg}(h:AO c.2=0):Fl (c::l)=K9 c.2+1+Fl l:=by rw[Fl,wd h]
theorem UY{n:Int}(h:isNum n=true):ER 9 (n:Rat):=by
 have:=CE h;unfold ER;rw[Rat.num_intCast,Rat.den_intCast];exact⟨by show _<1000000000;omega,by decide⟩
theorem KT{l:List Bg}(h:K8 l=true)(k:As l=0):l.length<=64/\Fl l<=1300:=by
 have:=(Vj h).2.2;have:=(LR k).2.1;omega
end Go.Sp
namespace Go.Pe
open Sp
open Go.Det
theorem X8{n:Int}(h:ql n=true):CH n=true:=by
 have:=CE h;exact Dg (by omega) (by omega)
theorem XM:DF sT:=Aa T63.ok (Aa T111.ok (Aa T87.ok (Aa T82.ok (Aa T80.ok (Aa T103.ok AN)))))
theorem SE:DF iV:=Aa T107.ok (Aa T167.ok (Aa T29.ok (Aa T27.ok AN)))
namespace T59
variable {Q:PV->Ob->Prop}
theorem loop(l:List Bg)(h64:l.length<=64)(hq:∀f ob,EW f (FD l)->Sp.Du f=true->Q (.tup [.dat .str (MG f),.dat i64 (ML f)]) ob):∀(r:List Bg) (i K:Nat) (s:Rat) (f:AS),l.drop i=r->i<=l.length->PZ r->EW f s->ER K s->K+(Fl r+9*r.length)<=1990->s+FD r=FD l->Ends sT (L1 l (l.length:Int) (i:Int) f.1.1 f.1.2 f.2.1 f.2.2) Q
 |[],i,K,s,f,h,hi,hv,hf,hz,hk,he=>by
  have:=drop_nil h hi;have ok:=hf.Du (Cc hz (by omega));rw[FD,qz]at he;rw[he]at hf;exact zi (An ..) (zj (w8 (by omega)) (zc ok (zd (hq f _ hf ok))))
 |c::r,i,K,s,f,h,hi,hv,hf,hz,hk,he=>by
  obtain⟨g1,g2,g3⟩:=drop_cons (d:=(((0:Int),[]):Bg)) h;have e1:ze .i64 ((i:Int)+1)=((i+1:Nat):Int):=by rw[wr _ (by omega) (by omega)];omega
  obtain⟨hn,hc⟩:=hv c (ye ..);obtain⟨rr,zz,_,_,rb⟩:=D5 hc;have rn:=dX c.1 (X8 hn);have zn:=UY hn;rw[GS hc,zt]at hk;have s1:=Cc hz (by omega);have s2:=Cc zz (by omega);have s3:=Cc zn (by decide);have rm:=EW.mul rn rr s3 s2;have zm:=zn.mul zz;have s4:=Cc zm (by omega);refine zi (An ..) ?_;conv=>zeta
  rw[e1,zg,g2];refine zc (w4 (by omega)) (zc (Ab (w4 (by omega)) (w4 (by omega))) (zc rfl (zc rb (zc (Ab (rn.FC s3) (rr.FC s2)) (zc (Ab (hf.FC s1) (rm.FC s4)) ?_)))));refine loop l h64 hq r (i+1) _ (s+(c.1:Rat)*AP c.2) (Hp f (OD ((c.1,BB c.1),(1,BB 1)) (Jr c.2))) g3 g1 hv.tail (EW.add hf rm s1 s4) (hz.add zm) (by omega) ?_;rw[<-he,FD,qn]
end T59
theorem T59.ok:Ag Bh 59 pN:=by
 refine B5 XM (fun(l:List Bg) hl=>?_);have hl:K8 l=true:=hl;refine zl (T59.Al l) (zc hl (zf (fun c=>zd ?_) (fun c=>?_)))
 ·have c:As l≠0:=by simpa using c
  refine zq rfl rfl ?_;show(([]:List UInt8),As l)=(Yw (As l) _,Zr (As l) _);unfold Yw Zr;rw[wd c,wd c]
 ·have c:As l=0:=by simpa using c
  obtain⟨k1,k2⟩:=KT hl c;exact zc rfl (T59.loop l k1 (fun f ob hf ok=>zq rfl rfl (eV hf c)) l 0 1 0 ((0,BB 0),(1,BB 1)) rfl (yt _) (IP c) Fs Gb (by omega) (yu _))
namespace T61
variable {Q:PV->Ob->Prop}
theorem loop(n:Int)(l:List Bg)(h64:l.length<=64)(hq:∀f ob,EW f (FJ n l)->Sp.Du f=true->Q (.tup [.dat .str (MG f),.dat i64 (ML f)]) ob):∀(r:List Bg) (i K:Nat) (s:Rat) (f:AS),l.drop i=r->i<=l.length->PZ r->EW f s->ER K s->K+Fl r<=1990->s+FJ n r=FJ n l->Ends sT (L1 n l (l.length:Int) (i:Int) f.1.1 f.1.2 f.2.1 f.2.2) Q
 |[],i,K,s,f,h,hi,hv,hf,hz,hk,he=>by
  have:=drop_nil h hi;have ok:=hf.Du (Cc hz (by omega));rw[FJ,qz]at he;rw[he]at hf;exact zi (An ..) (zj (w8 (by omega)) (zc ok (zd (hq f _ hf ok))))
 |c::r,i,K,s,f,h,hi,hv,hf,hz,hk,he=>by
  obtain⟨g1,g2,g3⟩:=drop_cons (d:=(((0:Int),[]):Bg)) h;have e1:ze .i64 ((i:Int)+1)=((i+1:Nat):Int):=by rw[wr _ (by omega) (by omega)];omega
  obtain⟨hn,hc⟩:=hv c (ye ..);obtain⟨rr,zz,_,_,rb⟩:=D5 hc;rw[GS hc]at hk;have s1:=Cc hz (by omega);have s2:=Cc zz (by omega);rw[FJ]at he;refine zi (An ..) ?_;conv=>zeta
  rw[e1,zg,g2];refine zc (w4 (by omega)) (zc (Ab (w4 (by omega)) (w4 (by omega))) (zf (fun k=>?_) (fun k=>?_)))
  ·have k:=w6 k;rw[wd k]at he;exact zc rb (zc (Ab (hf.FC s1) (rr.FC s2)) (loop n l h64 hq r (i+1) _ (s+AP c.2) (Hp f (Jr c.2)) g3 g1 hv.tail (EW.add hf rr s1 s2) (hz.add zz) (by omega) (by rw[<-he,qn])))
  ·have k:=w7 k;rw[wc k,yu]at he;exact loop n l h64 hq r (i+1) K s f g3 g1 hv.tail hf hz (by omega) he
end T61
theorem T61.ok:Ag Bh 61 pX:=by
 refine B5 XM (fun(i:List Bg×Int) hl=>?_);obtain⟨l,n⟩:=i;have hl:K8 l=true:=hl;refine zl (T61.Al l n) (zc hl (zf (fun c=>zd ?_) (fun c=>?_)))
 ·have c:As l≠0:=by simpa using c
  refine zq rfl rfl ?_;show(([]:List UInt8),As l)=(Yw (As l) _,Zr (As l) _);unfold Yw Zr;rw[wd c,wd c]
 ·have c:As l=0:=by simpa using c
  obtain⟨k1,k2⟩:=KT hl c;exact zc rfl (T61.loop n l k1 (fun f ob hf ok=>zq rfl rfl (eV hf c)) l 0 1 0 ((0,BB 0),(1,BB 1)) rfl (yt _) (IP c) Fs Gb (by omega) (yu _))
namespace T64
variable {Q:PV->Ob->Prop}
theorem loop(l:List Bg)(h64:l.length<=64)(hq:∀ob,Q (.dat .str (NG l)) ob):∀(r:List Bg) (i K:Nat) (s:Rat),l.drop i=r->i<=l.length->PZ r->ER K s->K+(Fl r+9*r.length)<=1990->s+FD r=FD l->Ends iV (L1 l (AE s) (i:Int)) Q
 |[],i,K,s,h,hi,hv,hz,hk,he=>by
  have:=drop_nil h hi;rw[FD,qz]at he;rw[he];exact zi (An ..) (zj (w8 (by omega)) (zd (hq _)))
 |c::r,i,K,s,h,hi,hv,hz,hk,he=>by
  obtain⟨g1,g2,g3⟩:=drop_cons (d:=(((0:Int),[]):Bg)) h;have e1:ze .i64 ((i:Int)+1)=((i+1:Nat):Int):=by rw[wr _ (by omega) (by omega)];omega
  obtain⟨hn,hc⟩:=hv c (ye ..);have nw:=JS hc;have nb:=(Ey hc).1;have zn:=UY hn;have nn:=M7 zn;have nm:=nn.Gq nw;have ns:=M7 hz;have bd:(decide ((0:Int)<=(i:Int))&&decide ((i:Int)<(l.length:Int)))=true:=Ab (w4 (by omega)) (w4 (by omega));rw[GS hc,zt]at hk;have hb:=CE hn;have e2:GH (yp c.1,yg c.1)=AE ((c.1:Int):Rat):=by rw[Pd,YP]
  have e3:GJ (AE s) (Gq (AE ((c.1:Int):Rat)) c.2)=AE (s+(c.1:Rat)*AP c.2):=by
   unfold GJ;rw[nm.rat,CB]
  have hok:CG (yp c.1,yg c.1)=true:=OH (bW 9 27000 (by decide) (by show _<1000000000;omega));refine zi (An ..) ?_;conv=>zeta
  rw[e1,zg,g2,e2,e3];exact zc (w4 (by omega)) (zc bd (zc bd (zc (X8 hn) (zc hok (zc (Ab (nn.num (by decide)) nb) (zc (Ab (ns.num (by omega)) (nm.num (by omega))) (loop l h64 hq r (i+1) _ _ g3 g1 hv.tail (hz.add (zn.mul nw.z)) (by omega) (by rw[<-he,FD,qn]))))))))
end T64
theorem T64.ok:Ag Bh 64 Vq:=by
 refine B5 SE (fun(l:List Bg) hl=>?_);have hl:(K8 l&&decide (As l=0))=true:=hl;rw[zh,w5]at hl;obtain⟨k1,k2⟩:=KT hl.1 hl.2;have z:=T64.loop (Q:=Ad Vq l) l k1 (fun ob=>zq rfl rfl rfl) l 0 1 0 rfl (yt _) (IP hl.2) Gb (by omega) (yu _);rw[Lh]at z;exact zl (T64.Al l) z
namespace T65
variable {Q:PV->Ob->Prop}
theorem loop(n:Int)(l:List Bg)(h64:l.length<=64)(hq:∀ob,Q (.dat .str (NA l n)) ob):∀(r:List Bg) (i K:Nat) (s:Rat),l.drop i=r->i<=l.length->PZ r->ER K s->K+Fl r<=1990->s+FJ n r=FJ n l->Ends iV (L1 l n (AE s) (i:Int)) Q
 |[],i,K,s,h,hi,hv,hz,hk,he=>by
  have:=drop_nil h hi;rw[FJ,qz]at he;rw[he];exact zi (An ..) (zj (w8 (by omega)) (zd (hq _)))
 |c::r,i,K,s,h,hi,hv,hz,hk,he=>by
  obtain⟨g1,g2,g3⟩:=drop_cons (d:=(((0:Int),[]):Bg)) h;have e1:ze .i64 ((i:Int)+1)=((i+1:Nat):Int):=by rw[wr _ (by omega) (by omega)];omega
  obtain⟨hn,hc⟩:=hv c (ye ..);have nw:=JS hc;have nb:=(Ey hc).1;have ns:=M7 hz;have bd:(decide ((0:Int)<=(i:Int))&&decide ((i:Int)<(l.length:Int)))=true:=Ab (w4 (by omega)) (w4 (by omega));rw[GS hc]at hk;rw[FJ]at he;have e3:GJ (AE s) c.2=AE (s+AP c.2):=by
   unfold GJ;rw[CB]
  refine zi (An ..) ?_;conv=>zeta
  rw[e1,zg,g2,e3];refine zc (w4 (by omega)) (zc bd (zf (fun k=>?_) (fun k=>?_)))
  ·have k:=w6 k;rw[wd k]at he;exact zc bd (zc (Ab (ns.num (by omega)) nb) (loop n l h64 hq r (i+1) _ _ g3 g1 hv.tail (hz.add nw.z) (by omega) (by rw[<-he,qn])))
  ·have k:=w7 k;rw[wc k,yu]at he;exact loop n l h64 hq r (i+1) K s g3 g1 hv.tail hz (by omega) he
end T65
theorem T65.ok:Ag Bh 65 Vc:=by
 refine B5 SE (fun(i:List Bg×Int) hl=>?_);obtain⟨l,n⟩:=i;have hl:(K8 l&&decide (As l=0))=true:=hl;rw[zh,w5]at hl;obtain⟨k1,k2⟩:=KT hl.1 hl.2;have z:=T65.loop (Q:=Ad Vc (l,n)) n l k1 (fun ob=>zq rfl rfl rfl) l 0 1 0 rfl (yt _) (IP hl.2) Gb (by omega) (yu _);rw[Lh]at z;exact zl (T65.Al l n) z
end Go.Pe
