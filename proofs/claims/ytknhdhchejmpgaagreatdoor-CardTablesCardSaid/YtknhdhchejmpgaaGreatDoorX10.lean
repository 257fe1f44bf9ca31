import Derived.Test.YtknhdhchejmpgaaGreatDoorX09
import Derived.Lib.Mul64
import Derived.Test.YtknhdhchejmpgaaGreatDoorX01
/- A part of a proof (no law is stated here). Made by program out of texts by AI agents. -/
open Go.IntKind renaming wrap → zc, u64 → zd, i64 → zT, wrap_i64 → yi, u8 → yw
open Go.Pe.Ends renaming tt → ze, leaf → zi, ite → zk, eq → zM, ff → zP, As → zR
open Go.Sp renaming vI → zf, u64 → zp, val → zD, sg → yd, AX → yn, hW → yx
open Go.Pe.Sh renaming int → zg, list → zy, nlist → zC, pair → zY
open Bool renaming and_eq_true → zh, true_and → zI, false_eq_true → ye, or_eq_true → yo
open Int renaming mul_le_mul_of_nonneg_right → zj, toNat_natCast → zl, fdiv → zm, eq_ofNat_of_zero_le → zo, mul_nonneg → zq, mul_assoc → zu, lt_or_le → zA, add_mul → zB, mul_le_mul_of_nonneg_left → zE, mul_comm → zG, mul_add → zH, lt_of_le_of_lt → zK, fdiv_eq_ediv_of_nonneg → zL, le_of_lt → zN, one_mul → zQ, natCast_pow → zS, natCast_mul → zX, tdiv → zZ, natCast_add → ya, tdiv_eq_ediv_of_nonneg → yf, mul_zero → yj, zero_add → ym, ediv_nonneg → yq, mul_sub → yr, toNat → yu, add_assoc → yv, pow_succ → yy
open List renaming replicate → zn, getD_eq_getElem?_getD → zt, take_of_length_le → zw, getElem?_eq_getElem → zO, take_length → zU, drop_eq_getElem_cons → zV, length → z8, cons_append → yh
open Nat renaming add → zr, mod_eq_of_lt → yg, two_pow_pos → yp, pow_add → yt
open Go.Pe.Af renaming of → zz
open BitVec renaming ofInt → zF, ofInt_natCast → z7, toNat_ofNat → yb
open UInt8 renaming toNat → zJ
open Go.Pe.PV renaming agg → zW
open Go.Lib renaming half_mul_le → yc
open Min renaming min → yk
section
namespace Go.Pe
open Sp
open Go.Det
noncomputable section
open List Int Prod
namespace T224
def T(n:Int):Tr:=tree SB false 9 224 (Ah ([zg zT]) n)
theorem An(n:Int):T n=.ite (decide (n<0)) (.leaf (.dat (zg zd) (zc .u64 (zc .i64 (0-n)))) []) (.leaf (.dat (zg zd) (zc .u64 n)) []):=by kernel_rfl
end T224
namespace T218
def T(a:Int×List Int):Tr:=tree J9 false 9 218 (Ah ([zY i64 (zC (zg zd))]) a)
theorem An(a:Int×List Int):T a=let a':=zC (zg zd);let b':=[(0,.box [.dat i64 (fst a),.dat a' (snd a)])];.ite (decide (0<length (snd a))) (.leaf (.tup [.dat Sh.bool (decide (fst a<0)),.dat a' (snd a)]) b') (.ite (fst a==0) (.leaf (.tup [.bl false,.nil]) b') (.ite (CS (fst a)) (.leaf (.tup [.dat Sh.bool (decide (fst a<0)),.sl (zr 0 1) 1 0 1 none]) ([(zr 0 1,.arr false 130 (zg zd) [Ag (fst a)]),(0,.box [.dat i64 (fst a),.dat a' (snd a)])])) .fail)):=by kernel_rfl
end T218
namespace T219
def T(neg:Bool)(w:List Int):Tr:=tree J9 false 9 219 (Ah ([Sh.bool,zy (zg zd)]) (neg,w))
theorem An(neg:Bool)(w:List Int):T neg w=let c':=zy (zg zd);let e':=zc .i64 (0-zc .i64 (getD w 0 0));let f':=decide (getD w 0 0≤9223372036854775807);let g':=(length w:Int);let h':=zc .i64 (getD w 0 0);let b':Tr:=.ite neg (.leaf (zW [.dat i64 (-1:Int),.dat c' w]) ([(0,.box [.dat i64 (-1:Int),.dat c' w])])) (.leaf (zW [.dat i64 (1:Int),.dat c' w]) ([(0,.box [.dat i64 (1:Int),.dat c' w])]));let d':=decide (0<g');let a':Tr:=.ite (g'==1) (.ite d' (.ite f' (.ite d' (.leaf (zW [.dat i64 h',.nil]) ([(0,.box [.dat i64 h',.nil])])) .fail) b') .fail) b';.ite (g'==0) (.leaf (zW [.dat i64 (0:Int),.nil]) ([(0,.box [.dat i64 (0:Int),.nil])])) (.ite (g'==1) (.ite d' (.ite f' (.ite neg (.ite d' (.leaf (zW [.dat i64 e',.nil]) ([(0,.box [.dat i64 e',.nil])])) .fail) a') a') .fail) a'):=by kernel_rfl
end T219
namespace T269
def T(w:List Int):Tr:=tree SB false 9 269 (Ah ([zy (zg zd)]) w)
def L1(v0:List Int)(v3:Int):Tr:=re ((T [])) (AI 21 [(0,.dat (zy (zg zd)) v0),(3,.dat i64 v3)] [] 0)
theorem An(w:List Int):T w=L1 w ((length w:Int)):=by kernel_rfl
theorem Ar(v0:List Int)(v3:Int):stepT SB (L1 v0 v3)=let a':Tr:=.ite (decide (0≤v3)&&decide (0≤toNat v3)&&decide (toNat v3≤length v0)) (.leaf (.dat (zy (zg zd)) (take (toNat v3) v0)) []) .fail;let b':=zc .i64 (v3-1);.ite (decide (v3>0)) (.ite (decide (0≤zc .i64 (v3-1))&&decide (zc .i64 (v3-1)<(length v0:Int))) (.ite (getD v0 (toNat b') 0==0) (L1 v0 b') a') .fail) a':=by kernel_rfl
end T269
namespace T221
def T(a b:List Int):Tr:=tree SB false 9 221 (Ah ([zy (zg zd),zy (zg zd)]) (a,b))
def L1(v0 v1:List Int)(v5:Int):Tr:=re ((T [] []).R) (AI 41 [(0,.dat (zy (zg zd)) v0),(1,.dat (zy (zg zd)) v1),(5,.dat i64 v5)] [] 0)
theorem An(a b:List Int):T a b=let a':=(length a:Int);.ite (a' !=(length b:Int)) (.ite (decide (a'<(length b:Int))) (.leaf (.dat i64 (-1:Int)) []) (.leaf (.dat i64 (1:Int)) [])) (L1 a b (zc .i64 (a'-1))):=by kernel_rfl
theorem Ar(v0 v1:List Int)(v5:Int):stepT SB (L1 v0 v1 v5)=let a':=decide (0≤v5)&&decide (v5<(length v0:Int));let b':=decide (0≤v5)&&decide (v5<(length v1:Int));.ite (decide (v5≥0)) (.ite a' (.ite b' (.ite (getD v0 (toNat v5) 0 !=getD v1 (toNat v5) 0) (.ite a' (.ite b' (.ite (decide (getD v0 (toNat v5) 0<getD v1 (toNat v5) 0)) (.leaf (.dat i64 (-1:Int)) []) (.leaf (.dat i64 (1:Int)) [])) .fail) .fail) (L1 v0 v1 (zc .i64 (v5-1)))) .fail) .fail) (.leaf (.dat i64 (0:Int)) []):=by kernel_rfl
end T221
namespace T220
def T(x y:List Int):Tr:=tree J9 false 9 220 (Ah ([zy (zg zd),zy (zg zd)]) (x,y))
def L1(v0 v1:List Int)(v5n:Nat)(v6 v21 v22:Int)(o0:List Int):Tr:=re ((T [] []).L.L) (AI 54 [(0,.dat (zy (zg zd)) v0),(1,.dat (zy (zg zd)) v1),(5,.sl 0 1 0 v5n none),(6,.dat (zg zd) v6),(21,.dat i64 v21),(22,.dat i64 v22)] [(0,.arr false 130 (zg zd) o0)] 1)
theorem An(x y:List Int):T x y=let a':=(length x:Int);let b':=(length y:Int);let c':=zc .i64 (b'+1);let d':=zc .i64 (a'+1);.ite (decide (a'<b')) (.ite (decide (0≤zc .i64 (b'+1))&&decide (zc .i64 (b'+1)=zc .i64 (b'+1))&&decide (8*toNat c'≤281474976710656)&&decide (zc .i64 (b'+1)<9223372036854775808)) (L1 y x (toNat c') 0 (b') 0 (replicate (toNat c') 0)) .fail) (.ite (decide (0≤zc .i64 (a'+1))&&decide (zc .i64 (a'+1)=zc .i64 (a'+1))&&decide (8*toNat d'≤281474976710656)&&decide (zc .i64 (a'+1)<9223372036854775808)) (L1 x y (toNat d') 0 (a') 0 (replicate (toNat d') 0)) .fail):=by kernel_rfl
theorem Ar(v0 v1:List Int)(v5n:Nat)(v6 v21 v22:Int)(o0:List Int):stepT J9 (L1 v0 v1 v5n v6 v21 v22 o0)=let a':=getD v0 (toNat v22) 0;let b':=(length v0:Int);let d':=getD v1 (toNat v22) 0;let e':=decide (0≤v22)&&decide (v22<(↑v5n:Int));let f':=decide ((0:Sh.T (BA [u64]))≤v6);let g':=decide (v6≤(1:Sh.T (BA [u64])));let i':=decide (toNat v22<length o0);let j':=decide (v22<(length v1:Int));let k':=zc .i64 (v22+1);let c':=set o0 (toNat b') v6;let h':=decide (0≤v22)&&decide (v22<b');.ite (decide (v22<v21)) (.ite (j') (.ite (decide (0≤v22)&&j') (.ite h' (.ite (zp a'&&zp d'&&f'&&g') (.ite e' (.ite i' (L1 v0 v1 v5n (Nw a' d' v6) v21 k' (set o0 (toNat v22) (Hp a' d' v6))) .fail) .fail) .fail) .fail) .fail) (.ite h' (.ite (zp a'&&zp 0&&f'&&g') (.ite e' (.ite i' (L1 v0 v1 v5n (Nw a' 0 v6) v21 k' (set o0 (toNat v22) (Hp a' 0 v6))) .fail) .fail) .fail) .fail)) (.ite (decide (0≤b')&&decide (b'<(↑v5n:Int))) (.ite (decide (toNat b'<length o0)) (.ite (decide (0+v5n≤length c')&&true&&Cx (take v5n c')) (.leaf (.dat (zy (zg zd)) (Au (take v5n c'))) ([(0,.arr true 130 (zg zd) c')])) .fail) .fail) .fail):=by kernel_rfl
end T220
namespace T222
def T(x y:List Int):Tr:=tree J9 false 9 222 (Ah ([zy (zg zd),zy (zg zd)]) (x,y))
def L1(v0 v1:List Int)(v5n:Nat)(v6 v13 v14:Int)(o0:List Int):Tr:=re ((T [] []).L) (AI 41 [(0,.dat (zy (zg zd)) v0),(1,.dat (zy (zg zd)) v1),(5,.sl 0 1 0 v5n none),(6,.dat (zg zd) v6),(13,.dat i64 v13),(14,.dat i64 v14)] [(0,.arr false 130 (zg zd) o0)] 1)
theorem An(x y:List Int):T x y=let a':=(length x:Int);.ite (decide (0≤a')&&decide (a'=a')&&decide (8*toNat a'≤281474976710656)&&decide (a'<9223372036854775808)) (L1 x y (toNat a') 0 (a') 0 (replicate (toNat a') 0)) .fail:=by kernel_rfl
theorem Ar(v0 v1:List Int)(v5n:Nat)(v6 v13 v14:Int)(o0:List Int):stepT J9 (L1 v0 v1 v5n v6 v13 v14 o0)=let a':=getD v0 (toNat v14) 0;let b':=decide (0≤v14)&&decide (v14<(length v0:Int));let c':=getD v1 (toNat v14) 0;let d':=decide (0≤v14)&&decide (v14<(↑v5n:Int));let e':=decide ((0:Sh.T (BA [u64]))≤v6);let f':=decide (v6≤(1:Sh.T (BA [u64])));let g':=decide (toNat v14<length o0);let h':=decide (v14<(length v1:Int));let i':=zc .i64 (v14+1);.ite (decide (v14<v13)) (.ite (h') (.ite (decide (0≤v14)&&h') (.ite b' (.ite (zp a'&&zp c'&&e'&&f') (.ite d' (.ite g' (L1 v0 v1 v5n (O8 a' c' v6) v13 i' (set o0 (toNat v14) (R4 a' c' v6))) .fail) .fail) .fail) .fail) .fail) (.ite b' (.ite (zp a'&&zp 0&&e'&&f') (.ite d' (.ite g' (L1 v0 v1 v5n (O8 a' 0 v6) v13 i' (set o0 (toNat v14) (R4 a' 0 v6))) .fail) .fail) .fail) .fail)) (.ite (decide (0+v5n≤length o0)&&true&&Cx (take v5n o0)) (.leaf (.dat (zy (zg zd)) (Au (take v5n o0))) ([(0,.arr true 130 (zg zd) o0)])) .fail):=by kernel_rfl
end T222
namespace T223
def T(x y:Int):Tr:=tree SB false 9 223 (Ah ([zg zd,zg zd]) (x,y))
theorem An(x y:Int):T x y=let a':=zc .u64 (zc .u64 (zm x (2^32)*GI zd y 4294967295)+zm (zc .u64 (GI zd x 4294967295*GI zd y 4294967295)) (2^32));.ite true (.ite true (.ite true (.ite true (.ite true (.leaf (.tup [.dat (zg zd) (zc .u64 (zc .u64 (zc .u64 (zm x (2^32)*zm y (2^32))+zm a' (2^32))+zm (zc .u64 (GI zd a' 4294967295+zc .u64 (GI zd x 4294967295*zm y (2^32)))) (2^32))),.dat (zg zd) (zc .u64 (x*y))]) []) .fail) .fail) .fail) .fail) .fail:=by kernel_rfl
end T223
namespace T225
def T(x y:List Int):Tr:=tree J9 false 9 225 (Ah ([zy (zg zd),zy (zg zd)]) (x,y))
def L1(v1:List Int)(v5n:Nat)(v20:List Int)(v21 v22:Int)(o0:List Int):Tr:=re ((T [] []).L) (AI 80 [(1,.dat (zy (zg zd)) v1),(5,.sl 0 1 0 v5n none),(20,.dat (zy (zg zd)) v20),(21,.dat i64 v21),(22,.dat i64 v22)] [(0,.arr false 130 (zg zd) o0)] 1)
theorem An(x y:List Int):T x y=let a':=(length x:Int)+(length y:Int);let b':=zc .i64 a';.ite (decide (0≤zc .i64 a')&&decide (zc .i64 a'=zc .i64 a')&&decide (8*toNat b'≤281474976710656)&&decide (zc .i64 a'<9223372036854775808)) (L1 y (toNat b') x ((length x:Int)) 0 (replicate (toNat b') 0)) .fail:=by kernel_rfl
def L2(v1:List Int)(v5n:Nat)(v6 v7 v8:Int)(v20:List Int)(v21 v22:Int)(v27:List Int)(v28 v29:Int)(o0:List Int):Tr:=re ((stepT J9 (L1 [] 0 [] 0 0 [])).L.L) (AI 80 [(1,.dat (zy (zg zd)) v1),(5,.sl 0 1 0 v5n none),(6,.dat i64 v6),(7,.dat (zg zd) v7),(8,.dat (zg zd) v8),(20,.dat (zy (zg zd)) v20),(21,.dat i64 v21),(22,.dat i64 v22),(27,.dat (zy (zg zd)) v27),(28,.dat i64 v28),(29,.dat i64 v29)] [(0,.arr false 130 (zg zd) o0)] 1)
theorem Ar(v1:List Int)(v5n:Nat)(v20:List Int)(v21 v22:Int)(o0:List Int):stepT J9 (L1 v1 v5n v20 v21 v22 o0)=.ite (decide (v22<v21)) (.ite (decide (0≤v22)&&decide (v22<(length v20:Int))) (L2 v1 v5n v22 (getD v20 (toNat v22) 0) 0 v20 v21 v22 v1 ((length v1:Int)) 0 o0) .fail) (.ite (decide (0+v5n≤length o0)&&true&&Cx (take v5n o0)) (.leaf (.dat (zy (zg zd)) (Au (take v5n o0))) ([(0,.arr true 130 (zg zd) o0)])) .fail):=by kernel_rfl
theorem A1(v1:List Int)(v5n:Nat)(v6 v7 v8:Int)(v20:List Int)(v21 v22:Int)(v27:List Int)(v28 v29:Int)(o0:List Int):stepT J9 (L2 v1 v5n v6 v7 v8 v20 v21 v22 v27 v28 v29 o0)=let b':=zc .i64 (v6+v29);let c':=getD v27 (toNat v29) 0;let d':=decide (0≤zc .i64 (v6+v29))&&decide (zc .i64 (v6+v29)<(↑v5n:Int));let e':=v6+(length v1:Int);let g':=decide ((0:Sh.T (BA [u64]))≤0);let h':=decide (0≤(1:Sh.T (BA [u64])));let f':=getD o0 (toNat b') 0;let i':=decide (toNat b'<length o0);let j':=H5 v7 c';let a':=Hp j' f' 0;.ite (decide (v29<v28)) (.ite (decide (0≤v29)&&decide (v29<(length v27:Int))) (.ite (zp v7&&zp c') (.ite d' (.ite i' (.ite (zp j'&&zp f'&&g'&&h') (.ite (zp a'&&zp v8&&g'&&h') (.ite d' (.ite i' (L2 v1 v5n v6 v7 (zc .u64 (zc .u64 (Pw v7 c'+Nw j' f' 0)+Nw a' v8 0)) v20 v21 v22 v27 v28 (zc .i64 (v29+1)) (set o0 (toNat b') (Hp a' v8 0))) .fail) .fail) .fail) .fail) .fail) .fail) .fail) .fail) (.ite (decide (0≤zc .i64 e')&&decide (zc .i64 e'<(↑v5n:Int))) (.ite (decide (toNat (zc .i64 e')<length o0)) (L1 v1 v5n v20 v21 (zc .i64 (v22+1)) (set o0 (toNat (zc .i64 e')) v8)) .fail) .fail):=by kernel_rfl
end T225
end
end Go.Pe
end
section
namespace Go.Pe
open Sp
open Go.Det
theorem Ir:∀g sp,SB.sp g=some sp→Ae AV g sp:=fun g sp h=>by cases h
theorem wu(x:Int)(h1:0≤x)(h2:x≤18446744073709551615):zc .u64 x=x:=IntWalk.u64_in x ⟨h1,h2⟩
theorem Em{n:Int}(h:CS n=true): -9223372036854775808≤n∧n<9223372036854775808:=by
 unfold CS at h;rw[zh,decide_eq_true_eq,decide_eq_true_eq]at h;exact h
namespace T224
theorem ok:Ae AV 224 Ux:=by
 refine AB (X:=SB) rfl Ir (d:=9) (by kernel_rfl) (by kernel_rfl) (by kernel_rfl) (fun(n:Int) hn=>?_) (Ad (by kernel_rfl));have hn:=Em (n:=n) hn;refine zM (An n) (zk (fun c=>?_) (fun c=>?_))
 ·have c:=of_decide_eq_true c;refine zi (zz rfl rfl ?_);show zc .u64 (zc .i64 (0-n))=Ag n;simp only[Ai];rcases zA (-9223372036854775808) n with h|h
  ·rw[wr _ (by omega) (by omega),wu _ (by omega) (by omega)];omega
  ·have:n= -9223372036854775808:=by omega
   subst this;decide+kernel
 ·have c:=of_decide_eq_false c;refine zi (zz rfl rfl ?_);show zc .u64 n=Ag n;simp only[Ai];rw[wu _ (by omega) (by omega)];omega
end T224
namespace T269
theorem Aj{Q:PV→Ob→Prop}(w:List Int)(hw:w.length≤20000)(hq:∀ob,Q (.dat CW (Au w)) ob):∀(i:Nat),i≤w.length→Au w=Au (w.take i)→Ends SB (L1 w i) Q
 |0,hi,he=>by
  have he:Au w=[]:=he;rw[he]at hq;refine zR (Ar ..) (zP (by simp) (ze (by simp) (zi (hq _))))
 |i+1,hi,he=>by
  have e1:zc .i64 (((i+1:Nat):Int)-1)=(i:Int):=by rw[wr _ (by omega) (by omega)];omega
  have ht:w.take (i+1)=w.take i++[w.getD i 0]:=by
   rw[List.take_add_one];congr 1;rw[zt,zO (by omega)];rfl
  refine zR (Ar ..) (ze (by simp<;>omega) ?_);rw[e1,zl];refine ze (by simp<;>omega) (zk (fun c=>?_) (fun c=>?_))
  ·have c:w.getD i 0=0:=by simpa using c
   refine Aj w hw hq i (by omega) ?_;rw[he,ht,c,HE]
  ·have c:w.getD i 0≠0:=by simpa using c
   refine ze (by simp;omega) (zi ?_);have:Au w=w.take (i+1):=by rw[he,ht,HT (Vz c)]
   rw[this]at hq;exact hq _
theorem ok:Ae AV 269 UL:=by
 refine AB (X:=SB) rfl Ir (d:=9) (by kernel_rfl) (by kernel_rfl) (by kernel_rfl) (fun(w:List Int) hw=>?_) (Ad (by kernel_rfl));obtain⟨h1,h2⟩:=Hz (l:=w) hw;refine zM (An w) (Aj w h1 (fun ob=>zz rfl rfl rfl) w.length (Nat.le_refl _) (by rw[zU]))
end T269
theorem ED{l:List Int}(h:B2 l=true):l.length≤20000∧Av Ak l∧Sp.nz l:=by
 unfold B2 at h;rw[zh]at h;have:=Hz h.1;exact⟨this.1,this.2,by
  have:=h.2;unfold pE at this;have:l.getLast?≠some 0:=of_decide_eq_true this;exact this⟩
namespace T221
theorem Aj{Q:PV→Ob→Prop}(a b:List Int)(ha:Av Ak a)(hb:Av Ak b)(hl:a.length=b.length)(h2:b.length≤20000)(hq:∀ob,Q (.dat i64 (BX (Am a) (Am b))) ob):∀(i:Nat),i≤a.length→a.drop i=b.drop i→Ends SB (L1 a b ((i:Int)-1)) Q
 |0,hi,he=>by
  have he:a=b:=he;have:BX (Am a) (Am b)=0:=by rw[he];unfold BX;simp
  rw[this]at hq;exact zR (Ar ..) (zP (by simp) (zi (hq _)))
 |i+1,hi,he=>by
  have e1:(((i+1:Nat):Int)-1)=(i:Int):=by omega
  have da:a.drop i=a.getD i 0::a.drop (i+1):=by
   rw[zt,zO (by omega)];exact zV (by omega)
  have db:b.drop i=b.getD i 0::a.drop (i+1):=by
   rw[he,zt,zO (by omega)];exact zV (by omega)
  have ga:=yn (AR ha i);have gb:=yn (AR hb i);rw[e1];refine zR (Ar ..) (ze (by simp) ?_);rw[zl];refine ze (by simp;omega) (ze (by simp;omega) (zk (fun c=>ze (by simp;omega) (ze (by simp;omega) (zk (fun d=>?_) (fun d=>?_)))) (fun c=>?_)))
  ·have d:=of_decide_eq_true d;have:=IJ (b:=Ak) (by decide) ha hb da db d;have e:BX (Am a) (Am b)= -1:=by unfold BX;exact if_pos this
   rw[e]at hq;exact zi (hq _)
  ·have d:=of_decide_eq_false d;have c:a.getD i 0≠b.getD i 0:=by simpa using c
   have:=IJ (b:=Ak) (by decide) hb ha db da (by omega);have e:BX (Am a) (Am b)=1:=by
    unfold BX Am;rw[if_neg (by omega),if_pos (by omega)]
   rw[e]at hq;exact zi (hq _)
  ·have c:a.getD i 0=b.getD i 0:=by simpa using c
   rw[wr ((i:Int)-1) (by omega) (by omega)];exact Aj a b ha hb hl h2 hq i (by omega) (by rw[da,db,c])
theorem ok:Ae AV 221 WO:=by
 refine AB (X:=SB) rfl Ir (d:=9) (by kernel_rfl) (by kernel_rfl) (by kernel_rfl) (fun(i:List Int×List Int) hi=>?_) (Ad (by kernel_rfl));obtain⟨a,b⟩:=i;have hi:(B2 a&&B2 b)=true:=hi;rw[zh]at hi;obtain⟨a1,a2,a3⟩:=ED hi.1;obtain⟨b1,b2,b3⟩:=ED hi.2;have hq:∀ob,Af WO (a,b) (.dat i64 (BX (Am a) (Am b))) ob:=fun ob=>zz rfl rfl rfl
 refine zM (An a b) (zk (fun c=>zk (fun d=>?_) (fun d=>?_)) (fun c=>?_))
 ·have d:=of_decide_eq_true d;have e:BX (Am a) (Am b)= -1:=by unfold BX;exact if_pos (Ee (by decide) a2 b2 b3 (by omega))
  rw[e]at hq;exact zi (hq _)
 ·have d:=of_decide_eq_false d;have c:(a.length:Int)≠b.length:=by simpa using c
  have:=Ee (b:=Ak) (by decide) b2 a2 a3 (by omega);have e:BX (Am a) (Am b)=1:=by
   unfold BX Am;rw[if_neg (by omega),if_pos (by omega)]
  rw[e]at hq;exact zi (hq _)
 ·have c:(a.length:Int)=b.length:=by simpa using c
  rw[wr _ (by omega) (by omega)];exact Aj a b a2 b2 (by omega) b1 hq a.length (Nat.le_refl _) (by rw[List.drop_length,show a.length=b.length by omega,List.drop_length])
end T221
end Go.Pe
end
section
namespace Go.Pe
open Sp
open Go.Det
theorem DE{a:AT}(h:Dt a=true):(-9223372036854775808≤a.1∧a.1<9223372036854775808)∧(a.2=[]∨(B2 a.2=true∧(a.1=1∨a.1= -1)∧9223372036854775808≤Am a.2)):=by
 unfold Dt at h;rw[zh,yo,zh,zh,yo,decide_eq_true_eq,decide_eq_true_eq,decide_eq_true_eq,decide_eq_true_eq]at h;exact⟨Em h.1,h.2.imp id fun h=>⟨h.1.1,h.1.2,h.2⟩⟩
theorem val_one(d:Int):zD Ak [d]=d:=by simp[zD]
theorem oA{d:Int}(h1:0<d)(h2:d<18446744073709551616):[d]=Bp d:=by
 have:=Ih (b:=Ak) (l:=[d]) (by decide) (fun x hx=>by rw[List.mem_singleton]at hx;subst hx;exact⟨by omega,h2⟩) (by unfold Sp.nz;simp;omega);rw[val_one]at this;exact this
theorem Eh{s:Int}:zf (s,[])=s:=by unfold zf;exact if_pos rfl
namespace T218
theorem ok(hall:∀g sp,J9.sp g=some sp→Ae AV g sp):Ae AV 218 NB:=by
 refine AB (X:=J9) rfl hall (d:=9) (by kernel_rfl) (by kernel_rfl) (by kernel_rfl) (fun(a:Int×List Int) ha=>?_) (Ad (by kernel_rfl));obtain⟨hr,hw⟩:=DE (a:=a) ha;obtain⟨s,w⟩:=a;have hr: -9223372036854775808≤s∧s<9223372036854775808:=hr;refine zM (An (s,w)) (zk (fun c=>?_) (fun c=>zk (fun d=>?_) (fun d=>ze ?_ ?_)))
 ·have c:0<w.length:=of_decide_eq_true c;have hne:w≠[]:=by rintro rfl;simp at c
  rcases hw with hw|⟨h1,h2,h3⟩
  ·exact absurd hw hne
  ·obtain⟨n1,n2,n3⟩:=ED h1;have h2:s=1∨s= -1:=h2;have h3:9223372036854775808≤Am w:=h3;have ev:zf (s,w)=if s<0 then -Am w else Am w:=by unfold zf;exact if_neg hne
   have e1:Ag (zf (s,w))=Am w:=by rw[ev];simp only[Ai];split<;>omega
   have e2:decide (zf (s,w)<0)=decide (s<0):=by
    rw[ev];rcases h2 with rfl|rfl<;>simp<;>omega
   refine zi (zz rfl rfl ?_);show(decide (s<0),w)=(decide (zf (s,w)<0),Bp (Ag (zf (s,w))));rw[e1,e2,show w=Bp (Am w)from Ih (by decide) n2 n3];congr 2;exact(CE (b:=Ak) (by decide) (Az (b:=Ak) (by decide) n2)).symm
 all_goals
  have c:¬0<w.length:=of_decide_eq_false c;have hn:w=[]:=List.length_eq_zero_iff.1 (by omega);subst hn
 ·have d:s=0:=by simpa using d
  subst d;exact zi (zz rfl rfl rfl)
 ·show CS s=true;unfold CS;rw[zh,decide_eq_true_eq,decide_eq_true_eq];exact hr
 ·have d:s≠0:=by simpa using d
  refine zi (zz rfl rfl ?_);show(decide (s<0),[Ag s])=(decide (zf (s,[])<0),Bp (Ag (zf (s,[]))));rw[Eh,oA (d:=Ag s) (by simp only[Ai];omega) (by simp only[Ai];omega)]
end T218
theorem BT{n:Int}(h: -9223372036854775808<n∧n<9223372036854775808):CG n=(n,[]):=if_pos h
theorem Re{w:List Int}(neg:Bool)(h1:Av Ak w)(h2:Sp.nz w)(h3:9223372036854775808≤Am w):CG (if neg=true then -Am w else Am w)=(if neg=true then -1 else 1,w):=by
 have e:Bp (Am w)=w:=(Ih (by decide) h1 h2).symm;cases neg with
 |true=>
  simp only[if_true];unfold CG;rw[if_neg (by omega),if_pos (by omega)];rw[show Ag (-Am w)=Am w by simp only[Ai];omega,e]
 |false=>
  show CG (Am w)=(1,w);unfold CG;rw[if_neg (by omega),if_neg (by omega)];rw[show Ag (Am w)=Am w by simp only[Ai];omega,e]
namespace T219
theorem ok(hall:∀g sp,J9.sp g=some sp→Ae AV g sp):Ae AV 219 bG:=by
 refine AB (X:=J9) rfl hall (d:=9) (by kernel_rfl) (by kernel_rfl) (by kernel_rfl) (fun(i:Bool×List Int) hi=>?_) (Ad (by kernel_rfl));obtain⟨neg,w⟩:=i;obtain⟨n1,n2,n3⟩:=ED (l:=w) hi;refine zM (An neg w) ?_;conv=>zeta
 cases w with
 |nil=>
  refine ze rfl (zi (zz rfl rfl ?_));show _=CG (if neg=true then -0 else 0);rw[show(if neg=true then(-0:Int)else 0)=0 by split<;>rfl,BT (by omega)]
 |cons d t=>
  cases t with
  |nil=>
   have hd:=n2 d (by simp);have hz:d≠0:=by intro h;subst h;exact n3 rfl
   have hd1:0≤d:=hd.1;have hd2:d<18446744073709551616:=hd.2;have ev:Am [d]=d:=val_one d;refine zP rfl (ze rfl (ze rfl (zk (fun c=>?_) (fun c=>?_))))
   ·have c:d≤9223372036854775807:=of_decide_eq_true c;have e1:zc .i64 d=d:=wr _ (by omega) (by omega);have e2:zc .i64 (0-d)= -d:=by rw[wr _ (by omega) (by omega)];omega
    refine zk (fun n=>ze rfl (zi (zz rfl rfl ?_))) (fun n=>ze rfl (ze rfl (ze (decide_eq_true c) (ze rfl (zi (zz rfl rfl ?_))))))
    ·show(zc .i64 (0-zc .i64 d),[])=CG (if neg=true then -Am [d]else Am [d]);rw[e1,e2,if_pos n,ev,BT (by omega)]
    ·show(zc .i64 d,[])=CG (if neg=true then -Am [d]else Am [d]);subst n;rw[e1,if_neg (by decide),ev,BT (by omega)]
   ·have c':¬d≤9223372036854775807:=of_decide_eq_false c;have hb:=Re neg n2 n3 (by rw[ev];omega);refine ze rfl (ze rfl (zP c (zk (fun n=>zi (zz rfl rfl ?_)) (fun n=>zi (zz rfl rfl ?_)))))
    ·show(-1,[d])=CG (if neg=true then -Am [d]else Am [d]);rw[hb,if_pos n]
    ·show(1,[d])=CG (if neg=true then -Am [d]else Am [d]);rw[hb,n];rfl
  |cons e t=>
   have hv:9223372036854775808≤Am (d::e::t):=by
    have h:=CU (b:=Ak) (by decide) n2 n3 (by simp);have h2:=AL (b:=Ak) (by decide) (show 1≤(d::e::t).length-1 by simp);rw[Int.pow_one]at h2;have:(9223372036854775808:Int)≤(Ak:Int):=by decide
    exact Int.le_trans this (Int.le_trans h2 h)
   have hb:=Re neg n2 n3 hv;have z0:(((d::e::t).length:Int)==0)=false:=by simp;omega
   have z1:(((d::e::t).length:Int)==1)=false:=by simp;omega
   refine zP z0 (zP z1 (zP z1 (zk (fun n=>zi (zz rfl rfl ?_)) (fun n=>zi (zz rfl rfl ?_)))))
   ·show(-1,d::e::t)=CG (if neg=true then -Am (d::e::t)else Am (d::e::t));rw[hb,if_pos n]
   ·show(1,d::e::t)=CG (if neg=true then -Am (d::e::t)else Am (d::e::t));rw[hb,n];rfl
end T219
namespace T220
variable {Q:PV→Ob→Prop}
theorem Aj(x y:List Int)(hx:Av Ak x)(hy:Av Ak y)(hl:y.length≤x.length)(hm:x.length≤9000)(hq:∀ob,Q (.dat CW (Bp (Am x+Am y))) ob):∀(k i:Nat) (p:List Int) (c:Int),i+k=x.length→p.length=i→Av Ak p→(0≤c∧c≤1)→zD Ak p+(Ak:Int)^i*c=zD Ak (x.take i)+zD Ak (y.take i)→
  Ends J9 (L1 x y (x.length+1) c x.length i (p++zn (x.length+1-i) 0)) Q
 |0,i,p,c,hi,hp,hd,hc,he=>by
  have hi:i=x.length:=by omega
  subst hi;have er:x.length+1-x.length=1:=by omega
  have es:(p++zn (x.length+1-x.length) (0:Int)).set x.length c=p++[c]:=by
   rw[er];exact Pe.C5 p [] 0 c hp
  have ht:(p++[c]).take (x.length+1)=p++[c]:=zw (by simp;omega);have hd':Av Ak (p++[c]):=DL hd (Cu hc.1 (by omega));have hv:Am (p++[c])=Am x+Am y:=by
   unfold Am;rw[Ex,hp,he,zU,zw hl]
  refine zR (Ar ..) (zP (by simp) ?_);rw[zl,es,ht];refine ze (by simp<;>omega) (ze (by simp;omega) (ze ?_ (zi ?_)))
  ·rw[D5 (by simp;omega) hd'];simp;omega
  ·rw[KL hd',hv];exact hq _
 |k+1,i,p,c,hi,hp,hd,hc,he=>by
  have gx:=AR hx i;have gy:=AR hy i;have lo:(p++zn (x.length+1-i) (0:Int)).length=x.length+1:=by simp;omega
  have step:∀z,zp z=true→z=y.getD i 0→Ends J9 (L1 x y (x.length+1) (Nw (x.getD i 0) z c) x.length (zc .i64 ((i:Int)+1)) ((p++zn (x.length+1-i) 0).set i (Hp (x.getD i 0) z c))) Q:=by
   intro z hz ez;obtain⟨a1,a2,a3⟩:=JP gx hz hc;rw[wr ((i:Int)+1) (by omega) (by omega),IQ p (x.length+1) i _ hp (by omega)];refine Aj x y hx hy hl hm hq k (i+1) (p++[Hp (x.getD i 0) z c]) _ (by omega) (by simp;omega) (DL hd a1) a2 ?_;rw[Ex,hp,Ky,AF _ x i,AF _ y i, ←ez,yv, ←zH,a3,zH,zH];omega
  refine zR (Ar ..) (ze (by simp;omega) ?_);rw[zl];refine zk (fun d=>?_) (fun d=>?_)
  ·have d:=of_decide_eq_true d;refine ze (by simp;omega) (ze (by simp;omega) (ze ?_ (ze (by simp;omega) (ze (decide_eq_true (by rw[lo];omega)) (step _ gy rfl)))));rw[gx,gy,zI,zI,zh];exact⟨decide_eq_true hc.1,decide_eq_true hc.2⟩
  ·have d:=of_decide_eq_false d;have hz:y.getD i 0=0:=by rw[zt,List.getElem?_eq_none (by omega)];rfl
   refine ze (by simp;omega) (ze ?_ (ze (by simp;omega) (ze (decide_eq_true (by rw[lo];omega)) (step _ rfl hz.symm))));rw[gx,show zp 0=true from rfl,zI,zI,zh];exact⟨decide_eq_true hc.1,decide_eq_true hc.2⟩
theorem start(x y:List Int)(hx:Av Ak x)(hy:Av Ak y)(hl:y.length≤x.length)(hm:x.length≤9000)(hq:∀ob,Q (.dat CW (Bp (Am x+Am y))) ob){t:Tr}:
  Ends J9 (.ite (decide ((0:Int)≤zc zT ((x.length:Int)+(1:Int)))&&decide (zc zT ((x.length:Int)+(1:Int))=zc zT ((x.length:Int)+(1:Int)))&&decide ((8:Nat)*yu (zc zT ((x.length:Int)+(1:Int)))≤(281474976710656:Nat))&&decide (zc zT ((x.length:Int)+(1:Int))<(9223372036854775808:Int)))
   (L1 x y (yu (zc zT ((x.length:Int)+(1:Int)))) ((0:Int)) ((x.length:Int)) ((0:Int)) (zn (yu (zc zT ((x.length:Int)+(1:Int)))) (0:Int))) t) Q:=by
 have e1:zc .i64 ((x.length:Int)+1)=((x.length+1:Nat):Int):=by rw[wr _ (by omega) (by omega)];omega
 rw[e1,zl];refine ze (by simp;omega) ?_;exact Aj x y hx hy hl hm hq x.length 0 [] 0 (by omega) rfl (fun _ h=>by cases h) (by omega) (by simp[zD])
theorem ok(hall:∀g sp,J9.sp g=some sp→Ae AV g sp):Ae AV 220 bL:=by
 refine AB (X:=J9) rfl hall (d:=9) (by kernel_rfl) (by kernel_rfl) (by kernel_rfl) (fun(i:List Int×List Int) hi=>?_) (Ad (by kernel_rfl));obtain⟨x,y⟩:=i;have hi:(yx x&&yx y)=true:=hi;rw[zh]at hi;obtain⟨x1,x2⟩:=VM hi.1;obtain⟨y1,y2⟩:=VM hi.2;have hq:∀ob,Af bL (x,y) (.dat CW (Bp (Am x+Am y))) ob:=fun ob=>zz rfl rfl rfl
 refine zM (An x y) (zk (fun c=>?_) (fun c=>?_))
 ·have c:=of_decide_eq_true c;exact start y x y2 x2 (by omega) y1 (by rw[Int.add_comm];exact hq)
 ·have c:=of_decide_eq_false c;exact start x y x2 y2 (by omega) x1 hq
end T220
namespace T222
variable {Q:PV→Ob→Prop}
theorem Zd{b:Int}(hb:0<b){l:List Int}{n:Nat}(h:Av b l)(hv:zD b l<b^n):zD b (l.take n)=zD b l:=by
 rcases Nat.lt_or_ge n l.length with hn|hn
 ·have h1:=B7 b l n (by omega);have h2:=Az (by omega) (AM h n);have h3:=Az (by omega) (Eb h n);rcases zA 0 (zD b (l.drop n))with h4|h4
  ·have:=zE (show 1≤zD b (l.drop n)by omega) (zN (AN hb n));rw[Int.mul_one]at this;omega
  ·have:zD b (l.drop n)=0:=by omega
   rw[this,yj]at h1;omega
 ·rw[zw hn]
theorem Aj(x y:List Int)(hx:Av Ak x)(hy:Av Ak y)(hl:Am y≤Am x)(hm:x.length≤20000)(hq:∀ob,Q (.dat CW (Bp (Am x-Am y))) ob):∀(k i:Nat) (p:List Int) (c:Int),i+k=x.length→p.length=i→Av Ak p→(0≤c∧c≤1)→zD Ak p-(Ak:Int)^i*c=zD Ak (x.take i)-zD Ak (y.take i)→
  Ends J9 (L1 x y x.length c x.length i (p++zn (x.length-i) 0)) Q
 |0,i,p,c,hi,hp,hd,hc,he=>by
  have hi:i=x.length:=by omega
  subst hi;have er:p++zn (x.length-x.length) (0:Int)=p:=by rw[Nat.sub_self];simp
  have ht:p.take x.length=p:=zw (by omega);have hX:Am x<(Ak:Int)^x.length:=Bo (by decide) hx;have hP:Am p<(Ak:Int)^p.length:=Bo (by decide) hd;have hv:Am p=Am x-Am y:=by
   rw[zU,Zd (by decide) hy (show zD Ak y<_ from zK hl hX)]at he;have he:Am p-(Ak:Int)^x.length*c=Am x-Am y:=he;rw[hp]at hP;rcases zA 0 c with h|h
   ·have:c=1:=by omega
    subst this;rw[Int.mul_one]at he;omega
   ·have:c=0:=by omega
    subst this;rw[yj]at he;omega
  rw[er];refine zR (Ar ..) (zP (by simp) ?_);rw[ht];refine ze ?_ (zi ?_)
  ·rw[D5 (by omega) hd];simp;omega
  ·rw[KL hd,hv];exact hq _
 |k+1,i,p,c,hi,hp,hd,hc,he=>by
  have gx:=AR hx i;have gy:=AR hy i;have lo:(p++zn (x.length-i) (0:Int)).length=x.length:=by simp;omega
  have step:∀z,zp z=true→z=y.getD i 0→Ends J9 (L1 x y x.length (O8 (x.getD i 0) z c) x.length (zc .i64 ((i:Int)+1)) ((p++zn (x.length-i) 0).set i (R4 (x.getD i 0) z c))) Q:=by
   intro z hz ez;obtain⟨a1,a2,a3⟩:=Sp.Gj gx hz hc;rw[wr ((i:Int)+1) (by omega) (by omega),IQ p x.length i _ hp (by omega)];refine Aj x y hx hy hl hm hq k (i+1) (p++[R4 (x.getD i 0) z c]) _ (by omega) (by simp;omega) (DL hd a1) a2 ?_;have e:(Ak:Int)^i*R4 (x.getD i 0) z c-(Ak:Int)^i*(18446744073709551616*O8 (x.getD i 0) z c)=(Ak:Int)^i*x.getD i 0-(Ak:Int)^i*z-(Ak:Int)^i*c:=by
    rw[←yr,a3,yr,yr]
   rw[Ex,hp,Ky,AF _ x i,AF _ y i, ←ez];omega
  refine zR (Ar ..) (ze (by simp;omega) ?_);rw[zl];refine zk (fun d=>?_) (fun d=>?_)
  ·have d:=of_decide_eq_true d;refine ze (by simp;omega) (ze (by simp;omega) (ze ?_ (ze (by simp;omega) (ze (decide_eq_true (by rw[lo];omega)) (step _ gy rfl)))));rw[gx,gy,zI,zI,zh];exact⟨decide_eq_true hc.1,decide_eq_true hc.2⟩
  ·have d:=of_decide_eq_false d;have hz:y.getD i 0=0:=by rw[zt,List.getElem?_eq_none (by omega)];rfl
   refine ze (by simp;omega) (ze ?_ (ze (by simp;omega) (ze (decide_eq_true (by rw[lo];omega)) (step _ rfl hz.symm))));rw[gx,show zp 0=true from rfl,zI,zI,zh];exact⟨decide_eq_true hc.1,decide_eq_true hc.2⟩
theorem ok(hall:∀g sp,J9.sp g=some sp→Ae AV g sp):Ae AV 222 Zn:=by
 refine AB (X:=J9) rfl hall (d:=9) (by kernel_rfl) (by kernel_rfl) (by kernel_rfl) (fun(i:List Int×List Int) hi=>?_) (Ad (by kernel_rfl));obtain⟨x,y⟩:=i;have hi:(Cx x&&Cx y&&decide (Am y≤Am x))=true:=hi;rw[zh,zh,decide_eq_true_eq]at hi;obtain⟨x1,x2⟩:=Hz hi.1.1;obtain⟨y1,y2⟩:=Hz hi.1.2;have hq:∀ob,Af Zn (x,y) (.dat CW (Bp (Am x-Am y))) ob:=fun ob=>zz rfl rfl rfl
 refine zM (An x y) ?_;conv=>zeta
 rw[zl];refine ze (by simp;omega) ?_;exact Aj x y x2 y2 hi.2 x1 hq x.length 0 [] 0 (by omega) rfl (fun _ h=>by cases h) (by omega) (by simp[zD])
end T222
end Go.Pe
end
section
namespace Go.Pe
open Sp
open Go.Det
theorem Kn(n:Int):zc .u64 n=n % 18446744073709551616:=by simp[zc,IntKind.bits,IntKind.signed]
theorem XK(n:Nat):zm (n:Int) ((2:Int)^(32:Nat))=((n/4294967296:Nat):Int):=by
 rw[zL _ (by decide)];rfl
theorem Zt(n:Nat)(h:n<18446744073709551616):zc .u64 (n:Int)=n:=wu _ (by omega) (by omega)
theorem OI(n:Nat)(h:n<18446744073709551616):GI .u64 (n:Int) 4294967295=((n % 4294967296:Nat):Int):=by
 have e:(zF 64 (n:Int)&&&zF 64 4294967295).toNat=n % 4294967296:=by
  rw[BitVec.toNat_and];have h1:(zF 64 (n:Int)).toNat=n:=by rw[z7,yb];exact yg h
  have h2:(zF 64 4294967295).toNat=2^32-1:=by decide
  rw[h1,h2,Nat.and_two_pow_sub_one_eq_mod]
 show zc .u64 (((zF 64 (n:Int)&&&zF 64 4294967295).toNat:Nat):Int)=_;rw[e];exact Zt _ (by omega)
namespace T223
theorem ok:Ae AV 223 RQ:=by
 refine AB (X:=SB) rfl Ir (d:=9) (by kernel_rfl) (by kernel_rfl) (by kernel_rfl) (fun(i:Int×Int) hi=>?_) (Ad (by kernel_rfl));obtain⟨x,y⟩:=i;have hi:(zp x&&zp y)=true:=hi;rw[zh]at hi;have hx:=yn hi.1;have hy:=yn hi.2;obtain⟨x,rfl⟩:=zo hx.1;obtain⟨y,rfl⟩:=zo hy.1;have hx:x<18446744073709551616:=by omega
 have hy:y<18446744073709551616:=by omega
 obtain⟨m1,m2,m3,m4⟩:=Go.Lib.mul64_hi x y hx hy;have k1:=yc (a:=x/4294967296) (b:=y/4294967296) (by omega) (by omega);have k2:=yc (a:=x/4294967296) (b:=y % 4294967296) (by omega) (by omega);have k3:=yc (a:=x % 4294967296) (b:=y/4294967296) (by omega) (by omega);refine zM (An (x:Int) (y:Int)) (ze rfl (ze rfl (ze rfl (ze rfl (ze rfl (zi (zz rfl rfl ?_)))))));refine Prod.ext ?_ ?_
 ·show zc zd (zc zd (zc zd (zm (x:Int) ((2:Int)^(32:Nat))*zm (y:Int) ((2:Int)^(32:Nat)))+zm (zc zd (zc zd (zm (x:Int) ((2:Int)^(32:Nat))*GI zd (y:Int) (4294967295:Int))+zm (zc zd (GI zd (x:Int) (4294967295:Int)*GI zd (y:Int) (4294967295:Int))) ((2:Int)^(32:Nat)))) ((2:Int)^(32:Nat)))+zm (zc zd (GI zd (zc zd (zc zd (zm (x:Int) ((2:Int)^(32:Nat))*GI zd (y:Int) (4294967295:Int))+zm (zc zd (GI zd (x:Int) (4294967295:Int)*GI zd (y:Int) (4294967295:Int))) ((2:Int)^(32:Nat)))) (4294967295:Int)+zc zd (GI zd (x:Int) (4294967295:Int)*zm (y:Int) ((2:Int)^(32:Nat))))) ((2:Int)^(32:Nat)))=Pw x y;have em:Pw x y=((x*y/18446744073709551616:Nat):Int):=by unfold Pw;omega
  rw[em, ←m4];have hlt:x*y/18446744073709551616<18446744073709551616:=Nat.div_lt_of_lt_mul (Nat.mul_lt_mul'' hx hy);rw[←m4]at hlt;simp only[XK,OI x hx,OI y hy];simp only[←zX];generalize (x/4294967296)*(y/4294967296)=a at*;generalize (x/4294967296)*(y % 4294967296)=b at*;generalize (x % 4294967296)*(y/4294967296)=c at*;generalize (x % 4294967296)*(y % 4294967296)=d at*;rw[Zt d (by omega),Zt a (by omega),Zt b (by omega),Zt c (by omega),XK, ←ya,Zt _ m2,XK,OI _ m2, ←ya, ←ya,Zt _ m3,XK,Zt (a+_) (by omega), ←ya,Zt _ hlt]
 ·show zc .u64 ((x:Int)*y)=H5 x y;unfold H5;exact Kn _
end T223
theorem eR{x y o c:Int}(hx:zp x=true)(hy:zp y=true)(ho:zp o=true)(hc:zp c=true):
  zp (H5 x y)=true∧zp (Hp (H5 x y) o 0)=true∧zp (Hp (Hp (H5 x y) o 0) c 0)=true∧
  zc .u64 (zc .u64 (Pw x y+Nw (H5 x y) o 0)+Nw (Hp (H5 x y) o 0) c 0)=(x*y+o+c)/18446744073709551616∧
  zp ((x*y+o+c)/18446744073709551616)=true∧
  Hp (Hp (H5 x y) o 0) c 0+18446744073709551616*((x*y+o+c)/18446744073709551616)=x*y+o+c:=by
 have hx:=yn hx;have hy:=yn hy;have ho:=yn ho;have hc:=yn hc;have h0:0≤x*y:=zq hx.1 hy.1;have h1:x*y≤18446744073709551615*18446744073709551615:=by
  have a:=zE (show y≤18446744073709551615 by omega) hx.1;have b:=zj (show x≤18446744073709551615 by omega) (show(0:Int)≤18446744073709551615 by omega);omega
 unfold H5 Pw Hp Nw;generalize x*y=P at*;refine⟨Cu (by omega) (by omega),Cu (by omega) (by omega),Cu (by omega) (by omega),?_,Cu (by omega) (by omega),by omega⟩;rw[Kn,Kn];omega
namespace T225
variable {Q:PV→Ob→Prop}
theorem AS(x y:List Int)(n i:Nat)(hi:i<x.length)(hn:n=x.length+y.length)(hx9:x.length≤9000)(hy9:y.length≤9000)(hx:Av Ak x)(hy:Av Ak y)(p:List Int)(hp:p.length=i+y.length)(hdp:Av Ak p)
  (hq:∀q c,q.length=i+y.length→Av Ak q→zp c=true→zD Ak q+(Ak:Int)^(i+y.length)*c=zD Ak p+(Ak:Int)^i*(x.getD i 0*zD Ak y)→Ends J9 (L1 y n x x.length ((i+1:Nat):Int) ((q++[c])++zn (n-(i+y.length+1)) 0)) Q):∀(k j:Nat) (q:List Int) (c:Int),j+k=y.length→q.length=i+j→Av Ak q→zp c=true→zD Ak q+(Ak:Int)^(i+j)*c=zD Ak (p.take (i+j))+(Ak:Int)^i*(x.getD i 0*zD Ak (y.take j))→
  Ends J9 (L2 y n i (x.getD i 0) c x x.length i y y.length j (q++(p.drop (i+j)++zn (n-(i+y.length)) 0))) Q
 |0,j,q,c,hj,hl,hd,hc,he=>by
  have hj:j=y.length:=by omega
  subst hj;have e1:zc .i64 ((i:Int)+(y.length:Int))=((i+y.length:Nat):Int):=by rw[wr _ (by omega) (by omega)];omega
  have e2:zc .i64 ((i:Int)+1)=((i+1:Nat):Int):=by rw[wr _ (by omega) (by omega)];omega
  have ed:p.drop (i+y.length)=[]:=List.drop_eq_nil_of_le (by omega);refine zR (A1 ..) (zP (by simp) ?_);rw[e1,e2,zl,ed,List.nil_append,IQ q n _ c hl (by omega)];refine ze (by simp;omega) (ze (by simp;omega) (hq q c hl hd hc ?_));rw[he,zw (by omega),zU]
 |k+1,j,q,c,hj,hl,hd,hc,he=>by
  have gx:=AR hx i;have gy:=AR hy j;have gp:=AR hdp (i+j);have ep:p.drop (i+j)=p.getD (i+j) 0::p.drop (i+j+1):=by
   rw[zt,zO (by omega)];exact zV (by omega)
  have e1:zc .i64 ((i:Int)+(j:Int))=((i+j:Nat):Int):=by rw[wr _ (by omega) (by omega)];omega
  have e2:zc .i64 ((j:Int)+1)=((j+1:Nat):Int):=by rw[wr _ (by omega) (by omega)];omega
  have lo:(q++(p.drop (i+j)++zn (n-(i+y.length)) (0:Int))).length=n:=by simp;omega
  have g1:(q++(p.drop (i+j)++zn (n-(i+y.length)) (0:Int))).getD (i+j) 0=p.getD (i+j) 0:=by
   rw[ep,yh];exact Dq _ _ _ _ hl
  have s1:∀z,(q++(p.drop (i+j)++zn (n-(i+y.length)) (0:Int))).set (i+j) z=(q++[z])++(p.drop (i+(j+1))++zn (n-(i+y.length)) 0):=by
   intro z;rw[ep,yh,C5 _ _ _ _ hl,List.append_assoc];rfl
  obtain⟨m1,m2,m3,m4,m5,m6⟩:=eR gx gy gp hc;refine zR (A1 ..) (ze (by simp;omega) ?_);rw[e1,e2,zl,zl,g1,s1,m4];have t1:(decide ((0:Int)≤((i+j:Nat):Int))&&decide (((i+j:Nat):Int)<(n:Int)))=true:=by simp;omega
  refine ze (by simp;omega) (ze (by rw[gx,gy];rfl) (ze t1 (ze (decide_eq_true (by rw[lo];omega)) (ze (by rw[m1,gp];rfl) (ze (by rw[m2,hc];rfl) (ze t1 (ze (decide_eq_true (by rw[lo];omega)) ?_)))))));refine AS x y n i hi hn hx9 hy9 hx hy p hp hdp hq k (j+1) _ _ (by omega) (by simp;omega) (DL hd m3) m5 ?_;have ea:i+(j+1)=(i+j)+1:=by omega
  have eb:(Ak:Int)^i*(x.getD i 0*((Ak:Int)^j*y.getD j 0))=(Ak:Int)^(i+j)*(x.getD i 0*y.getD j 0):=by
   rw[Int.pow_add,zu,Int.mul_left_comm (x.getD i 0)]
  rw[ea,Ex,hl,Ky,yv, ←zH,m6,AF _ p (i+j),AF _ y j,zH,zH,zH (x.getD i 0),zH,eb];omega
theorem Aj(x y:List Int)(n:Nat)(hn:n=x.length+y.length)(hx9:x.length≤9000)(hy9:y.length≤9000)(hx:Av Ak x)(hy:Av Ak y)(hq:∀ob,Q (.dat CW (Bp (Am x*Am y))) ob):∀(k i:Nat) (p:List Int),i+k=x.length→p.length=i+y.length→Av Ak p→zD Ak p=zD Ak (x.take i)*zD Ak y→
  Ends J9 (L1 y n x x.length i (p++zn (n-(i+y.length)) 0)) Q
 |0,i,p,hi,hp,hd,he=>by
  have hi:i=x.length:=by omega
  subst hi;have ez:p++zn (n-(x.length+y.length)) (0:Int)=p:=by rw[hn,Nat.sub_self];simp
  have hv:Am p=Am x*Am y:=by
   rw[zU]at he;exact he
  rw[ez];refine zR (Ar ..) (zP (by simp) ?_);rw[zw (by omega)];refine ze ?_ (zi ?_)
  ·rw[D5 (by omega) hd];simp;omega
  ·rw[KL hd,hv];exact hq _
 |k+1,i,p,hi,hp,hd,he=>by
  refine zR (Ar ..) (ze (by simp;omega) ?_);rw[zl];refine ze (by simp;omega) ?_;have h0:zD Ak (p.take (i+y.length))=zD Ak p:=by rw[zw (by omega)]
  have:=AS (Q:=Q) x y n i (by omega) hn hx9 hy9 hx hy p hp hd (fun q c hl hdq hc hv=>by
   have:=Aj x y n hn hx9 hy9 hx hy hq k (i+1) (q++[c]) (by omega) (by simp;omega) (DL hdq hc) (by
    rw[Ex,hl,hv,he,AF,zB,zu])
   rw[show i+1+y.length=i+y.length+1 by omega]at this;exact this) y.length 0 (p.take i) 0 (by omega) (by simp;omega) (AM hd i) rfl (by simp[zD])
  rw[Nat.add_zero, ←List.append_assoc,List.take_append_drop]at this;exact this
theorem ok(hall:∀g sp,J9.sp g=some sp→Ae AV g sp):Ae AV 225 YY:=by
 refine AB (X:=J9) rfl hall (d:=9) (by kernel_rfl) (by kernel_rfl) (by kernel_rfl) (fun(i:List Int×List Int) hi=>?_) (Ad (by kernel_rfl));obtain⟨x,y⟩:=i;have hi:(yx x&&yx y)=true:=hi;rw[zh]at hi;obtain⟨x1,x2⟩:=VM hi.1;obtain⟨y1,y2⟩:=VM hi.2;have hq:∀ob,Af YY (x,y) (.dat CW (Bp (Am x*Am y))) ob:=fun ob=>zz rfl rfl rfl
 have e1:zc .i64 ((x.length:Int)+(y.length:Int))=((x.length+y.length:Nat):Int):=by rw[wr _ (by omega) (by omega)];omega
 refine zM (An x y) ?_;conv=>zeta
 rw[e1,zl];refine ze (by simp;omega) ?_;have:=Aj x y (x.length+y.length) rfl x1 y1 x2 y2 hq x.length 0 (zn y.length 0) (by omega) (by simp) (fun d hd=>by
  obtain⟨_,rfl⟩:=List.mem_replicate.1 hd;exact⟨by decide,by decide⟩) (by rw[Lz];simp[zD])
 rw[Nat.zero_add,List.replicate_append_replicate,show y.length+(x.length+y.length-y.length)=x.length+y.length by omega]at this;exact this
end T225
theorem EW:∀g sp,J9.sp g=some sp→Ae AV g sp:=
 Ac T224.ok (Ac T268.ok (Ac T270.ok (Ac T269.ok (Ac T223.ok (fun g sp h=>by cases h)))))
theorem Ra:∀g sp,qH.sp g=some sp→Ae AV g sp:=
 Ac (T218.ok EW) (Ac (T219.ok EW) (Ac (T220.ok EW) (Ac (T222.ok EW) (Ac T221.ok (Ac (T225.ok EW) (Ac T223.ok (Ac T224.ok (fun g sp h=>by cases h))))))))
end Go.Pe
end
section
namespace Go.Sp
def Ba(a:AT):Bool:=Dt a&&decide (a.2.length≤9000)
def Yl(a b:AT):Int:=BX (vI a) (vI b)
def HW(a:AT):Int:=SC (vI a)
end Go.Sp
namespace Go.Pe
open Sp
open Go.Det
noncomputable section
noncomputable def TH:Ao:=⟨[BE],fun a=>Dt a,[BE],fun a=>(DY a,DW a),false⟩
noncomputable def nM:Ao:=⟨[BE],fun a=>Dt a,[BE],fun a=>(NJ a,OS a),false⟩
noncomputable def Jn:Ao:=⟨[BE],fun a=>Dt a,[i64],fun a=>HW a,false⟩
noncomputable def NR:Ao:=⟨[BE,BE],fun i=>Ba i.1&&Ba i.2,[BE],fun i=>(HQ i.1 i.2,HJ i.1 i.2),false⟩
noncomputable def bY:Ao:=⟨[BE,BE],fun i=>Ba i.1&&Ba i.2,[BE],fun i=>(ZI i.1 i.2,dL i.1 i.2),false⟩
noncomputable def PT:Ao:=⟨[BE,BE],fun i=>Ba i.1&&Ba i.2,[BE],fun i=>(EA i.1 i.2,Ez i.1 i.2),false⟩
noncomputable def dM:Ao:=⟨[BE,BE],fun i=>Ba i.1&&Ba i.2,[i64],fun i=>Yl i.1 i.2,false⟩
noncomputable def sK:A5:=X7 [(174,TH),(158,NR)]
noncomputable def wV:A5:=X7 [(217,bY),(173,Jn)]
end
end Go.Pe
end
section
namespace Go.Pe
open Sp
open Go.Det
noncomputable section
open List Int Prod
namespace T174
def T(a:Int×List Int):Tr:=tree qH false 9 174 (Ah ([zY i64 (zC (zg zd))]) a)
theorem An(a:Int×List Int):T a=let c':=zC (zg zd);let d':=Bp (Ag (zf (fst a,snd a)));let e':=zc .i64 (0-fst a);let b':=yd (!decide (zf (fst a,snd a)<0)) (Am d');let a':Tr:=.ite (Dt (fst a,snd a)) (.ite (B2 d') (.leaf (zW [.dat i64 (Cp b'),.dat c' (Cn b')]) ([(zr 0 1,.box [.dat i64 (Cp b'),.dat c' (Cn b')]),(0,.box [.dat i64 (fst a),.dat c' (snd a)])])) .fail) .fail;.ite (!decide (0<length (snd a))) (.ite (fst a !=(-9223372036854775808)) (.leaf (zW [.dat i64 e',.nil]) ([(zr 0 1,.box [.dat i64 e',.nil]),(0,.box [.dat i64 (fst a),.dat c' (snd a)])])) a') a':=by kernel_rfl
end T174
namespace T158
def T(a b:Int×List Int):Tr:=tree qH false 9 158 (Ah ([zY i64 (zC (zg zd)),zY i64 (zC (zg zd))]) (a,b))
theorem An(a b:Int×List Int):T a b=let b':=Bp (Ag (zf (fst a,snd a)));let c':=Bp (Ag (zf (fst b,snd b)));let d':=zC (zg zd);let h':=decide (zf (fst a,snd a)<0);let i':=zc .i64 (fst a+fst b);let m':=decide (zf (fst b,snd b)<0);let j':=Bp (Am b'+Am c');let k':=Bp (Am b'-Am c');let l':=Bp (Am c'-Am b');let e':=yd (h') (Am j');let f':=yd (h') (Am k');let g':=yd (m') (Am l');let a':Tr:=.ite (Dt (fst a,snd a)) (.ite (Dt (fst b,snd b)) (.ite (h'==m') (.ite (yx b'&&yx c') (.ite (B2 j') (.leaf (zW [.dat i64 (Cp e'),.dat d' (Cn e')]) ([(zr (zr 0 1) 1,.box [.dat i64 (Cp e'),.dat d' (Cn e')]),(zr 0 1,.box [.dat i64 (fst b),.dat d' (snd b)]),(0,.box [.dat i64 (fst a),.dat d' (snd a)])])) .fail) .fail) (.ite (B2 b'&&B2 c') (.ite (decide (BX (Am b') (Am c')≥0)) (.ite (Cx b'&&Cx c'&&decide (Am c'≤Am b')) (.ite (B2 k') (.leaf (zW [.dat i64 (Cp f'),.dat d' (Cn f')]) ([(zr (zr 0 1) 1,.box [.dat i64 (Cp f'),.dat d' (Cn f')]),(zr 0 1,.box [.dat i64 (fst b),.dat d' (snd b)]),(0,.box [.dat i64 (fst a),.dat d' (snd a)])])) .fail) .fail) (.ite (Cx c'&&Cx b'&&decide (Am b'≤Am c')) (.ite (B2 l') (.leaf (zW [.dat i64 (Cp g'),.dat d' (Cn g')]) ([(zr (zr 0 1) 1,.box [.dat i64 (Cp g'),.dat d' (Cn g')]),(zr 0 1,.box [.dat i64 (fst b),.dat d' (snd b)]),(0,.box [.dat i64 (fst a),.dat d' (snd a)])])) .fail) .fail)) .fail)) .fail) .fail;.ite (!decide (0<length (snd a))) (.ite (!decide (0<length (snd b))) (.ite (decide (zc .i64 (fst a+fst b)>fst a)==decide (fst b>0)) (.leaf (zW [.dat i64 i',.nil]) ([(zr (zr 0 1) 1,.box [.dat i64 i',.nil]),(zr 0 1,.box [.dat i64 (fst b),.dat d' (snd b)]),(0,.box [.dat i64 (fst a),.dat d' (snd a)])])) a') a') a':=by kernel_rfl
end T158
namespace T159
def T(a b:Int×List Int):Tr:=tree qH false 9 159 (Ah ([zY i64 (zC (zg zd)),zY i64 (zC (zg zd))]) (a,b))
theorem An(a b:Int×List Int):T a b=let c':=zC (zg zd);let f':=Ag (fst a);let g':=Ag (fst b);let i':=Bp (Ag (zf (fst a,snd a)));let j':=Bp (Ag (zf (fst b,snd b)));let d':=H5 f' g';let e':=Bp (Am i'*Am j');let b':=yd (!decide (zf (fst a,snd a)<0)==decide (zf (fst b,snd b)<0)) (Am e');let h':=zc .i64 (0-zc .i64 d');let a':Tr:=.ite (Dt (fst a,snd a)) (.ite (Dt (fst b,snd b)) (.ite (yx i'&&yx j') (.ite (B2 e') (.leaf (zW [.dat i64 (Cp b'),.dat c' (Cn b')]) ([(zr (zr 0 1) 1,.box [.dat i64 (Cp b'),.dat c' (Cn b')]),(zr 0 1,.box [.dat i64 (fst b),.dat c' (snd b)]),(0,.box [.dat i64 (fst a),.dat c' (snd a)])])) .fail) .fail) .fail) .fail;.ite (!decide (0<length (snd a))) (.ite (!decide (0<length (snd b))) (.ite (CS (fst a)) (.ite (CS (fst b)) (.ite (zp f'&&zp g') (.ite (Pw f' g'==0) (.ite (decide (H5 f' g'≤9223372036854775807)) (.ite (!decide (fst a<0)==decide (fst b<0)) (.leaf (zW [.dat i64 h',.nil]) ([(zr (zr 0 1) 1,.box [.dat i64 h',.nil]),(zr 0 1,.box [.dat i64 (fst b),.dat c' (snd b)]),(0,.box [.dat i64 (fst a),.dat c' (snd a)])])) (.leaf (zW [.dat i64 (zc .i64 d'),.nil]) ([(zr (zr 0 1) 1,.box [.dat i64 (zc .i64 d'),.nil]),(zr 0 1,.box [.dat i64 (fst b),.dat c' (snd b)]),(0,.box [.dat i64 (fst a),.dat c' (snd a)])]))) a') a') .fail) .fail) .fail) a') a':=by kernel_rfl
end T159
namespace T212
def T(a:Int×List Int):Tr:=tree sK false 9 212 (Ah ([zY i64 (zC (zg zd))]) a)
theorem An(a:Int×List Int):T a=let a':=zC (zg zd);let b':=DY (fst a,snd a);let c':=DW (fst a,snd a);.ite (decide (fst a<0)) (.ite (Dt (fst a,snd a)) (.leaf (zW [.dat i64 b',.dat a' c']) ([(zr 0 1,.box [.dat i64 b',.dat a' c']),(0,.box [.dat i64 (fst a),.dat a' (snd a)])])) .fail) (.leaf (zW [.dat i64 (fst a),.dat a' (snd a)]) ([(zr 0 1,.box [.dat i64 (fst a),.dat a' (snd a)]),(0,.box [.dat i64 (fst a),.dat a' (snd a)])])):=by kernel_rfl
end T212
namespace T173
def T(a:Int×List Int):Tr:=tree SB false 9 173 (Ah ([zY i64 (zC (zg zd))]) a)
theorem An(a:Int×List Int):T a=.leaf (.dat i64 (imax (-1) (D9 1 (fst a)))) ([(0,.box [.dat i64 (fst a),.dat (zC (zg zd)) (snd a)])]):=by kernel_rfl
end T173
namespace T217
def T(a b:Int×List Int):Tr:=tree sK false 9 217 (Ah ([zY i64 (zC (zg zd)),zY i64 (zC (zg zd))]) (a,b))
theorem An(a b:Int×List Int):T a b=let a':=(DY (fst b,snd b),DW (fst b,snd b));let b':=zC (zg zd);let c':=HQ (fst a,snd a) a';let d':=HJ (fst a,snd a) a';.ite (Dt (fst b,snd b)) (.ite (Ba (fst a,snd a)&&Ba a') (.leaf (zW [.dat i64 c',.dat b' d']) ([(zr (zr 0 1) 1,.box [.dat i64 c',.dat b' d']),(zr 0 1,.box [.dat i64 (fst b),.dat b' (snd b)]),(0,.box [.dat i64 (fst a),.dat b' (snd a)])])) .fail) .fail:=by kernel_rfl
end T217
namespace T154
def T(a b:Int×List Int):Tr:=tree wV false 9 154 (Ah ([zY i64 (zC (zg zd)),zY i64 (zC (zg zd))]) (a,b))
theorem An(a b:Int×List Int):T a b=let c':=(ZI (fst a,snd a) (fst b,snd b),dL (fst a,snd a) (fst b,snd b));let d':=zC (zg zd);let a':=[(zr 0 1,.box [.dat i64 (fst b),.dat d' (snd b)]),(0,.box [.dat i64 (fst a),.dat d' (snd a)])];let b':Tr:=.ite (Ba (fst a,snd a)&&Ba (fst b,snd b)) (.ite (Dt c') (.leaf (.dat i64 (HW c')) a') .fail) .fail;.ite (!decide (0<length (snd a))) (.ite (!decide (0<length (snd b))) (.ite (decide (fst a<fst b)) (.leaf (.dat i64 (-1:Int)) a') (.ite (decide (fst a>fst b)) (.leaf (.dat i64 (1:Int)) a') (.leaf (.dat i64 (0:Int)) a'))) b') b':=by kernel_rfl
end T154
end
end Go.Pe
end
section
namespace Go.Pe
open Sp
open Go.Det
theorem QN(k:Nat):((Ak^k:Nat):Int)=(Ak:Int)^k:=zS ..
theorem Jv{n:Int}{k:Nat}(h0:0≤n)(h:n<(Ak:Int)^k):(Bp n).length≤k:=by
 refine MW Ak (by decide) k n.toNat n.toNat ?_;rw[←QN]at h;generalize Ak^k=P at*;omega
theorem CJ{n:Int}{k:Nat}(h0:0≤n)(h:n<(Ak:Int)^k)(hk:k≤20000):B2 (Bp n)=true∧Cx (Bp n)=true∧Am (Bp n)=n:=by
 have h1:=Jv h0 h;have h2:Cx (Bp n)=true:=D5 (by omega) (ET (by decide) n);have h3:pE (Bp n)=true:=by
  unfold pE;exact decide_eq_true (Wt (by decide) n)
 exact⟨by unfold B2;rw[h2,h3];rfl,h2,CE (by decide) h0⟩
theorem B1{a:AT}(h:Ba a=true):Dt a=true∧a.2.length≤9000:=by
 unfold Ba at h;rw[zh,decide_eq_true_eq]at h;exact h
theorem T6{s:Int}{w:List Int}(hw:w≠[]):zf (s,w)=if s<0 then -Am w else Am w:=by unfold zf;exact if_neg hw
theorem OT{a:AT}(h:Dt a=true):(a.2=[]∧Ag (zf a)≤9223372036854775808)∨(Bp (Ag (zf a))=a.2):=by
 obtain⟨hr,hw⟩:=DE h;obtain⟨s,w⟩:=a;have hr: -9223372036854775808≤s∧s<9223372036854775808:=hr;rcases hw with hw|⟨h1,h2,h3⟩
 ·have hw:w=[]:=hw;subst hw;refine .inl ⟨rfl,?_⟩;rw[Eh];simp only[Ai];omega
 ·obtain⟨n1,n2,n3⟩:=ED (l:=w) h1;have h2:s=1∨s= -1:=h2;have h3:9223372036854775808≤Am w:=h3;have hne:w≠[]:=by rintro rfl;exact absurd h3 (by decide)
  refine .inr ?_;have e1:Ag (zf (s,w))=Am w:=by rw[T6 hne];simp only[Ai];split<;>omega
  rw[e1];exact(Ih (by decide) n2 n3).symm
theorem AH(n:Int):0≤Ag n:=by simp only[Ai];omega
theorem Hx{a:AT}(h:Dt a=true){k:Nat}(hk:a.2.length≤k)(h1:1≤k):Ag (zf a)<(Ak:Int)^k:=by
 rcases OT h with⟨_,hb⟩|he
 ·have:=AL (b:=Ak) (by decide) h1;rw[Int.pow_one]at this;have h3:(9223372036854775808:Int)<(Ak:Int):=by decide
  exact zK hb (Int.lt_of_lt_of_le h3 this)
 ·have hv:=CE (b:=Ak) (by decide) (AH (zf a));have:=Bo (b:=Ak) (by decide) (ET (b:=Ak) (by decide) (Ag (zf a)));rw[hv,show Sp.dg Ak (Ag (zf a))=a.2 from he]at this;exact Int.lt_of_lt_of_le this (AL (by decide) hk)
theorem Ly{x y:Int}(hx:0≤x)(h1:x<(Ak:Int)^9000)(h2:y<(Ak:Int)^9000):x+y<(Ak:Int)^9001∧x*y<(Ak:Int)^18000:=by
 have e1:(Ak:Int)^9001=(Ak:Int)^9000*Ak:=yy ..;have e2:(Ak:Int)^18000=(Ak:Int)^9000*(Ak:Int)^9000:=Int.pow_add _ 9000 9000;rw[e1,e2];generalize (Ak:Int)^9000=P at*;refine⟨?_,?_⟩
 ·show x+y<P*18446744073709551616;omega
 ·have a:=zE (show y≤P-1 by omega) hx;have b:=zj (show x≤P-1 by omega) (show 0≤P-1 by omega);have c:(P-1)*(P-1)=P*P-P-P+1:=by
   rw[Int.sub_mul,yr];omega
  omega
theorem Da(n:Bool)(v:Int):yd n v=if n=true then -v else v:=rfl
theorem Cg(n:Int):zf (CG n)=n:=by
 unfold CG;split
 ·exact Eh
 ·have hv:=CE (b:=Ak) (by decide) (AH n);have hne:Bp (Ag n)≠[]:=by
   intro h;rw[show Sp.dg Ak (Ag n)=[]from h]at hv;have:(0:Int)=Ag n:=hv;simp only[Ai]at this;omega
  rw[T6 hne,show Am (Bp (Ag n))=Ag n from hv];simp only[Ai];split<;>split<;>omega
theorem Vy{a:AT}{c:Bool}(h:(!decide (0<a.2.length))=c):(c=true→a.2=[])∧(c=false→a.2≠[]):=by
 subst h;rcases a with⟨s,w⟩
 cases w<;>simp
theorem NL{a:AT}(h:(!decide (0<a.2.length))=true):a.2=[]:=(Vy h).1 rfl
theorem ZG{a:AT}(h:(!decide (0<a.2.length))=false):a.2≠[]:=(Vy h).2 rfl
theorem Bn{a:AT}(h:a.2=[]):zf a=a.1:=by unfold zf;exact if_pos h
theorem words{a:AT}(h:Ba a=true):Dt a=true∧yx (Bp (Ag (zf a)))=true∧B2 (Bp (Ag (zf a)))=true∧Cx (Bp (Ag (zf a)))=true∧Am (Bp (Ag (zf a)))=Ag (zf a)∧Ag (zf a)<(Ak:Int)^9000:=by
 obtain⟨h1,h2⟩:=B1 h;have hb:=Hx h1 h2 (by omega);obtain⟨n,d,v⟩:=CJ (AH _) hb (by omega);have hl:=Jv (AH _) hb;refine⟨h1,?_,n,d,v,hb⟩;unfold yx;rw[d,zI];exact decide_eq_true hl
theorem Aa{a b:Bool}(h1:a=true)(h2:b=true):(a&&b)=true:=by rw[h1,h2];rfl
theorem JK(n:Int):SC n=if n<0 then -1 else if n>0 then 1 else 0:=rfl
theorem qC{a:AT}(h:Dt a=true):imax (-1) (D9 1 a.1)=SC (zf a):=by
 obtain⟨hr,hw⟩:=DE h;obtain⟨s,w⟩:=a;rcases hw with hw|⟨h1,h2,h3⟩
 ·have hw:w=[]:=hw;subst hw;rw[Eh,JK,cA];show imax (-1) (if (1:Int)≤s then 1 else s)=_;unfold imax;split<;>split<;>split<;>(try split)<;>omega
 ·have h2:s=1∨s= -1:=h2;have h3:9223372036854775808≤Am w:=h3;have hne:w≠[]:=by rintro rfl;exact absurd h3 (by decide)
  rw[T6 hne,JK];rcases h2 with rfl|rfl
  ·have e:(if (1:Int)<0 then -Am w else Am w)=Am w:=if_neg (by decide);rw[e,if_neg (show ¬Am w<0 by omega),if_pos (show Am w>0 by omega)];show imax (-1) (D9 1 1)=1;decide
  ·have e:(if (-1:Int)<0 then -Am w else Am w)= -Am w:=if_pos (by decide);rw[e,if_pos (show -Am w<0 by omega)];show imax (-1) (D9 1 (-1))= -1;decide
namespace T174
theorem ok:Ae AV 174 TH:=by
 refine AB (X:=qH) rfl Ra (d:=9) (by kernel_rfl) (by kernel_rfl) (by kernel_rfl) (fun(a:Int×List Int) ha=>?_) (Ad (by kernel_rfl));have ha:Dt a=true:=ha;have hn:B2 (Bp (Ag (zf a)))=true∧Am (Bp (Ag (zf a)))=Ag (zf a):=by
  refine⟨?_,CE (by decide) (AH _)⟩;rcases OT ha with⟨_,hb⟩|he
  ·have:(9223372036854775808:Int)<(Ak:Int)^1:=by decide
   exact(CJ (AH _) (zK hb this) (by omega)).1
  ·obtain⟨_,hw⟩:=DE ha;rw[he];rcases hw with hw|⟨h1,_⟩
   ·rw[hw];decide+kernel
   ·exact h1
 have hv:yd (!decide (zf a<0)) (Am (Bp (Ag (zf a))))= -zf a:=by
  rw[hn.2,Da,Ai];rcases zA (zf a) 0 with h|h
  ·rw[decide_eq_true h];simp;omega
  ·rw[decide_eq_false (by omega)];simp;omega
 have hr:=(DE ha).1;refine zM (An a) (zk (fun c=>zk (fun d=>zi (zz rfl rfl ?_)) (fun d=>ze ha (ze hn.1 (zi (zz rfl rfl ?_))))) (fun c=>ze ha (ze hn.1 (zi (zz rfl rfl ?_)))))
 ·have c:=NL c;have d:a.1≠ -9223372036854775808:=by simpa using d
  show(zc .i64 (0-a.1),[])=CR a;unfold CR;rw[if_pos ⟨c,d⟩,wr _ (by omega) (by omega),Int.zero_sub]
 ·have d:a.1= -9223372036854775808:=by simpa using d
  show CG (yd (!decide (zf a<0)) (Am (Bp (Ag (zf a)))))=CR a;unfold CR;rw[if_neg (fun h=>h.2 d),hv]
 ·have c:=ZG c;show CG (yd (!decide (zf a<0)) (Am (Bp (Ag (zf a)))))=CR a;unfold CR;rw[if_neg (fun h=>c h.1),hv]
end T174
namespace T158
theorem ok:Ae AV 158 NR:=by
 refine AB (X:=qH) rfl Ra (d:=9) (by kernel_rfl) (by kernel_rfl) (by kernel_rfl) (fun(i:(Int×List Int)×(Int×List Int)) hi=>?_) (Ad (by kernel_rfl));obtain⟨a,b⟩:=i;have hi:(Ba a&&Ba b)=true:=hi;rw[zh]at hi;obtain⟨a1,a2,a3,a4,a5,a6⟩:=words hi.1;obtain⟨b1,b2,b3,b4,b5,b6⟩:=words hi.2;have hra:=(DE a1).1;have hrb:=(DE b1).1;have na:=AH (zf a);have nb:=AH (zf b);obtain⟨t1,_⟩:=Ly na a6 b6;have hq:∀v ob,D7 a b=CG v→Af NR (a,b) (.agg [.dat i64 (Cp v),.dat (.nlist (.int .u64)) (Cn v)]) ob:=fun v ob h=>zz rfl rfl (by
  show CG v=D7 a b;rw[h])
 have mono:(Ak:Int)^9000≤(Ak:Int)^9001:=AL (by decide) (by omega);have slow1:decide (zf a<0)=decide (zf b<0)→yd (decide (zf a<0)) (Am (Bp (Am (Bp (Ag (zf a)))+Am (Bp (Ag (zf b))))))=zf a+zf b:=by
  intro e;rw[a5,b5,show Am (Bp (Ag (zf a)+Ag (zf b)))=_ from CE (by decide) (by omega),Da,Ai,Ai];rcases zA (zf a) 0 with h|h
  ·rw[decide_eq_true h]at e ⊢;have:=of_decide_eq_true e.symm;simp only[if_true];omega
  ·rw[decide_eq_false (by omega)]at e ⊢;have:=of_decide_eq_false e.symm;simp only[ye,if_false];omega
 have slow2:decide (zf a<0)≠decide (zf b<0)→Ag (zf b)≤Ag (zf a)→yd (decide (zf a<0)) (Am (Bp (Am (Bp (Ag (zf a)))-Am (Bp (Ag (zf b))))))=zf a+zf b:=by
  intro e hle;rw[a5,b5,show Am (Bp (Ag (zf a)-Ag (zf b)))=_ from CE (by decide) (by omega),Da,Ai,Ai];rcases zA (zf a) 0 with h|h
  ·rw[decide_eq_true h]at e ⊢;have:¬zf b<0:=fun h=>e (decide_eq_true h).symm
   simp only[if_true];omega
  ·rw[decide_eq_false (by omega)]at e ⊢;have:zf b<0:=by
    rcases zA (zf b) 0 with h|h
    ·exact h
    ·exact absurd (decide_eq_false (by omega)).symm e
   simp only[ye,if_false];omega
 have slow3:decide (zf a<0)≠decide (zf b<0)→Ag (zf a)≤Ag (zf b)→yd (decide (zf b<0)) (Am (Bp (Am (Bp (Ag (zf b)))-Am (Bp (Ag (zf a))))))=zf a+zf b:=by
  intro e hle;rw[a5,b5,show Am (Bp (Ag (zf b)-Ag (zf a)))=_ from CE (by decide) (by omega),Da,Ai,Ai];rcases zA (zf b) 0 with h|h
  ·rw[decide_eq_true h]at e ⊢;have:¬zf a<0:=fun h=>e (decide_eq_true h)
   simp only[if_true];omega
  ·rw[decide_eq_false (show ¬zf b<0 by omega)]at e ⊢;have:zf a<0:=by
    rcases zA (zf a) 0 with h|h
    ·exact h
    ·exact absurd (decide_eq_false (by omega)) e
   simp only[ye,if_false];omega
 have n1:B2 (Bp (Am (Bp (Ag (zf a)))+Am (Bp (Ag (zf b)))))=true:=by
  rw[a5,b5];exact(CJ (by omega) t1 (by omega)).1
 have n2:Ag (zf b)≤Ag (zf a)→B2 (Bp (Am (Bp (Ag (zf a)))-Am (Bp (Ag (zf b)))))=true:=by
  intro h;rw[a5,b5];exact(CJ (by omega) (zK (by omega) a6) (by omega)).1
 have n3:Ag (zf a)≤Ag (zf b)→B2 (Bp (Am (Bp (Ag (zf b)))-Am (Bp (Ag (zf a)))))=true:=by
  intro h;rw[a5,b5];exact(CJ (by omega) (zK (by omega) b6) (by omega)).1
 have cge:∀ {c:Bool},decide (BX (Am (Bp (Ag (zf a)))) (Am (Bp (Ag (zf b))))≥0)=c→(c=true→Ag (zf b)≤Ag (zf a))∧(c=false→Ag (zf a)≤Ag (zf b)):=by
  intro c h;subst h;rw[a5,b5,decide_eq_true_eq,decide_eq_false_iff_not];unfold BX;constructor
  ·intro h;split at h<;>omega
  ·intro h;split at h
   ·omega
   ·split at h<;>omega
 refine zM (An a b) (zk (fun c1=>zk (fun c2=>zk (fun c3=>zi (zz rfl rfl ?_)) (fun c3=>?_)) (fun c2=>?_)) (fun c1=>?_))
 ·have c1:=NL c1;have c2:=NL c2;have hs:zc .i64 (a.1+b.1)=a.1+b.1:=by
   rw[beq_iff_eq]at c3;rcases zA (a.1+b.1) (-9223372036854775808)with h|h
   ·exfalso;have e:zc .i64 (a.1+b.1)=a.1+b.1+18446744073709551616:=by rw[yi];omega
    rw[e,decide_eq_true (by omega),decide_eq_false (by omega)]at c3;cases c3
   ·rcases zA (a.1+b.1) 9223372036854775808 with h2|h2
    ·exact wr _ (by omega) (by omega)
    ·exfalso;have e:zc .i64 (a.1+b.1)=a.1+b.1-18446744073709551616:=by rw[yi];omega
     rw[e,decide_eq_false (by omega),decide_eq_true (by omega)]at c3;cases c3
  have hr:CS (a.1+b.1)=true:=by
   have: -9223372036854775808≤zc .i64 (a.1+b.1)∧zc .i64 (a.1+b.1)<9223372036854775808:=by rw[yi];omega
   rw[hs]at this;unfold CS;rw[zh,decide_eq_true_eq,decide_eq_true_eq];exact this
  show(zc .i64 (a.1+b.1),[])=D7 a b;unfold D7;rw[if_pos ⟨c1,c2,hr⟩,hs]
 all_goals
  have hm:D7 a b=CG (zf a+zf b):=by
   unfold D7;refine if_neg (fun h=>?_);obtain⟨h1,h2,h3⟩:=h;first
    |exact ZG c1 h1
    |exact ZG c2 h2
    |(have h3:=Em h3
      have hs:zc .i64 (a.1+b.1)=a.1+b.1:=wr _ (by omega) (by omega);rw[hs,beq_eq_false_iff_ne]at c3;refine c3 ?_;rcases zA 0 b.1 with h|h
      ·rw[decide_eq_true (show a.1+b.1>a.1 by omega),decide_eq_true h]
      ·rw[decide_eq_false (show ¬a.1+b.1>a.1 by omega),decide_eq_false (show ¬b.1>0 by omega)])
  refine ze a1 (ze b1 (zk (fun e=>ze (Aa a2 b2) (ze n1 (zi (hq _ _ ?_)))) (fun e=>ze (Aa a3 b3) (zk (fun d=>ze ?_ (ze (n2 ((cge d).1 rfl)) (zi (hq _ _ ?_)))) (fun d=>ze ?_ (ze (n3 ((cge d).2 rfl)) (zi (hq _ _ ?_))))))))
  ·rw[hm];exact congrArg _ (slow1 (by simpa using e)).symm
  ·refine Aa (Aa a4 b4) (decide_eq_true ?_);rw[a5,b5];exact(cge d).1 rfl
  ·rw[hm];exact congrArg _ (slow2 (by simpa using e) ((cge d).1 rfl)).symm
  ·refine Aa (Aa b4 a4) (decide_eq_true ?_);rw[a5,b5];exact(cge d).2 rfl
  ·rw[hm];exact congrArg _ (slow3 (by simpa using e) ((cge d).2 rfl)).symm
end T158
end Go.Pe
end
section
namespace Go.Pe
open Sp
open Go.Det
theorem Ds{n:Int}(h1: -9223372036854775808≤n)(h2:n<9223372036854775808):CS n=true:=by
 unfold CS;rw[zh,decide_eq_true_eq,decide_eq_true_eq];exact⟨h1,h2⟩
theorem My{n:Int}(h:CS n=true):Dt (n,[])=true:=by
 unfold Dt;rw[h];rfl
theorem Mw{n:Int}{k:Nat}(h:Ag n<(Ak:Int)^k)(hk:k≤20000):Dt (CG n)=true∧(CG n).2.length≤k:=by
 unfold CG;split
 ·next c=>exact⟨My (Ds (by omega) (by omega)),Nat.zero_le _⟩
 ·next c=>
  obtain⟨n1,n2,n3⟩:=CJ (AH n) h hk;refine⟨?_,Jv (AH n) h⟩;have hb:9223372036854775808≤Ag n:=by rw[Ai];omega
  unfold Dt;refine Aa (Ds ?_ ?_) ?_
  ·show -9223372036854775808≤(if n<0 then -1 else 1);split<;>decide
  ·show(if n<0 then -1 else 1)<9223372036854775808;split<;>decide
  ·rw[yo];refine .inr (Aa (Aa n1 ?_) (decide_eq_true (by show _≤Am (Bp (Ag n));rw[n3];exact hb)));show(decide ((if n<0 then(-1:Int)else 1)=1)||decide ((if n<0 then(-1:Int)else 1)= -1))=true;split<;>rfl
theorem Io(a:AT):zf (CR a)= -zf a:=by
 unfold CR;split
 ·next h=>rw[Eh,Bn h.1]
 ·exact Cg _
theorem H4(n:Int):Ag (-n)=Ag n:=by rw[Ai,Ai];omega
theorem Uu{a:AT}(h:Dt a=true){k:Nat}(h1:1≤k)(hk:k≤20000)(hl:a.2.length≤k):Dt (CR a)=true∧(CR a).2.length≤k:=by
 have hr:=(DE h).1;unfold CR;split
 ·next c=>exact⟨My (Ds (by omega) (by omega)),Nat.zero_le _⟩
 ·exact Mw (by rw[H4];exact Hx h hl h1) hk
theorem SU{a:AT}(h:Ba a=true):Ba (CR a)=true:=by
 obtain⟨h1,h2⟩:=B1 h;obtain⟨h3,h4⟩:=Uu h1 (k:=9000) (by omega) (by omega) h2;unfold Ba;exact Aa h3 (decide_eq_true h4)
theorem lS{a:AT}(h:Dt a=true):a.1<0↔zf a<0:=by
 obtain⟨_,hw⟩:=DE h;obtain⟨s,w⟩:=a;rcases hw with hw|⟨_,h2,h3⟩
 ·have hw:w=[]:=hw;subst hw;rw[Eh]
 ·have h2:s=1∨s= -1:=h2;have h3:9223372036854775808≤Am w:=h3;have hne:w≠[]:=by rintro rfl;exact absurd h3 (by decide)
  rw[T6 hne];show s<0↔_;split<;>omega
theorem Vc(a b:AT):zf (D7 a b)=zf a+zf b:=by
 unfold D7;split
 ·next h=>rw[Eh,Bn h.1,Bn h.2.1]
 ·exact Cg _
theorem iY(x y:Int):Ag (x+y)≤Ag x+Ag y:=by
 rw[Ai,Ai,Ai];omega
theorem IK(x y:Int):Ag (x*y)=Ag x*Ag y:=by
 rw[Ai,Ai,Ai,Int.natAbs_mul,zX]
theorem bounds{a:AT}(h:Ba a=true):Ag (zf a)<(Ak:Int)^9000:=(words h).2.2.2.2.2
theorem Q6{a b:AT}(ha:Ba a=true)(hb:Ba b=true):Dt (D7 a b)=true:=by
 unfold D7;split
 ·next h=>exact My h.2.2
 ·exact(Mw (zK (iY _ _) (Ly (AH _) (bounds ha) (bounds hb)).1) (by omega)).1
theorem cE(a b:AT):zf (Mu a b)=zf a-zf b:=by
 unfold Mu;rw[Vc,Io];omega
theorem Dd(a b:AT):zf (EK a b)=zf a*zf b:=Cg _
theorem Wv:∀g sp,sK.sp g=some sp→Ae AV g sp:=
 Ac T174.ok (Ac T158.ok (fun g sp h=>by cases h))
namespace T173
theorem ok:Ae AV 173 Jn:=by
 refine AB (X:=SB) rfl Ir (d:=9) (by kernel_rfl) (by kernel_rfl) (by kernel_rfl) (fun(a:Int×List Int) ha=>?_) (Ad (by kernel_rfl));have ha:Dt a=true:=ha;exact zM (An a) (zi (zz rfl rfl (qC ha)))
end T173
namespace T212
theorem ok:Ae AV 212 nM:=by
 refine AB (X:=sK) rfl Wv (d:=9) (by kernel_rfl) (by kernel_rfl) (by kernel_rfl) (fun(a:Int×List Int) ha=>?_) (Ad (by kernel_rfl));have ha:Dt a=true:=ha;refine zM (An a) (zk (fun c=>ze ha (zi (zz rfl rfl ?_))) (fun c=>zi (zz rfl rfl ?_)))
 ·show CR a=Sj a;unfold Sj;rw[if_pos (of_decide_eq_true c)]
 ·show a=Sj a;unfold Sj;rw[if_neg (of_decide_eq_false c)]
end T212
namespace T217
theorem ok:Ae AV 217 bY:=by
 refine AB (X:=sK) rfl Wv (d:=9) (by kernel_rfl) (by kernel_rfl) (by kernel_rfl) (fun(i:(Int×List Int)×(Int×List Int)) hi=>?_) (Ad (by kernel_rfl));obtain⟨a,b⟩:=i;have hi:(Ba a&&Ba b)=true:=hi;rw[zh]at hi;exact zM (An a b) (ze (B1 hi.2).1 (ze (Aa hi.1 (SU hi.2)) (zi (zz rfl rfl rfl))))
end T217
theorem jJ:∀g sp,wV.sp g=some sp→Ae AV g sp:=
 Ac T217.ok (Ac T173.ok (fun g sp h=>by cases h))
theorem jC(x y:Int):SC (x-y)=BX x y:=by
 unfold SC BX;split
 ·rw[if_pos (by omega)]
 ·split
  ·rw[if_neg (by omega),if_pos (by omega)]
  ·rw[if_neg (by omega),if_neg (by omega)]
namespace T154
theorem ok:Ae AV 154 dM:=by
 refine AB (X:=wV) rfl jJ (d:=9) (by kernel_rfl) (by kernel_rfl) (by kernel_rfl) (fun(i:(Int×List Int)×(Int×List Int)) hi=>?_) (Ad (by kernel_rfl));obtain⟨a,b⟩:=i;have hi:(Ba a&&Ba b)=true:=hi;have hi2:=hi;rw[zh]at hi2;have hs:Dt (Mu a b)=true:=by
  unfold Mu;exact Q6 hi2.1 (SU hi2.2)
 have hv:HW (Mu a b)=Yl a b:=by
  show SC (zf (Mu a b))=BX (zf a) (zf b);rw[cE,jC]
 refine zM (An a b) (zk (fun c1=>zk (fun c2=>zk (fun d=>zi (zz rfl rfl ?_)) (fun d=>zk (fun e=>zi (zz rfl rfl ?_)) (fun e=>zi (zz rfl rfl ?_)))) (fun c2=>ze hi (ze hs (zi (zz rfl rfl hv))))) (fun c1=>ze hi (ze hs (zi (zz rfl rfl hv)))));all_goals
  have e1:=Bn (NL c1);have e2:=Bn (NL c2);show _=BX (zf a) (zf b);rw[e1,e2];unfold BX
 ·rw[if_pos (of_decide_eq_true d)]
 ·rw[if_neg (of_decide_eq_false d),if_pos (of_decide_eq_true e)]
 ·rw[if_neg (of_decide_eq_false d),if_neg (of_decide_eq_false e)]
end T154
theorem Q7(x y:Int):x*y=yd (!(decide (x<0)==decide (y<0))) (Ag x*Ag y):=by
 unfold Ag;rw[Da];by_cases h1:x<0<;>by_cases h2:y<0<;>simp[h1,h2,Int.neg_mul,Int.mul_neg]
namespace T159
theorem ok:Ae AV 159 PT:=by
 refine AB (X:=qH) rfl Ra (d:=9) (by kernel_rfl) (by kernel_rfl) (by kernel_rfl) (fun(i:(Int×List Int)×(Int×List Int)) hi=>?_) (Ad (by kernel_rfl));obtain⟨a,b⟩:=i;have hi:(Ba a&&Ba b)=true:=hi;rw[zh]at hi;obtain⟨a1,a2,a3,a4,a5,a6⟩:=words hi.1;obtain⟨b1,b2,b3,b4,b5,b6⟩:=words hi.2;have hra:=(DE a1).1;have hrb:=(DE b1).1;have na:=AH (zf a);have nb:=AH (zf b);obtain⟨_,t2⟩:=Ly na a6 b6;have np:0≤Ag (zf a)*Ag (zf b):=zq na nb;have n1:B2 (Bp (Am (Bp (Ag (zf a)))*Am (Bp (Ag (zf b)))))=true:=by
  rw[a5,b5];exact(CJ np t2 (by omega)).1
 have hv:yd (!(decide (zf a<0)==decide (zf b<0))) (Am (Bp (Am (Bp (Ag (zf a)))*Am (Bp (Ag (zf b))))))=zf a*zf b:=by
  rw[a5,b5,show Am (Bp (Ag (zf a)*Ag (zf b)))=_ from CE (by decide) np, ←Q7]
 have hq:∀ob,Af PT (a,b) (.agg [.dat i64 (Cp (yd (!(decide (zf a<0)==decide (zf b<0))) (Am (Bp (Am (Bp (Ag (zf a)))*Am (Bp (Ag (zf b)))))))),.dat (.nlist (.int .u64)) (Cn (yd (!(decide (zf a<0)==decide (zf b<0))) (Am (Bp (Am (Bp (Ag (zf a)))*Am (Bp (Ag (zf b))))))))]) ob:=fun ob=>zz rfl rfl (by
  show CG _=CG (zf a*zf b);rw[hv])
 have ua:zp (Ag a.1)=true:=Cu (AH _) (by rw[Ai];omega);have ub:zp (Ag b.1)=true:=Cu (AH _) (by rw[Ai];omega);refine zM (An a b) (zk (fun c1=>zk (fun c2=>ze (Ds hra.1 hra.2) (ze (Ds hrb.1 hrb.2) (ze (Aa ua ub) (zk (fun c3=>zk (fun c4=>zk (fun c5=>zi (zz rfl rfl ?_)) (fun c5=>zi (zz rfl rfl ?_))) (fun c4=>?_)) (fun c3=>?_))))) (fun c2=>?_)) (fun c1=>?_))
 ·have e1:=Bn (NL c1);have e2:=Bn (NL c2);have c3:(Ag a.1*Ag b.1)/18446744073709551616=0:=by simpa [Pw]using c3
  have c4:(Ag a.1*Ag b.1) % 18446744073709551616≤9223372036854775807:=of_decide_eq_true c4;have p0:0≤Ag a.1*Ag b.1:=zq (AH _) (AH _);have hm:=Q7 a.1 b.1;have c5:(!(decide (a.1<0)==decide (b.1<0)))=true:=c5;rw[c5,Da,if_pos rfl]at hm;show(zc .i64 (0-zc .i64 ((Ag a.1*Ag b.1) % 18446744073709551616)),[])=CG (zf a*zf b);rw[e1,e2,hm,BT (by omega),wr ((Ag a.1*Ag b.1) % 18446744073709551616) (by omega) (by omega),wr _ (by omega) (by omega)];congr 1;omega
 ·have e1:=Bn (NL c1);have e2:=Bn (NL c2);have c3:(Ag a.1*Ag b.1)/18446744073709551616=0:=by simpa [Pw]using c3
  have c4:(Ag a.1*Ag b.1) % 18446744073709551616≤9223372036854775807:=of_decide_eq_true c4;have p0:0≤Ag a.1*Ag b.1:=zq (AH _) (AH _);have hm:=Q7 a.1 b.1;have c5:(!(decide (a.1<0)==decide (b.1<0)))=false:=c5;rw[c5,Da,if_neg (by decide)]at hm;show(zc .i64 ((Ag a.1*Ag b.1) % 18446744073709551616),[])=CG (zf a*zf b);rw[e1,e2,hm,BT (by omega),wr ((Ag a.1*Ag b.1) % 18446744073709551616) (by omega) (by omega)];congr 1;omega
 all_goals exact ze a1 (ze b1 (ze (Aa a2 b2) (ze n1 (zi (hq _)))))
end T159
end Go.Pe
end
section
namespace Go.Sp
def EG(n:Int):Int:=if n≤0 then 0 else(n.toNat.log2:Int)+1
def lz(n:Int):Int:=64-EG n
def dq(h l y:Int):Int:=(h*18446744073709551616+l)/y
def dr(h l y:Int):Int:=(h*18446744073709551616+l) % y
end Go.Sp
namespace Go.Pe
open Go.Det
noncomputable section
noncomputable def Uq:Ao:=⟨[u64],fun n=>zp n,[i64],fun n=>Sp.EG n,false⟩
noncomputable def uL:Ao:=⟨[u64],fun n=>zp n,[i64],fun n=>Sp.lz n,false⟩
noncomputable def QE:Ao:=⟨[u64,u64,u64],fun i=>zp i.1&&zp i.2.1&&zp i.2.2&&decide ((i.1:Int)<i.2.2),[u64,u64],fun i=>(Sp.dq i.1 i.2.1 i.2.2,Sp.dr i.1 i.2.1 i.2.2),false⟩
noncomputable def vX:A5:=X7 [(247,Uq)]
noncomputable def ZV:A5:=X7 [(272,uL)]
end
noncomputable section
open List Int Prod
namespace T247
def T(x:Int):Tr:=tree SB false 9 247 (Ah ([zg zd]) x)
theorem An(x:Int):T x=let a':=([0,1,2,2,3,3,3,3,4,4,4,4,4,4,4,4,5,5,5,5,5,5,5,5,5,5,5,5,5,5,5,5,6,6,6,6,6,6,6,6,6,6,6,6,6,6,6,6,6,6,6,6,6,6,6,6,6,6,6,6,6,6,6,6,7,7,7,7,7,7,7,7,7,7,7,7,7,7,7,7,7,7,7,7,7,7,7,7,7,7,7,7,7,7,7,7,7,7,7,7,7,7,7,7,7,7,7,7,7,7,7,7,7,7,7,7,7,7,7,7,7,7,7,7,7,7,7,7,8,8,8,8,8,8,8,8,8,8,8,8,8,8,8,8,8,8,8,8,8,8,8,8,8,8,8,8,8,8,8,8,8,8,8,8,8,8,8,8,8,8,8,8,8,8,8,8,8,8,8,8,8,8,8,8,8,8,8,8,8,8,8,8,8,8,8,8,8,8,8,8,8,8,8,8,8,8,8,8,8,8,8,8,8,8,8,8,8,8,8,8,8,8,8,8,8,8,8,8,8,8,8,8,8,8,8,8,8,8,8,8,8,8,8,8,8,8,8,8,8,8,8,8,8,8,8,8]:List UInt8);let b':=zm x (2^32);let c':=(0:Sh.T (zg yw));let e':=zm x (2^16);let i':=zm x (2^8);let d':=zm b' (2^16);let g':=zm b' (2^8);let h':=zm e' (2^8);let f':=zm d' (2^8);.ite (decide (x≥4294967296)) (.ite true (.ite (decide (zm x (2^32)≥65536)) (.ite true (.ite (decide (zm b' (2^16)≥256)) (.ite true (.ite (decide (c'≤zc .u8 f')&&decide (zc .u8 f'<(↑256:Int))) (.leaf (.dat i64 (zc .i64 (zc .i64 (zc .i64 (32+16)+8)+zc .i64 (↑(zJ (getD a' (toNat (zc .u8 f')) (0:UInt8))):Int)))) []) .fail) .fail) (.ite (decide (c'≤zc .u8 d')&&decide (zc .u8 d'<(↑256:Int))) (.leaf (.dat i64 (zc .i64 (zc .i64 (32+16)+zc .i64 (↑(zJ (getD a' (toNat (zc .u8 d')) (0:UInt8))):Int)))) []) .fail)) .fail) (.ite (decide (zm x (2^32)≥256)) (.ite true (.ite (decide (c'≤zc .u8 g')&&decide (zc .u8 g'<(↑256:Int))) (.leaf (.dat i64 (zc .i64 (zc .i64 (32+8)+zc .i64 (↑(zJ (getD a' (toNat (zc .u8 g')) (0:UInt8))):Int)))) []) .fail) .fail) (.ite (decide (c'≤zc .u8 b')&&decide (zc .u8 b'<(↑256:Int))) (.leaf (.dat i64 (zc .i64 (32+zc .i64 (↑(zJ (getD a' (toNat (zc .u8 b')) (0:UInt8))):Int)))) []) .fail))) .fail) (.ite (decide (x≥65536)) (.ite true (.ite (decide (zm x (2^16)≥256)) (.ite true (.ite (decide (c'≤zc .u8 h')&&decide (zc .u8 h'<(↑256:Int))) (.leaf (.dat i64 (zc .i64 (zc .i64 (zc .i64 (0+16)+8)+zc .i64 (↑(zJ (getD a' (toNat (zc .u8 h')) (0:UInt8))):Int)))) []) .fail) .fail) (.ite (decide (c'≤zc .u8 e')&&decide (zc .u8 e'<(↑256:Int))) (.leaf (.dat i64 (zc .i64 (zc .i64 (0+16)+zc .i64 (↑(zJ (getD a' (toNat (zc .u8 e')) (0:UInt8))):Int)))) []) .fail)) .fail) (.ite (decide (x≥256)) (.ite true (.ite (decide (c'≤zc .u8 i')&&decide (zc .u8 i'<(↑256:Int))) (.leaf (.dat i64 (zc .i64 (zc .i64 (0+8)+zc .i64 (↑(zJ (getD a' (toNat (zc .u8 i')) (0:UInt8))):Int)))) []) .fail) .fail) (.ite (decide (c'≤zc .u8 x)&&decide (zc .u8 x<(↑256:Int))) (.leaf (.dat i64 (zc .i64 (0+zc .i64 (↑(zJ (getD a' (toNat (zc .u8 x)) (0:UInt8))):Int)))) []) .fail))):=by kernel_rfl
end T247
namespace T272
def T(x:Int):Tr:=tree vX false 9 272 (Ah ([zg zd]) x)
theorem An(x:Int):T x=.ite (zp x) (.leaf (.dat i64 (zc .i64 (64-Sp.EG x))) []) .fail:=by kernel_rfl
end T272
namespace T271
def T(hi lo y:Int):Tr:=tree ZV false 9 271 (Ah ([zg zd,zg zd,zg zd]) (hi,lo,y))
def L1(v2 v8 v9 v10 v11 v13 v14 v15 v16:Int):Tr:=re ((T 0 0 0).R.R.R.L.L.L.L.L.L.L.L) (AI 135 [(2,.dat (zg zd) v2),(8,.dat (zg zd) v8),(9,.dat (zg zd) v9),(10,.dat (zg zd) v10),(11,.dat (zg zd) v11),(13,.dat (zg zd) v13),(14,.dat (zg zd) v14),(15,.dat (zg zd) v15),(16,.dat (zg zd) v16)] [] 0)
theorem An(hi lo y:Int):T hi lo y=let e':=decide (0≤zc .u64 (Sp.lz y));let i':=64-zc .u64 (Sp.lz y);let j':=zc .u64 (Sp.lz y);let c':=toNat j';let d':=zm lo (2^yk (toNat (zc .u64 i')) 64);let a':=zc .u64 (y*2^yk c' 64);let f':=zc .u64 (lo*2^yk c' 64);let g':=zc .u64 (hi*2^yk c' 64);let b':=Xk zd g' d';let h':=zm a' (2^32);.ite (y==0) .fail (.ite (decide (y≤hi)) .fail (.ite (hi==0) (.ite (decide (y≠0)) (.ite (decide (y≠0)) (.leaf (.tup [.dat (zg zd) (zc .u64 (zZ lo y)),.dat (zg zd) (Int.tmod lo y)]) []) .fail) .fail) (.ite (zp y) (.ite e' (.ite true (.ite e' (.ite (decide (0≤zc .u64 i')) (.ite e' (.ite true (.ite (decide (zm a' (2^32)≠0)) (L1 a' j' h' (GI zd a' 4294967295) b' (zm f' (2^32)) (GI zd f' 4294967295) (zc .u64 (zZ b' h')) (zc .u64 (Xk zd g' d'-zc .u64 (zc .u64 (zZ b' h')*zm a' (2^32))))) .fail) .fail) .fail) .fail) .fail) .fail) .fail) .fail))):=by kernel_rfl
def L2(v2 v8 v9 v10 v14 v15 v16 v17 v18:Int):Tr:=re ((stepT ZV (L1 0 0 0 0 0 0 0 0 0)).L.L.L) (AI 135 [(2,.dat (zg zd) v2),(8,.dat (zg zd) v8),(9,.dat (zg zd) v9),(10,.dat (zg zd) v10),(14,.dat (zg zd) v14),(15,.dat (zg zd) v15),(16,.dat (zg zd) v16),(17,.dat (zg zd) v17),(18,.dat (zg zd) v18)] [] 0)
theorem Ar(v2 v8 v9 v10 v11 v13 v14 v15 v16:Int):stepT ZV (L1 v2 v8 v9 v10 v11 v13 v14 v15 v16)=let f':=zc .u64 (v11*4294967296)+v13;let g':=zc .u64 (v15-1);let b':=zc .u64 f'-zc .u64 (zc .u64 (v15-1)*v2);let c':=zc .u64 f'-zc .u64 (v15*v2);let d':=zc .u64 c';let e':=zc .u64 b';let a':Tr:=.ite (decide (zc .u64 (v16+v9)≥4294967296)) (.ite (decide (v9≠0)) (L2 v2 v8 v9 v10 v14 g' (zc .u64 (zc .u64 b'-zc .u64 (zc .u64 (zZ e' v9)*v9))) e' (zc .u64 (zZ e' v9))) .fail) (L1 v2 v8 v9 v10 v11 v13 v14 g' (zc .u64 (v16+v9)));.ite (decide (v15≥4294967296)) a' (.ite (decide (zc .u64 (v15*v10)>zc .u64 (zc .u64 (4294967296*v16)+v13))) a' (.ite (decide (v9≠0)) (L2 v2 v8 v9 v10 v14 v15 (zc .u64 (zc .u64 c'-zc .u64 (zc .u64 (zZ d' v9)*v9))) d' (zc .u64 (zZ d' v9))) .fail)):=by kernel_rfl
theorem A1(v2 v8 v9 v10 v14 v15 v16 v17 v18:Int):stepT ZV (L2 v2 v8 v9 v10 v14 v15 v16 v17 v18)=let b':=zg zd;let c':=zc .u64 (v17*4294967296)+v14;let d':=2^yk (toNat v8) 64;let a':Tr:=.ite (decide (zc .u64 (v16+v9)≥4294967296)) (.ite (decide (0≤v8)) (.leaf (.tup [.dat b' (zc .u64 (zc .u64 (v15*4294967296)+zc .u64 (v18-1))),.dat b' (zm (zc .u64 (zc .u64 c'-zc .u64 (zc .u64 (v18-1)*v2))) d')]) []) .fail) (L2 v2 v8 v9 v10 v14 v15 (zc .u64 (v16+v9)) v17 (zc .u64 (v18-1)));.ite (decide (v18≥4294967296)) a' (.ite (decide (zc .u64 (v18*v10)>zc .u64 (zc .u64 (4294967296*v16)+v14))) a' (.ite (decide (0≤v8)) (.leaf (.tup [.dat b' (zc .u64 (zc .u64 (v15*4294967296)+v18)),.dat b' (zm (zc .u64 (zc .u64 c'-zc .u64 (v18*v2))) d')]) []) .fail)):=by kernel_rfl
end T271
end
namespace T271
variable {Q:PV→Ob→Prop}
def Exact(Y u w q:Int):Prop:=q*Y≤u*4294967296+w∧u*4294967296+w<(q+1)*Y
theorem W8{Y y1 y0 u w q r:Int}(hY:Y=y1*4294967296+y0)(he:q*y1+r=u)(h:q*y0>4294967296*r+w):u*4294967296+w<q*Y:=by
 subst hY;rw[zH, ←zu];generalize q*y1=A at*;generalize q*y0=C at*;omega
theorem Kd{Y y1 y0 u w q r:Int}(hY:Y=y1*4294967296+y0)(he:q*y1+r=u)(h:q*y0≤4294967296*r+w):q*Y≤u*4294967296+w:=by
 subst hY;rw[zH, ←zu];generalize q*y1=A at*;generalize q*y0=C at*;omega
theorem SG{Y u w q:Int}(hu:u<Y)(hY:0≤Y)(hw:w<4294967296)(hq:4294967296≤q):u*4294967296+w<q*Y:=by
 have:=zj hq hY;omega
theorem S9{y1 y0 u w r:Int}{n:Nat}{Y:Int}(hY:Y=y1*4294967296+y0)(h1:0≤y1)(h0:0≤y0∧y0<4294967296)(hu:u<Y)(hw:0≤w)(he:(n:Int)*y1+r=u)(hr:4294967296≤r):(n:Int)*Y≤u*4294967296+w:=by
 have hn:(n:Int)<4294967296:=by
  rcases zA (n:Int) 4294967296 with h|h
  ·exact h
  ·have:=zj h h1;omega
 refine Kd hY he ?_;have a:=zj (show(n:Int)≤4294967295 by omega) h0.1;omega
theorem Aj(Y s y1 y0 u w z:Int)(hY:Y=y1*4294967296+y0)(h1:0<y1∧y1<4294967296)(h0:0≤y0∧y0<4294967296)(hu:u<Y)(hw:0≤w∧w<4294967296)
  (hx:∀q:Int,0≤q→Exact Y u w q→Ends ZV (L2 Y s y1 y0 z q (zc zd (zc zd (zc zd (zc zd (u*(4294967296:Int))+w)-zc zd (q*Y))-zc zd (zc zd (zZ (zc zd (zc zd (zc zd (u*(4294967296:Int))+w)-zc zd (q*Y))) y1)*y1))) (zc zd (zc zd (zc zd (u*(4294967296:Int))+w)-zc zd (q*Y))) (zc zd (zZ (zc zd (zc zd (zc zd (u*(4294967296:Int))+w)-zc zd (q*Y))) y1))) Q):
  ∀(n:Nat) (r:Int),(n:Int)<18446744073709551616→(n:Int)*y1+r=u→0≤r→r<4294967296→u*4294967296+w<((n:Int)+1)*Y→Ends ZV (L1 Y s y1 y0 u w z n r) Q:=by
 intro n;induction n with
 |zero=>
  intro r hn he r0 r1 hup;have hz:decide (y1≠0)=true:=decide_eq_true (by omega);refine zR (Ar ..) (zP (by simp) (zP (decide_eq_false ?_) (ze hz (hx _ (by omega) ⟨?_,hup⟩))))
  ·rw[show((0:Nat):Int)*y0=0 by simp,wu 0 (by omega) (by omega),wu (4294967296*r) (by omega) (by omega),wu _ (by omega) (by omega)];omega
  ·exact Kd hY he (by rw[show((0:Nat):Int)*y0=0 by simp];omega)
 |succ n ih=>
  intro r hn he r0 r1 hup;have hz:decide (y1≠0)=true:=decide_eq_true (by omega);have e1:zc .u64 (((n+1:Nat):Int)-1)=(n:Int):=by rw[wu _ (by omega) (by omega)];omega
  have e2:zc .u64 (r+y1)=r+y1:=wu _ (by omega) (by omega);have hY0:0≤Y:=by omega
  have he':(n:Int)*y1+(r+y1)=u:=by
   rw[show((n+1:Nat):Int)=(n:Int)+1 by omega,zB,zQ]at he;omega
  have ec:((n+1:Nat):Int)=(n:Int)+1:=by omega
  have dec:u*4294967296+w<((n:Int)+1)*Y→r+y1<4294967296→Ends ZV (L1 Y s y1 y0 u w z n (r+y1)) Q:=fun h1' h2'=>
   ih (r+y1) (by omega) he' (by omega) h2' h1'
  have cut:u*4294967296+w<((n:Int)+1)*Y→4294967296≤r+y1→Exact Y u w n:=fun h1' h2'=>
   ⟨S9 hY (by omega) h0 hu hw.1 he' h2',h1'⟩
  refine zR (Ar ..) ?_;conv=>zeta
  rw[e1,e2];refine zk (fun c=>?_) (fun c=>zk (fun d=>?_) (fun d=>?_))
  ·have c:=of_decide_eq_true c;have hb:u*4294967296+w<((n:Int)+1)*Y:=by rw[←ec];exact SG hu hY0 hw.2 c
   exact zk (fun e=>ze hz (hx _ (by omega) (cut hb (of_decide_eq_true e)))) (fun e=>dec hb (by have:=of_decide_eq_false e;omega))
  ·have c:=of_decide_eq_false c;have d:=of_decide_eq_true d;have a:=zj (show((n+1:Nat):Int)≤4294967295 by omega) h0.1;have b:=zq (show 0≤((n+1:Nat):Int)by omega) h0.1;rw[wu (((n+1:Nat):Int)*y0) (by omega) (by omega),wu (4294967296*r) (by omega) (by omega),wu _ (by omega) (by omega)]at d;have hb:u*4294967296+w<((n:Int)+1)*Y:=by rw[←ec];exact W8 hY he d
   exact zk (fun e=>ze hz (hx _ (by omega) (cut hb (of_decide_eq_true e)))) (fun e=>dec hb (by have:=of_decide_eq_false e;omega))
  ·have c:=of_decide_eq_false c;have d:=of_decide_eq_false d;have a:=zj (show((n+1:Nat):Int)≤4294967295 by omega) h0.1;have b:=zq (show 0≤((n+1:Nat):Int)by omega) h0.1;rw[wu (((n+1:Nat):Int)*y0) (by omega) (by omega),wu (4294967296*r) (by omega) (by omega),wu _ (by omega) (by omega)]at d;exact ze hz (hx _ (by omega) ⟨Kd hY he (by omega),hup⟩)
theorem AS(Y s y1 y0 u w p:Int)(hY:Y=y1*4294967296+y0)(h1:0<y1∧y1<4294967296)(h0:0≤y0∧y0<4294967296)(hu:u<Y)(hw:0≤w∧w<4294967296)(hs:0≤s)
  (hx:∀q:Int,0≤q→Exact Y u w q→∀ob,Q (PV.tup [PV.dat (zg zd) (zc zd (zc zd (p*(4294967296:Int))+q)),PV.dat (zg zd) (zm (zc zd (zc zd (zc zd (u*(4294967296:Int))+w)-zc zd (q*Y))) ((2:Int)^yk (yu s) (64:Nat)))]) ob):
  ∀(n:Nat) (r:Int),(n:Int)<18446744073709551616→(n:Int)*y1+r=u→0≤r→r<4294967296→u*4294967296+w<((n:Int)+1)*Y→Ends ZV (L2 Y s y1 y0 w p r u n) Q:=by
 intro n;induction n with
 |zero=>
  intro r hn he r0 r1 hup;have hz:decide (0≤s)=true:=decide_eq_true hs;refine zR (A1 ..) (zP (by simp) (zP (decide_eq_false ?_) (ze hz (zi (hx _ (by omega) ⟨?_,hup⟩ _)))))
  ·rw[show((0:Nat):Int)*y0=0 by simp,wu 0 (by omega) (by omega),wu (4294967296*r) (by omega) (by omega),wu _ (by omega) (by omega)];omega
  ·exact Kd hY he (by rw[show((0:Nat):Int)*y0=0 by simp];omega)
 |succ n ih=>
  intro r hn he r0 r1 hup;have hz:decide (0≤s)=true:=decide_eq_true hs;have e1:zc .u64 (((n+1:Nat):Int)-1)=(n:Int):=by rw[wu _ (by omega) (by omega)];omega
  have e2:zc .u64 (r+y1)=r+y1:=wu _ (by omega) (by omega);have hY0:0≤Y:=by omega
  have he':(n:Int)*y1+(r+y1)=u:=by
   rw[show((n+1:Nat):Int)=(n:Int)+1 by omega,zB,zQ]at he;omega
  have ec:((n+1:Nat):Int)=(n:Int)+1:=by omega
  have dec:u*4294967296+w<((n:Int)+1)*Y→r+y1<4294967296→Ends ZV (L2 Y s y1 y0 w p (r+y1) u n) Q:=fun h1' h2'=>
   ih (r+y1) (by omega) he' (by omega) h2' h1'
  have cut:u*4294967296+w<((n:Int)+1)*Y→4294967296≤r+y1→Exact Y u w n:=fun h1' h2'=>
   ⟨S9 hY (by omega) h0 hu hw.1 he' h2',h1'⟩
  refine zR (A1 ..) ?_;conv=>zeta
  rw[e1,e2];refine zk (fun c=>?_) (fun c=>zk (fun d=>?_) (fun d=>?_))
  ·have c:=of_decide_eq_true c;have hb:u*4294967296+w<((n:Int)+1)*Y:=by rw[←ec];exact SG hu hY0 hw.2 c
   exact zk (fun e=>ze hz (zi (hx _ (by omega) (cut hb (of_decide_eq_true e)) _))) (fun e=>dec hb (by have:=of_decide_eq_false e;omega))
  ·have c:=of_decide_eq_false c;have d:=of_decide_eq_true d;have a:=zj (show((n+1:Nat):Int)≤4294967295 by omega) h0.1;have b:=zq (show 0≤((n+1:Nat):Int)by omega) h0.1;rw[wu (((n+1:Nat):Int)*y0) (by omega) (by omega),wu (4294967296*r) (by omega) (by omega),wu _ (by omega) (by omega)]at d;have hb:u*4294967296+w<((n:Int)+1)*Y:=by rw[←ec];exact W8 hY he d
   exact zk (fun e=>ze hz (zi (hx _ (by omega) (cut hb (of_decide_eq_true e)) _))) (fun e=>dec hb (by have:=of_decide_eq_false e;omega))
  ·have c:=of_decide_eq_false c;have d:=of_decide_eq_false d;have a:=zj (show((n+1:Nat):Int)≤4294967295 by omega) h0.1;have b:=zq (show 0≤((n+1:Nat):Int)by omega) h0.1;rw[wu (((n+1:Nat):Int)*y0) (by omega) (by omega),wu (4294967296*r) (by omega) (by omega),wu _ (by omega) (by omega)]at d;exact ze hz (zi (hx _ (by omega) ⟨Kd hY he (by omega),hup⟩ _))
end T271
theorem TB{y:Int}(h1:0<y)(h2:y<18446744073709551616):∃s:Nat,Sp.lz y=(s:Int)∧s≤63∧y*2^s<18446744073709551616∧9223372036854775808≤y*2^s:=by
 obtain⟨n,rfl⟩:=zo (zN h1);have hn:n≠0:=by omega
 have hk:n.log2<64:=(Nat.log2_lt hn).2 (by omega);have a:=Nat.log2_self_le hn;have b:=Nat.lt_log2_self (n:=n);have e1:2^n.log2*2^(63-n.log2)=2^63:=by rw[←yt];congr 1;omega
 have e2:2^(n.log2+1)*2^(63-n.log2)=2^64:=by rw[←yt];congr 1;omega
 have c1:2^63≤n*2^(63-n.log2):=by rw[←e1];exact Nat.mul_le_mul_right _ a
 have c2:n*2^(63-n.log2)<2^64:=by rw[←e2];exact Nat.mul_lt_mul_of_pos_right b (yp _)
 refine⟨63-n.log2,?_,by omega,?_,?_⟩
 ·unfold Sp.lz Sp.EG;rw[if_neg (by omega),zl];omega
 ·have:((n*2^(63-n.log2):Nat):Int)<18446744073709551616:=by omega
  rw[zX,zS]at this;exact this
 ·have:(9223372036854775808:Int)≤((n*2^(63-n.log2):Nat):Int):=by omega
  rw[zX,zS]at this;exact this
theorem Wk{a b:Int}{s:Nat}(ha:0≤a)(hb:0≤b)(h:b<2^s)(hm:a*2^s+b<18446744073709551616):Xk .u64 (a*2^s) b=a*2^s+b:=by
 obtain⟨m,rfl⟩:=zo ha;obtain⟨k,rfl⟩:=zo hb;have ep:((m:Int)*2^s)=((m*2^s:Nat):Int):=by rw[zX,zS];rfl
 have hk:k<2^s:=by
  have e:((2:Int)^s)=((2^s:Nat):Int):=by rw[zS];rfl
  rw[e]at h;omega
 rw[ep]at hm ⊢;have e:(zF 64 ((m*2^s:Nat):Int)|||zF 64 (k:Int)).toNat=m*2^s+k:=by
  rw[BitVec.toNat_or,z7,z7,yb,yb,yg (by omega),yg (by omega),Nat.mul_comm m,Nat.two_pow_add_eq_or_of_lt hk]
 show zc .u64 (((zF 64 ((m*2^s:Nat):Int)|||zF 64 (k:Int)).toNat:Nat):Int)=_;rw[e,Zt _ (by omega)];omega
namespace T271
theorem start{u y1 y0 Y w:Int}(hY:Y=y1*4294967296+y0)(h1:0<y1∧y1<4294967296)(h0:0≤y0)(hu:0≤u∧u<18446744073709551616)(hw:w<4294967296):
  ∃(n:Nat) (r:Int),zc .u64 (zZ u y1)=(n:Int)∧zc .u64 (u-zc .u64 ((n:Int)*y1))=r∧(n:Int)<18446744073709551616∧(n:Int)*y1+r=u∧0≤r∧r<4294967296∧u*4294967296+w<((n:Int)+1)*Y:=by
 have q0:0≤u/y1:=yq hu.1 (by omega);have q1:u/y1≤u:=Int.ediv_le_self _ hu.1;have ed:=Int.mul_ediv_add_emod u y1;have r0:=Int.emod_nonneg u (show y1≠0 by omega);have r1:=Int.emod_lt_of_pos u h1.1;rw[zG]at ed;obtain⟨n,hn⟩:=zo q0;have hp:0≤(n:Int)*y1:=zq (by omega) (by omega);rw[hn]at ed;refine⟨n,u % y1,?_,?_,by omega,ed,r0,by omega,?_⟩
 ·rw[yf hu.1,hn,wu _ (by omega) (by omega)]
 ·rw[wu ((n:Int)*y1) (by omega) (by omega),wu _ (by omega) (by omega)];omega
 ·subst hY;have a:((n:Int)+1)*(y1*4294967296+y0)=((n:Int)*y1+y1)*4294967296+((n:Int)+1)*y0:=by
   rw[zH, ←zu,zB,zQ]
  have b:0≤((n:Int)+1)*y0:=zq (by omega) h0;rw[a];omega
theorem Qh{u w q Y:Int}(hE:Exact Y u w q)(hY:Y<18446744073709551616):zc .u64 (zc .u64 (zc .u64 (u*(4294967296:Int))+w)-zc .u64 (q*Y))=u*4294967296+w-q*Y:=by
 obtain⟨a,b⟩:=hE;rw[zB,zQ]at b;rw[Kn,Kn,Kn,Kn];generalize q*Y=A at*;omega
theorem lE(h:Ae AV 272 uL):∀g sp,ZV.sp g=some sp→Ae AV g sp:=Ac h (fun g sp h=>by cases h)
set_option maxHeartbeats 1000000 in
theorem ok(hlz:Ae AV 272 uL):Ae AV 271 QE:=by
 refine AB (X:=ZV) rfl (lE hlz) (d:=9) (by kernel_rfl) (by kernel_rfl) (by kernel_rfl) (fun(i:Int×Int×Int) hi=>?_) (Ad (by kernel_rfl));obtain⟨hi',lo,y⟩:=i;have hi:(zp hi'&&zp lo&&zp y&&decide (hi'<y))=true:=hi;rw[zh,zh,zh,decide_eq_true_eq]at hi;obtain⟨⟨⟨h1,h2⟩,h3⟩,h4⟩:=hi;have uy:=h3;have h1:=yn h1;have h2:=yn h2;have h3:=yn h3;have hg:∀q r ob,q=Sp.dq hi' lo y→r=Sp.dr hi' lo y→Af QE (hi',lo,y) (PV.tup [PV.dat (zg zd) q,PV.dat (zg zd) r]) ob:=fun q r ob e1 e2=>zz rfl rfl (Prod.ext e1 e2)
 refine zM (An hi' lo y) (zP (by simp;omega) (zP (decide_eq_false (by omega)) (zk (fun c=>?_) (fun c=>?_))))
 ·have c:hi'=0:=by simpa using c
  subst c;have q0:0≤lo/y:=yq h2.1 (by omega);have q1:lo/y≤lo:=Int.ediv_le_self _ h2.1;refine ze (decide_eq_true (by omega)) (ze (decide_eq_true (by omega)) (zi (hg _ _ _ ?_ ?_)))
  ·unfold Sp.dq;rw[yf h2.1,wu _ (by omega) (by omega),Int.zero_mul,ym]
  ·unfold Sp.dr;rw[Int.tmod_eq_emod_of_nonneg h2.1,Int.zero_mul,ym]
 ·have c:hi'≠0:=by simpa using c
  obtain⟨s,hs,hs63,hlt,hge⟩:=TB (y:=y) (by omega) h3.2;have es:zc .u64 (s:Int)=(s:Int):=Zt s (by omega);have em:yk s 64=s:=by omega
  have es2:zc .u64 ((64:Int)-(s:Int))=((64-s:Nat):Int):=by rw[wu _ (by omega) (by omega)];omega
  have em2:yk (64-s) 64=64-s:=by omega
  have hPR:(2:Int)^s*2^(64-s)=18446744073709551616:=by rw[←Int.pow_add,show s+(64-s)=64 by omega];rfl
  have hP:(0:Int)<2^s:=Int.pow_pos (by decide);have hR:(0:Int)<2^(64-s):=Int.pow_pos (by decide);have a0:0≤lo/2^(64-s):=yq h2.1 (by omega);have led:=Int.mul_ediv_add_emod lo (2^(64-s));have c0:=Int.emod_nonneg lo (show(2:Int)^(64-s)≠0 by omega);have c1:=Int.emod_lt_of_pos lo hR;have aP:lo/2^(64-s)<2^s:=Int.ediv_lt_of_lt_mul hR (by rw[hPR];exact h2.2);have hiP:hi'*2^s+2^s≤y*2^s:=by
   have:=zj (show hi'+1≤y by omega) (zN hP);rw[zB,zQ]at this;exact this
  have hi0:0≤hi'*2^s:=zq h1.1 (zN hP);have efd:zm lo ((2:Int)^(64-s))=lo/2^(64-s):=zL _ (by omega);have eio:Xk .u64 (hi'*2^s) (lo/2^(64-s))=hi'*2^s+lo/2^(64-s):=Wk h1.1 a0 aP (by omega);have cP0:0≤(lo % 2^(64-s))*2^s:=zq c0 (zN hP);have cP1:(lo % 2^(64-s))*2^s<18446744073709551616:=by
   have:=Int.mul_lt_mul_of_pos_right c1 hP;rw[zG (2^(64-s)),hPR]at this;exact this
  have loP:lo*2^s=(lo/2^(64-s))*18446744073709551616+(lo % 2^(64-s))*2^s:=by
   conv=>lhs;rw[←led]
   rw[zB, ←hPR,zG (2^(64-s)) (lo/2^(64-s)),zu,zG (2^(64-s)) (2^s)]
  have elo:zc .u64 (lo*2^s)=(lo % 2^(64-s))*2^s:=by rw[loP,Kn];omega
  have hN:(hi'*2^s+lo/2^(64-s))*18446744073709551616+(lo % 2^(64-s))*2^s=(hi'*18446744073709551616+lo)*2^s:=by
   rw[zB (hi'*18446744073709551616) lo (2^s),loP,zu hi' 18446744073709551616 (2^s),zG 18446744073709551616 ((2:Int)^s), ←zu];omega
  have ewy:zc .u64 (y*2^s)=y*2^s:=wu _ (by omega) (by omega);have ewh:zc .u64 (hi'*2^s)=hi'*2^s:=wu _ hi0 (by omega);have z0:decide ((0:Int)≤(s:Int))=true:=decide_eq_true (by omega);have fin:∀q:Int,q*(y*2^s)≤(hi'*18446744073709551616+lo)*2^s→(hi'*18446744073709551616+lo)*2^s<(q+1)*(y*2^s)→q=Sp.dq hi' lo y∧zm ((hi'*18446744073709551616+lo)*2^s-q*(y*2^s)) (2^s)=Sp.dr hi' lo y:=by
   intro q f1 f2;unfold Sp.dq Sp.dr;generalize hi'*18446744073709551616+lo=M at*;rw[←zu]at f1 f2;have g1:q*y≤M:=Int.le_of_mul_le_mul_right f1 hP;have g2:M<(q+1)*y:=Int.lt_of_mul_lt_mul_right f2 (zN hP);rw[zB,zQ]at g2;obtain⟨u1,u2⟩:=(Int.ediv_emod_unique (a:=M) (b:=y) (r:=M-q*y) (q:=q) (by omega)).2 ⟨by rw[zG y q];omega,by omega,by omega⟩;refine⟨u1.symm,?_⟩;rw[u2, ←zu, ←Int.sub_mul,zL _ (zN hP)];exact Int.mul_ediv_cancel _ (by omega)
  obtain⟨Y,eY⟩:=zo (show 0≤y*2^s by omega);obtain⟨C,eC⟩:=zo cP0;have hU0:0≤hi'*2^s+lo/2^(64-s):=by omega
  have hUY:hi'*2^s+lo/2^(64-s)<y*2^s:=by omega
  rw[hs,es,es2,zl,zl,em,em2,ewy,ewh,efd,eio,elo];rw[eC]at hN cP1 ⊢;rw[eY]at hlt hge hUY fin ⊢;generalize hU:hi'*2^s+lo/2^(64-s)=U at*;generalize hM:(hi'*18446744073709551616+lo)*2^s=M at*;rw[XK,XK,OI Y (by omega),OI C (by omega)];have hY:(Y:Int)=((Y/4294967296:Nat):Int)*4294967296+((Y % 4294967296:Nat):Int):=by omega
  have b1:0<((Y/4294967296:Nat):Int)∧((Y/4294967296:Nat):Int)<4294967296:=by omega
  have b0:0≤((Y % 4294967296:Nat):Int)∧((Y % 4294967296:Nat):Int)<4294967296:=by omega
  have w1:0≤((C/4294967296:Nat):Int)∧((C/4294967296:Nat):Int)<4294967296:=by omega
  have w0:0≤((C % 4294967296:Nat):Int)∧((C % 4294967296:Nat):Int)<4294967296:=by omega
  have hC:(C:Int)=((C/4294967296:Nat):Int)*4294967296+((C % 4294967296:Nat):Int):=by omega
  generalize ((Y/4294967296:Nat):Int)=y1 at*;generalize ((Y % 4294967296:Nat):Int)=y0 at*;generalize ((C/4294967296:Nat):Int)=w at*;generalize ((C % 4294967296:Nat):Int)=z at*;refine ze uy (ze z0 (ze rfl (ze z0 (ze (decide_eq_true (by omega)) (ze z0 (ze rfl (ze (decide_eq_true (by omega)) ?_)))))));obtain⟨n,r,e1,e2,n1,n2,n3,n4,n5⟩:=start (u:=U) (w:=w) hY b1 b0.1 (by omega) w1.2;rw[e1,e2];refine Aj (Y:Int) s y1 y0 U w z hY b1 b0 hUY w1 (fun p p0 hp=>?_) n r n1 n2 n3 n4 n5;have er:=Qh hp (by omega);rw[er];have hp1:=hp.1;have hp2:=hp.2;rw[zB,zQ]at hp2;obtain⟨m,t,k1,k2,m1,m2,m3,m4,m5⟩:=start (u:=U*4294967296+w-p*Y) (w:=z) hY b1 b0.1 (by omega) w0.2;rw[k1,k2];refine AS (Y:Int) s y1 y0 _ z p hY b1 b0 (by omega) w0 (by omega) (fun q q0 hq ob=>?_) m t m1 m2 m3 m4 m5;rw[Qh hq (by omega),zl,em];obtain⟨hq1,hq2⟩:=hq;have ez:(p*4294967296+q)*(Y:Int)=p*Y*4294967296+q*Y:=by
   rw[zB,zu,zG 4294967296 (Y:Int), ←zu]
  have ez1:(p*4294967296+q+1)*(Y:Int)=p*Y*4294967296+q*Y+Y:=by
   rw[zB,ez,zQ]
  rw[zB,zQ]at hq2;obtain⟨f1,f2⟩:=fin (p*4294967296+q) (by rw[ez];omega) (by rw[ez1];omega);refine hg _ _ _ ?_ ?_
  ·have hb:Sp.dq hi' lo y<18446744073709551616:=by
    unfold Sp.dq;refine Int.ediv_lt_of_lt_mul (by omega) ?_;have:=zE (show hi'+1≤y by omega) (show(0:Int)≤18446744073709551616 by decide);omega
   rw[←f1]at hb ⊢;rw[Kn,Kn];omega
  ·rw[←f2,ez];congr 1;omega
end T271
end Go.Pe
end
section
namespace Go.Pe
open Sp
open Go.Det
theorem eS(x k:Nat)(h:2^k≤x):x.log2=k+(x/2^k).log2:=by
 have hk:=yp k;have hz:x/2^k≠0:=by
  have:=Nat.div_pos h hk;omega
 have hx:x≠0:=by omega
 refine(Nat.log2_eq_iff hx).2 ⟨?_,?_⟩
 ·rw[yt];exact Nat.le_trans (Nat.mul_le_mul_left _ (Nat.log2_self_le hz)) (Nat.mul_div_le x (2^k))
 ·rw[Nat.add_assoc,yt];have a:x/2^k+1≤2^((x/2^k).log2+1):=Nat.lt_log2_self;have b:=Nat.mul_le_mul_left (2^k) a;have c:=Nat.lt_mul_div_succ x hk;exact Nat.lt_of_lt_of_le c b
theorem OU(x k:Nat)(h:2^k≤x):EG (x:Int)=(k:Int)+EG ((x/2^k:Nat):Int):=by
 have hk:=yp k;have hz:=Nat.div_pos h hk;have e:=eS x k h;unfold EG;rw[if_neg (by omega),if_neg (by omega),zl,zl,e];omega
theorem oC(n k:Nat):zm (n:Int) ((2:Int)^k)=((n/2^k:Nat):Int):=by
 have:(0:Int)<2^k:=Int.pow_pos (by decide);rw[zL _ (by omega),Int.natCast_ediv,zS];rfl
def oF:List UInt8:=[(0:UInt8),(1:UInt8),(2:UInt8),(2:UInt8),(3:UInt8),(3:UInt8),(3:UInt8),(3:UInt8),(4:UInt8),(4:UInt8),(4:UInt8),(4:UInt8),(4:UInt8),(4:UInt8),(4:UInt8),(4:UInt8),(5:UInt8),(5:UInt8),(5:UInt8),(5:UInt8),(5:UInt8),(5:UInt8),(5:UInt8),(5:UInt8),(5:UInt8),(5:UInt8),(5:UInt8),(5:UInt8),(5:UInt8),(5:UInt8),(5:UInt8),(5:UInt8),(6:UInt8),(6:UInt8),(6:UInt8),(6:UInt8),(6:UInt8),(6:UInt8),(6:UInt8),(6:UInt8),(6:UInt8),(6:UInt8),(6:UInt8),(6:UInt8),(6:UInt8),(6:UInt8),(6:UInt8),(6:UInt8),(6:UInt8),(6:UInt8),(6:UInt8),(6:UInt8),(6:UInt8),(6:UInt8),(6:UInt8),(6:UInt8),(6:UInt8),(6:UInt8),(6:UInt8),(6:UInt8),(6:UInt8),(6:UInt8),(6:UInt8),(6:UInt8),(7:UInt8),(7:UInt8),(7:UInt8),(7:UInt8),(7:UInt8),(7:UInt8),(7:UInt8),(7:UInt8),(7:UInt8),(7:UInt8),(7:UInt8),(7:UInt8),(7:UInt8),(7:UInt8),(7:UInt8),(7:UInt8),(7:UInt8),(7:UInt8),(7:UInt8),(7:UInt8),(7:UInt8),(7:UInt8),(7:UInt8),(7:UInt8),(7:UInt8),(7:UInt8),(7:UInt8),(7:UInt8),(7:UInt8),(7:UInt8),(7:UInt8),(7:UInt8),(7:UInt8),(7:UInt8),(7:UInt8),(7:UInt8),(7:UInt8),(7:UInt8),(7:UInt8),(7:UInt8),(7:UInt8),(7:UInt8),(7:UInt8),(7:UInt8),(7:UInt8),(7:UInt8),(7:UInt8),(7:UInt8),(7:UInt8),(7:UInt8),(7:UInt8),(7:UInt8),(7:UInt8),(7:UInt8),(7:UInt8),(7:UInt8),(7:UInt8),(7:UInt8),(7:UInt8),(7:UInt8),(7:UInt8),(7:UInt8),(7:UInt8),(7:UInt8),(8:UInt8),(8:UInt8),(8:UInt8),(8:UInt8),(8:UInt8),(8:UInt8),(8:UInt8),(8:UInt8),(8:UInt8),(8:UInt8),(8:UInt8),(8:UInt8),(8:UInt8),(8:UInt8),(8:UInt8),(8:UInt8),(8:UInt8),(8:UInt8),(8:UInt8),(8:UInt8),(8:UInt8),(8:UInt8),(8:UInt8),(8:UInt8),(8:UInt8),(8:UInt8),(8:UInt8),(8:UInt8),(8:UInt8),(8:UInt8),(8:UInt8),(8:UInt8),(8:UInt8),(8:UInt8),(8:UInt8),(8:UInt8),(8:UInt8),(8:UInt8),(8:UInt8),(8:UInt8),(8:UInt8),(8:UInt8),(8:UInt8),(8:UInt8),(8:UInt8),(8:UInt8),(8:UInt8),(8:UInt8),(8:UInt8),(8:UInt8),(8:UInt8),(8:UInt8),(8:UInt8),(8:UInt8),(8:UInt8),(8:UInt8),(8:UInt8),(8:UInt8),(8:UInt8),(8:UInt8),(8:UInt8),(8:UInt8),(8:UInt8),(8:UInt8),(8:UInt8),(8:UInt8),(8:UInt8),(8:UInt8),(8:UInt8),(8:UInt8),(8:UInt8),(8:UInt8),(8:UInt8),(8:UInt8),(8:UInt8),(8:UInt8),(8:UInt8),(8:UInt8),(8:UInt8),(8:UInt8),(8:UInt8),(8:UInt8),(8:UInt8),(8:UInt8),(8:UInt8),(8:UInt8),(8:UInt8),(8:UInt8),(8:UInt8),(8:UInt8),(8:UInt8),(8:UInt8),(8:UInt8),(8:UInt8),(8:UInt8),(8:UInt8),(8:UInt8),(8:UInt8),(8:UInt8),(8:UInt8),(8:UInt8),(8:UInt8),(8:UInt8),(8:UInt8),(8:UInt8),(8:UInt8),(8:UInt8),(8:UInt8),(8:UInt8),(8:UInt8),(8:UInt8),(8:UInt8),(8:UInt8),(8:UInt8),(8:UInt8),(8:UInt8),(8:UInt8),(8:UInt8),(8:UInt8),(8:UInt8),(8:UInt8),(8:UInt8),(8:UInt8),(8:UInt8),(8:UInt8),(8:UInt8),(8:UInt8),(8:UInt8)]
theorem V8:∀m:Fin 256,((zJ (oF.getD m.val 0):Nat):Int)=EG (m.val:Int)∧zc .u8 (m.val:Int)=(m.val:Int)∧EG (m.val:Int)≤8∧0≤EG (m.val:Int):=by decide+kernel
theorem LQ{ACC:Int}(a z x:Nat)(hA:ACC=a)(ha:a≤64)(hz:z<256)(hx:EG (x:Int)=(a:Int)+EG (z:Int)):zc .i64 (ACC+zc .i64 ((zJ (oF.getD (yu (zc .u8 (z:Int))) 0):Nat):Int))=EG x:=by
 obtain⟨e1,e2,e3,e4⟩:=V8 ⟨z,hz⟩;have e1:((zJ (oF.getD z 0):Nat):Int)=EG (z:Int):=e1;have e2:zc .u8 (z:Int)=(z:Int):=e2;have e3:EG (z:Int)≤8:=e3;have e4:0≤EG (z:Int):=e4;rw[e2,zl,e1,hA,hx,wr (EG (z:Int)) (by omega) (by omega),wr _ (by omega) (by omega)]
theorem mO(z:Nat)(hz:z<256):(decide ((0:Sh.T (zg yw))≤zc yw (z:Int))&&decide (zc yw (z:Int)<(↑(256:Nat):Int)))=true:=by
 obtain⟨_,e2,_,_⟩:=V8 ⟨z,hz⟩;have e2:zc .u8 (z:Int)=(z:Int):=e2;rw[e2];exact Aa (decide_eq_true (show(0:Int)≤(z:Int)by omega)) (decide_eq_true (by omega))
namespace T247
set_option maxHeartbeats 1000000 in
set_option maxRecDepth 100000 in
theorem ok:Ae AV 247 Uq:=by
 refine AB (X:=SB) rfl Ir (d:=9) (by kernel_rfl) (by kernel_rfl) (by kernel_rfl) (fun(x:Int) hx=>?_) (Ad (by kernel_rfl));have hx:=yn (n:=x) hx;obtain⟨x,rfl⟩:=zo hx.1;refine zM (An (x:Int)) ?_;conv=>zeta
 conv=>zeta
 rw[oC x 32,oC x 16,oC x 8,oC (x/2^32) 16,oC (x/2^32) 8,oC (x/2^32/2^16) 8,oC (x/2^16) 8];have l32:=OU x 32;have l16:=OU x 16;have l8:=OU x 8;have l3216:=OU (x/2^32) 16;have l328:=OU (x/2^32) 8;have l32168:=OU (x/2^32/2^16) 8;have l168:=OU (x/2^16) 8;refine zk (fun c1=>ze rfl (zk (fun c2=>ze rfl (zk (fun c3=>ze rfl (ze (mO _ ?_) (zi (zz rfl rfl (LQ 56 _ x (by decide+kernel) (by decide) ?_ ?_))))) (fun c3=>ze (mO _ ?_) (zi (zz rfl rfl (LQ 48 _ x (by decide+kernel) (by decide) ?_ ?_)))))) (fun c2=>zk (fun c3=>ze rfl (ze (mO _ ?_) (zi (zz rfl rfl (LQ 40 _ x (by decide+kernel) (by decide) ?_ ?_))))) (fun c3=>ze (mO _ ?_) (zi (zz rfl rfl (LQ 32 _ x rfl (by decide) ?_ ?_))))))) (fun c1=>zk (fun c2=>ze rfl (zk (fun c3=>ze rfl (ze (mO _ ?_) (zi (zz rfl rfl (LQ 24 _ x (by decide+kernel) (by decide) ?_ ?_))))) (fun c3=>ze (mO _ ?_) (zi (zz rfl rfl (LQ 16 _ x (by decide+kernel) (by decide) ?_ ?_)))))) (fun c2=>zk (fun c3=>ze rfl (ze (mO _ ?_) (zi (zz rfl rfl (LQ 8 _ x (by decide+kernel) (by decide) ?_ ?_))))) (fun c3=>ze (mO _ ?_) (zi (zz rfl rfl (LQ 0 _ x rfl (by decide) ?_ ?_))))));all_goals
  first
   |replace c1:=of_decide_eq_true c1
   |replace c1:=of_decide_eq_false c1
  first
   |replace c2:=of_decide_eq_true c2
   |replace c2:=of_decide_eq_false c2
  first
   |replace c3:=of_decide_eq_true c3
   |replace c3:=of_decide_eq_false c3
  omega
end T247
theorem lO:∀g sp,vX.sp g=some sp→Ae AV g sp:=Ac T247.ok (fun g sp h=>by cases h)
theorem Q4{n:Int}(h1:0≤n)(h2:n<18446744073709551616):0≤Sp.EG n∧Sp.EG n≤64:=by
 unfold Sp.EG;split
 ·omega
 ·have:n.toNat.log2<64:=(Nat.log2_lt (by omega)).2 (by omega);omega
namespace T272
theorem ok:Ae AV 272 uL:=by
 refine AB (X:=vX) rfl lO (d:=9) (by kernel_rfl) (by kernel_rfl) (by kernel_rfl) (fun(x:Int) hx=>?_) (Ad (by kernel_rfl));have h:=yn (n:=x) hx;have hl:=Q4 h.1 h.2;refine zM (An x) (ze hx (zi (zz rfl rfl ?_)));show zc .i64 (64-Sp.EG x)=Sp.lz x;unfold Sp.lz;exact wr _ (by omega) (by omega)
end T272
theorem eP:Ae AV 271 QE:=T271.ok T272.ok
end Go.Pe
end
section
namespace Go.Sp
def Qz(a b:List Int):Bool:=B2 a&&B2 b&&decide (a.length≤9000)&&decide (b.length≤9000)&&decide (0<Am b)
end Go.Sp
namespace Go.Pe
open Sp
open Go.Det
noncomputable section
noncomputable def Fy:Ao:=⟨[CW,CW],fun i=>Qz i.1 i.2,[CW,CW],fun i=>(Bp (Am i.1/Am i.2),Bp (Am i.1 % Am i.2)),false⟩
noncomputable def Iy:A5:=X7 [(221,WO),(269,UL),(223,RQ),(268,Uw),(270,Vd),(271,QE),(272,uL)]
end
end Go.Pe
end
section
namespace Go.Sp
def Hb(c:UInt8):Int:=(c.toNat:Int)-48
def BJ(c:UInt8):Bool:=decide (48≤c.toNat)&&decide (c.toNat≤57)
def AA(n:Int):List UInt8→Int
 |[]=>n
 |c::r=>AA (10*n+Hb c) r
def Al(s:List UInt8):Bool:=s.all BJ
theorem CB:∀(n:Int) (a b:List UInt8),AA n (a++b)=AA (AA n a) b
 |_,[],_=>rfl
 |n,c::a,b=>by rw[yh,AA,AA,CB]
theorem Ec:∀(s:List UInt8) (n:Int),AA n s=n*10^s.length+AA 0 s
 |[],n=>by simp[AA]
 |c::s,n=>by
  rw[AA,AA,Ec s (10*n+Hb c),Ec s (10*0+Hb c),List.length_cons,yy,zB,yj,ym,zG 10 n,zu,zG 10 (10^s.length),yv]
theorem CH{c:UInt8}(h:BJ c=true):0≤Hb c∧Hb c≤9:=by
 unfold BJ at h;rw[zh,decide_eq_true_eq,decide_eq_true_eq]at h;unfold Hb;omega
theorem Be:∀ {s:List UInt8},Al s=true→0≤AA 0 s∧AA 0 s<10^s.length
 |[],_=>by simp[AA]
 |c::s,h=>by
  unfold Al at h;rw[List.all_cons,zh]at h;have a:=CH h.1;have b:=Be (s:=s) h.2;have hp:=AN (show(0:Int)<10 by decide) s.length;have c1:=zq a.1 (zN hp);have c2:=zj a.2 (zN hp);rw[AA,Ec,List.length_cons,yy,yj,ym,zG (10^s.length) 10];omega
theorem Bc{s:List UInt8}(h:Al s=true)(i:Nat):Al (s.take i)=true:=by
 unfold Al at h ⊢;rw[List.all_eq_true]at h ⊢;exact fun x hx=>h x (List.mem_of_mem_take hx)
theorem BO{s:List UInt8}(h:Al s=true)(i:Nat):Al (s.drop i)=true:=by
 unfold Al at h ⊢;rw[List.all_eq_true]at h ⊢;exact fun x hx=>h x (List.mem_of_mem_drop hx)
def AU(s:List UInt8):Bool:=decide (s≠[])&&Al s&&(decide (s.getD 0 0≠48)||decide (s=[48]))
end Go.Sp
end
section
namespace Go.Sp
def He(a b:AT):AT:=if vI a<0∧Ag (vI a) % vI b≠0 then Mu (CG (-(Ag (vI a)/vI b))) (1,[])else CG (sg (decide (vI a<0)) (Ag (vI a)/vI b))
def mY(a b:AT):Int:=(He a b).1
def mN(a b:AT):List Int:=(He a b).2
def Wb(a b:AT):Int:=Cp (vI a % vI b)
def Wh(a b:AT):List Int:=Cn (vI a % vI b)
def gI(a b:Int):Int:=if a<0 then -(-(Int.gcd a b:Int))else(Int.gcd a b:Int)
theorem F8(a b:Int):gI a b=(Int.gcd a b:Int):=by unfold gI;split<;>omega
def Mc(a b:AT):Int:=Cp (gI (vI a) (vI b))
def LL(a b:AT):List Int:=Cn (gI (vI a) (vI b))
def pI(a k:Int):Int:=if k<0 then -(-(a^k.toNat))else a^k.toNat
theorem QI(a k:Int):pI a k=a^k.toNat:=by unfold pI;split<;>omega
def aK(a k:Int):Bool:=decide (0≤k)&&decide (k≤100000)&&decide (Ag (pI a k)<(18446744073709551616:Int)^(4000:Nat))
def S7(a:AT)(k:Int):Int:=Cp (pI (vI a) k)
def Tg(a:AT)(k:Int):List Int:=Cn (pI (vI a) k)
def Eg(n:Int):List Int:=if n<0 then[]else[]
theorem D2(n:Int):Eg n=[]:=by unfold Eg;split<;>rfl
def Ca(s:List UInt8):Int:=if s.getD 0 0=45 then -AA 0 (s.drop 1)else AA 0 s
def D3(s:List UInt8):Bool:=decide (s.length≤5999)&&(if s.getD 0 0=45 then Al (s.drop 1)else Al s)
def CX(s:List UInt8):Int:=Cp (Ca s)
def C1(s:List UInt8):List Int:=Cn (Ca s)
end Go.Sp
namespace Go.Pe
open Sp
open Go.Det
noncomputable section
noncomputable def Gx:Ao:=⟨[BE,BE],fun i=>Ba i.1&&Ba i.2&&decide (0<zf i.2),[BE,BE],fun i=>((mY i.1 i.2,mN i.1 i.2),(Wb i.1 i.2,Wh i.1 i.2)),false⟩
noncomputable def Wj:Ao:=⟨[BE,BE],fun i=>Ba i.1&&Ba i.2,[BE],fun i=>(Mc i.1 i.2,LL i.1 i.2),false⟩
noncomputable def ZL:Ao:=⟨[BE,i64],fun i=>Ba i.1&&aK (zf i.1) i.2,[BE],fun i=>(S7 i.1 i.2,Tg i.1 i.2),false⟩
noncomputable def M0:Ao:=⟨[.str],fun s=>D3 s,[BE],fun s=>(CX s,C1 s),false⟩
noncomputable def YF:Ao:=⟨[i64],fun _=>true,[BE],fun n=>(n,Eg n),false⟩
noncomputable def rI:A5:=YK [(176,[9,10])] [] [(176,[(9,[3,4,5,8,12,13]),(10,[3,4,5,14,15])])] [(105,YF),(230,Fy),(218,NB),(219,bG),(217,bY),(158,NR),(173,Jn)]
noncomputable def wO:A5:=X7 []
noncomputable def rR:A5:=X7 [(176,Gx),(212,nM),(173,Jn)]
noncomputable def nY:A5:=X7 [(105,YF),(159,PT)]
end
end Go.Pe
end
section
namespace Go.Sp
abbrev B9:Nat:=1000000000
def Jk(l:List Int):Bool:=decide (l.length≤20000)&&l.all fun d=>decide (0≤d)&&decide (d<1000000000)
def hR(l:List Int):Bool:=Jk l&&decide (l.length≤9000)
def A4(l:List Int):Bool:=Jk l&&pE l
def Aq(l:List Int):Int:=val B9 l
def BN(n:Int):List Int:=dg B9 n
def rN(n:Int):Bool:=decide (n<0)
def rW(n:Int):List Int:=BN (Ag n)
def B5(neg:Bool)(w:List Int):Bool:=neg&&decide (Au w≠[])
def Dx(s:List UInt8):Bool:=decide (s.length≤18)&&Al s
def Bv(s:List UInt8):Int:=AA 0 s
def EJ(s:List UInt8):Bool:=rN (Ca s)
def EN(s:List UInt8):List Int:=rW (Ca s)
def Cd(a b:List Int):List Int:=BN (gI (Aq a) (Aq b))
end Go.Sp
namespace Go.Pe
open Sp
open Go.Det
noncomputable section
abbrev li:Sh:=.list i64
abbrev I5:Sh:=.pair .bool li
noncomputable def Qi:Ao:=⟨[li],fun l=>decide (z8 (α:=Int) l≤20000),[li],fun l=>Au l,false⟩
noncomputable def HS:Ao:=⟨[.bool,li],fun i=>decide (z8 (α:=Int) i.2≤20000),[I5],fun i=>(B5 i.1 i.2,Au i.2),false⟩
noncomputable def Wd:Ao:=⟨[li,li],fun i=>A4 i.1&&A4 i.2,[i64],fun i=>BX (Aq i.1) (Aq i.2),false⟩
noncomputable def W2:Ao:=⟨[li,li],fun i=>Sp.hR i.1&&Sp.hR i.2,[li],fun i=>BN (Aq i.1*Aq i.2),false⟩
noncomputable def UI:Ao:=⟨[li,i64],fun i=>Jk i.1&&decide (0<(i.2:Int))&&decide ((i.2:Int)<1000000000),[li,i64],fun i=>(BN (Aq i.1/i.2),Aq i.1 % i.2),false⟩
noncomputable def PU:Ao:=⟨[li,li],fun i=>A4 i.1&&A4 i.2&&decide (z8 (α:=Int) i.1≤9000)&&decide (z8 (α:=Int) i.2≤9000)&&decide (0<Aq i.2),[li,li],fun i=>(BN (Aq i.1/Aq i.2),BN (Aq i.1 % Aq i.2)),false⟩
noncomputable def J0:Ao:=⟨[li,li],fun i=>A4 i.1&&A4 i.2&&decide (z8 (α:=Int) i.1≤9000)&&decide (z8 (α:=Int) i.2≤9000),[li],fun i=>Cd i.1 i.2,false⟩
noncomputable def Rn:Ao:=⟨[.str],fun s=>Dx s,[i64],fun s=>Bv s,false⟩
noncomputable def Q9:Ao:=⟨[.str],fun s=>D3 s,[I5],fun s=>(EJ s,EN s),false⟩
noncomputable def XU:A5:=X7 []
noncomputable def UT:A5:=X7 [(227,Qi)]
noncomputable def KW:A5:=X7 [(170,Wd),(227,Qi),(226,UI),(172,W2)]
noncomputable def rP:A5:=X7 [(164,PU)]
noncomputable def YC:A5:=X7 [(165,Rn),(168,HS)]
end
end Go.Pe
end
section
namespace Go.Sp
def C8:List UInt8:=[48,49,50,51,52,53,54,55,56,57]
def VD(o:List Bool):List Bool:=(List.range 256).map fun j=>o.getD j false
def mM:List Bool:=zn 256 false
def M7(s:List UInt8):List UInt8:=((s.reverse.dropWhile BJ).reverse).dropWhile BJ
def Od(s:List UInt8)(c:Int):Int:=match s.findIdx? (fun x=>x==c.toNat.toUInt8)with
 |some i=>(i:Int)
 |none=> -1
def Ax(s:List UInt8):List UInt8:=match s.findIdx? (fun x=>x==47)with
 |some i=>s.take i
 |none=>s
def AO(s:List UInt8):List UInt8:=match s.findIdx? (fun x=>x==47)with
 |some i=>s.drop (i+1)
 |none=>[]
def Bm(s:List UInt8):Bool:=s.any (fun x=>x==47)
def AZ(s:List UInt8):List UInt8:=if s.getD 0 0=45 then s.drop 1 else s
def preB(s:List UInt8):Bool:=decide (s.getD 0 0=45)
def nJ(s t:List UInt8):Bool:=decide (t=C8)&&decide (s.length≤1000000)
def rA(s t:List UInt8):Bool:=decide (t=[47])&&decide (s.length≤1000000)
def Rg(s t:List UInt8):Bool:=decide (t=[45])&&decide (s.length≤1000000)
end Go.Sp
namespace Go.Pe
open Sp
open Go.Det
noncomputable section
noncomputable def T4:Ao:=⟨[.str,.str],fun i=>nJ i.1 i.2,[.str],fun i=>M7 i.1,false⟩
noncomputable def mD:Ao:=⟨[.str,.int .u8],fun i=>decide (0≤(i.2:Int))&&decide ((i.2:Int)<256),[i64],fun i=>Od i.1 i.2,false⟩
noncomputable def ZR:Ao:=⟨[.str,.str],fun i=>rA i.1 i.2,[.str,.str,.bool],fun i=>(Ax i.1,Sp.AO i.1,Bm i.1),false⟩
noncomputable def mT:Ao:=⟨[.str,.str],fun i=>Rg i.1 i.2,[.str,.bool],fun i=>(AZ i.1,Sp.preB i.1),false⟩
noncomputable def K5:Ao:=⟨[.str],fun s=>decide (s.length≤1000000),[.bool],fun s=>AU s,false⟩
noncomputable def I4:A5:=X7 []
noncomputable def WM:A5:=X7 [(263,⟨[.str,.str],fun _=>false,[.str],fun i=>i.1,false⟩),(264,⟨[.str,.str],fun _=>false,[.str],fun i=>i.1,false⟩),(258,⟨[.str,.int .u8],fun _=>false,[.str],fun i=>i.1,false⟩),(259,⟨[.str,.int .u8],fun _=>false,[.str],fun i=>i.1,false⟩)]
noncomputable def wQ:A5:=X7 [(211,T4)]
noncomputable def wR:A5:=X7 [(316,mD)]
noncomputable def O7:A5:=X7 [(105,YF),(216,ZL),(159,PT),(158,NR),(174,TH),(302,⟨[.str,i64,i64],fun _=>false,[i64],fun _=>(0:Int),false⟩),(267,⟨[.str],fun _=>false,[i64],fun _=>(0:Int),false⟩)]
end
end Go.Pe
end
section
namespace Go.Sp
def Hq(a:List UInt8):Bool:=AU (Ax (AZ a))&&(!preB a||decide (Ax (AZ a)≠[48]))&&(!Bm (AZ a)||(AU (AO (AZ a))&&decide (AO (AZ a)≠[48])&&decide (AO (AZ a)≠[49])))
def pN(a:List UInt8):Int:=AA 0 (Ax (AZ a))
def pC(a:List UInt8):Int:=AA 0 (AO (AZ a))
def Ay(a:List UInt8):Int:=if Hq a=false then 1 else if 600<(Ax (AZ a)).length∨600<(AO (AZ a)).length then 4 else if Bm (AZ a)=true∧gI (pN a) (pC a)≠1 then 1 else 0
def AY(s:List UInt8):Int:=((Ax s).length:Int)
def Hs(a:List UInt8):Bool:=D3 (Ax a)&&D3 (AO a)&&decide (a.length≤5999)
def A8(a:List UInt8):Int:=Ca (Ax a)
def AJ(a:List UInt8):Int:=if Bm a=true then Ca (AO a)else 1
def Bx(a:List UInt8):Bool:=rN (A8 a)
def Br(a:List UInt8):List Int:=rW (A8 a)
def Bh(a:List UInt8):Bool:=rN (AJ a)
def Bd(a:List UInt8):List Int:=rW (AJ a)
end Go.Sp
namespace Go.Pe
open Sp
open Go.Det
noncomputable section
noncomputable def El:Ao:=⟨[.str],fun s=>decide (s.length≤1000000),[i64],fun s=>Ay s,false⟩
noncomputable def Lr:Ao:=⟨[.str],fun s=>decide (s.length≤1000000),[i64],fun s=>AY s,false⟩
noncomputable def Kc:Ao:=⟨[i64],fun n=>CS n,[I5],fun n=>(Sp.rN n,Sp.rW n),false⟩
noncomputable def Qq:Ao:=⟨[.str],fun s=>Hs s,[I5,I5],fun s=>((Bx s,Br s),(Bh s,Bd s)),false⟩
noncomputable def KY:A5:=YK [(77,[4,6,7,9,10])] [] [(77,[(4,[5,6,7,8]),(6,[5,6,7,8]),(7,[5,6,7,9]),(9,[5,6,7]),(10,[10])])] [(83,Jz),(85,VF),(149,mT),(150,ZR),(151,K5),(152,Wj),(153,M0),(154,dM),(105,YF)]
noncomputable def gN:A5:=X7 [(168,HS)]
noncomputable def wD:A5:=X7 [(89,Lr),(163,Q9),(107,Kc)]
noncomputable def R2:A5:=YK [(24,[4,7,9,11,13,14])] [] [(24,[(4,[0,3]),(7,[3,4]),(9,[3,4]),(11,[3,4]),(13,[5,6]),(14,[7])])] [(89,Lr),(90,K5),(91,Qq),(92,J0)]
end
end Go.Pe
end
section
namespace Go.Sp
abbrev AD:=(Int×List Int)×(Int×List Int)
def Mo(a:AT):Bool:=Dt a&&decide (a.2.length≤4000)
def Dy(a:AD):Bool:=Mo a.1&&Mo a.2
def J2(a b:AD):Int:=BX (vI a.1*vI b.2) (vI b.1*vI a.2)
def F6(a:List UInt8):Int:=Cp (A8 a)
def F9(a:List UInt8):List Int:=Cn (A8 a)
def Fk(a:List UInt8):Int:=Cp (AJ a)
def Fl(a:List UInt8):List Int:=Cn (AJ a)
def iQ(a b:AT):AT:=if vI b<0 then He (CR a) (CR b)else He a b
def vG(a b:AT):Int:=(iQ a b).1
def wF(a b:AT):List Int:=(iQ a b).2
def Cz(d:AT):Bool:=decide (d.2=[])&&decide (d.1=1)
def gR(n d:AT):AT:=(Mc n d,LL n d)
def Mk(n d:AT):AD:=if Cz d=true then(n,d)else(iQ n (gR n d),iQ d (gR n d))
def W4(n d:AT):AD:=if vI d<0 then Mk (CR n) (CR d)else Mk n d
def xC(n:AT):AD:=(n,(1,Eg 1))
def Mn(a b:AD):AD:=if Cz a.2=true∧Cz b.2=true then xC (D7 a.1 b.1)else W4 (D7 (EK a.1 b.2) (EK b.1 a.2)) (EK a.2 b.2)
def Vo(a b:AD):AD:=W4 (EK a.1 b.1) (EK a.2 b.2)
def qE(a:AD):AD:=(CR a.1,a.2)
def NS(a b:AD):AD:=Mn a (qE b)
def S5(a:AD):AD:=W4 a.2 a.1
def Yf(a b:AD):AD:=Vo a (S5 b)
def nS(f:AD):Int:=f.1.1
def nW(f:AD):List Int:=f.1.2
def dS(f:AD):Int:=f.2.1
def dW(f:AD):List Int:=f.2.2
def Vr(n d:AT):Int:=nS (W4 n d)
def UG(n d:AT):List Int:=nW (W4 n d)
def UO(n d:AT):Int:=dS (W4 n d)
def UE(n d:AT):List Int:=dW (W4 n d)
def aF(a b:AD):Int:=nS (Mn a b)
def bN(a b:AD):List Int:=nW (Mn a b)
def cV(a b:AD):Int:=dS (Mn a b)
def Y3(a b:AD):List Int:=dW (Mn a b)
def mX(a b:AD):Int:=nS (NS a b)
def nC(a b:AD):List Int:=nW (NS a b)
def sL(a b:AD):Int:=dS (NS a b)
def tQ(a b:AD):List Int:=dW (NS a b)
def dZ(a b:AD):Int:=nS (Vo a b)
def ZE(a b:AD):List Int:=nW (Vo a b)
def dF(a b:AD):Int:=dS (Vo a b)
def dE(a b:AD):List Int:=dW (Vo a b)
def sJ(a:AD):Int:=nS (S5 a)
def tC(a:AD):List Int:=nW (S5 a)
def uC(a:AD):Int:=dS (S5 a)
def sO(a:AD):List Int:=dW (S5 a)
def uI(a b:AD):Int:=nS (Yf a b)
def uO(a b:AD):List Int:=nW (Yf a b)
def tG(a b:AD):Int:=dS (Yf a b)
def sV(a b:AD):List Int:=dW (Yf a b)
def De(a:AD):Bool:=Dy a&&decide (0<vI a.2)
def KZ(n d:AT):Bool:=Ba n&&Ba d&&decide (vI d≠0)
end Go.Sp
namespace Go.Pe
open Sp
open Go.Det
noncomputable section
abbrev BK:Sh:=.pair BE BE
noncomputable def aB:Ao:=⟨[.str],fun s=>Hs s,[BK],fun s=>((F6 s,F9 s),(Fk s,Fl s)),false⟩
noncomputable def YO:Ao:=⟨[BK,BK],fun i=>Sp.Dy (i.1:AD)&&Sp.Dy (i.2:AD),[i64],fun i=>J2 (i.1:AD) (i.2:AD),false⟩
noncomputable def xF:Ao:=⟨[BE,BE],fun i=>KZ i.1 i.2,[BE],fun i=>(vG i.1 i.2,wF i.1 i.2),false⟩
noncomputable def mF:Ao:=⟨[BE,BE],fun i=>KZ i.1 i.2,[BK],fun i=>((Vr i.1 i.2,UG i.1 i.2),(UO i.1 i.2,UE i.1 i.2)),false⟩
noncomputable def M9:Ao:=⟨[BK],fun _=>true,[.bool],fun a=>Cz (a:AD).2,false⟩
noncomputable def Ze:Ao:=⟨[BE],fun _=>true,[BK],fun n=>((n:AT),((1:Int),Eg 1)),false⟩
noncomputable def mH:Ao:=⟨[BK],fun a=>Dt (a:AD).1,[BK],fun a=>((DY (a:AD).1,DW (a:AD).1),((a:AD).2.1,(a:AD).2.2)),false⟩
noncomputable def We:Ao:=⟨[BK,BK],fun i=>Sp.De (i.1:AD)&&Sp.De (i.2:AD),[BK],fun i=>((aF i.1 i.2,bN i.1 i.2),(cV i.1 i.2,Y3 i.1 i.2)),false⟩
noncomputable def mC:Ao:=⟨[BK,BK],fun i=>Sp.De (i.1:AD)&&Sp.De (i.2:AD),[BK],fun i=>((mX i.1 i.2,nC i.1 i.2),(sL i.1 i.2,tQ i.1 i.2)),false⟩
noncomputable def dH:Ao:=⟨[BK,BK],fun i=>Sp.De (i.1:AD)&&Sp.De (i.2:AD),[BK],fun i=>((dZ i.1 i.2,ZE i.1 i.2),(dF i.1 i.2,dE i.1 i.2)),false⟩
noncomputable def nD:Ao:=⟨[BK],fun a=>Sp.De (a:AD)&&decide (zf (a:AD).1≠0),[BK],fun a=>((sJ a,tC a),(uC a,sO a)),false⟩
noncomputable def mW:Ao:=⟨[BK,BK],fun i=>Sp.De (i.1:AD)&&Sp.De (i.2:AD)&&decide (zf (i.2:AD).1≠0),[BK],fun i=>((uI i.1 i.2,uO i.1 i.2),(tG i.1 i.2,sV i.1 i.2)),false⟩
noncomputable def W3:A5:=YK [(175,[3])] [] [(175,[(3,[2,3,4])])] [(173,Jn),(174,TH),(176,Gx),(152,Wj),(105,YF),(158,NR),(159,PT),(154,dM),(150,ZR),(153,M0)]
noncomputable def nF:A5:=YK [(104,[3,6])] [] [(104,[(3,[2,3,4]),(6,[2,3,4,5])])] [(173,Jn),(174,TH),(152,Wj),(175,xF)]
noncomputable def fC:A5:=YK [(80,[3])] [] [(80,[(3,[2,3,4])])] [(156,M9),(157,Ze),(158,NR),(159,PT),(104,mF)]
noncomputable def uF:A5:=X7 [(160,mH),(80,We),(82,dH),(161,nD)]
end
end Go.Pe
end
section
namespace Go.Sp
def Pc(a:List UInt8):List UInt8:=if Bm a=true then AO a else[49]
def Pd(a:List UInt8)(n:Int):Bool:=decide ((a.length:Int)≤2*n+2)&&decide (Ay a=0)&&decide (((AZ (Ax a)).length:Int)≤n)&&decide (((Pc a).length:Int)≤n)
def A6(a:List UInt8)(n:Int):Bool:=decide (a.length≤40)&&(decide (Ay a≠0)||Pd a n)
end Go.Sp
namespace Go.Pe
open Go.Det
noncomputable section
noncomputable def Z0:Ao:=⟨[.str,i64],fun i=>decide (0≤(i.2:Int))&&decide ((i.2:Int)≤1000),[.bool],fun i=>Sp.Pd i.1 i.2,false⟩
noncomputable def IM:Ao:=⟨[.str,i64],fun i=>decide (0≤(i.2:Int))&&decide ((i.2:Int)≤1000),[.bool],fun i=>Sp.A6 i.1 i.2,false⟩
noncomputable def Vw:Ao:=⟨[.str],fun s=>decide (s.length≤1000000),[.str],fun s=>Sp.AZ s,false⟩
noncomputable def dN:Ao:=⟨[.str],fun s=>decide (s.length≤1000000),[.str],fun s=>Sp.Ax s,false⟩
noncomputable def WT:Ao:=⟨[.str],fun s=>decide (s.length≤1000000),[.str],fun s=>Sp.Pc s,false⟩
noncomputable def uD:A5:=X7 [(89,Lr)]
noncomputable def wC:A5:=X7 [(24,El),(100,Vw),(101,dN),(102,WT)]
noncomputable def wT:A5:=X7 [(24,El),(31,Z0)]
end
end Go.Pe
end
section
namespace Go.Sp
def DA(a:List UInt8):Bool:=decide (a.length≤20)&&decide ((Ax (AZ a)).length≤9)&&decide ((AO (AZ a)).length≤9)
def HD(a:List UInt8):Int:=if preB a=true then -AA 0 (Ax (AZ a))else AA 0 (Ax (AZ a))
def QX(a:List UInt8):Int:=if Bm (AZ a)=true then AA 0 (AO (AZ a))else 1
def Gk(a:List UInt8):Int:=if a=[48]then 0 else if a.getD 0 0=45 then -1 else 1
def J4(a:List UInt8):List UInt8:=if a=[48]then a else if a.getD 0 0=45 then a.drop 1 else 45::a
def GK:Nat→Nat→Nat→List UInt8→List UInt8
 |0,_,_,acc=>acc
 |f+1,n,l,acc=>if n=0∧l≤acc.length then acc else GK f (n/10) l (UInt8.ofNat (48+n % 10)::acc)
def Ht(n l:Int):List UInt8:=GK 64 n.toNat l.toNat []
def tO(a b:Int):Bool:=decide (0≤a)&&decide (a<9223372036854775808)&&decide (0≤b)&&decide (b<9223372036854775808)
end Go.Sp
namespace Go.Pe
open Go.Det
noncomputable section
noncomputable def mJ:Ao:=⟨[i64,i64],fun i=>Sp.tO i.1 i.2,[i64],fun i=>Sp.gI i.1 i.2,false⟩
noncomputable def QA:Ao:=⟨[.str],fun s=>decide (s.length≤1000000),[i64],fun s=>Sp.Gk s,false⟩
noncomputable def ZB:Ao:=⟨[.str],fun s=>decide (s.length≤1000000),[.str],fun s=>Sp.J4 s,false⟩
noncomputable def OJ:Ao:=⟨[i64,i64],fun i=>decide (0≤(i.1:Int))&&decide ((i.1:Int)<9223372036854775808)&&decide (0≤(i.2:Int))&&decide ((i.2:Int)≤20),[.str],fun i=>Sp.Ht i.1 i.2,false⟩
noncomputable def Ml:A5:=YK [(95,[5,7,11,13])] [] [(95,[(5,[5,6]),(7,[5,6]),(11,[5,6,7,8,9]),(13,[6,8,9])])] [(165,Rn),(89,Lr)]
noncomputable def wH:A5:=X7 [(41,QA)]
end
end Go.Pe
end
section
namespace Go.Sp
end Go.Sp
namespace Go.Pe
open Go.Det
noncomputable section
end
end Go.Pe
end
