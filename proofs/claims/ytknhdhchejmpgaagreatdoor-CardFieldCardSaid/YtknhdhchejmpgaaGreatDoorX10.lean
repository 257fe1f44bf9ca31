import Derived.Test.YtknhdhchejmpgaaGreatDoorX09
import Derived.Lib.Mul64
import Derived.Test.YtknhdhchejmpgaaGreatDoorX01
/- A part of a proof (no law is stated here). Made by program out of texts by AI agents. -/
open Go.IntKind renaming wrap → zc, u64 → zd, i64 → zS, wrap_i64 → yg, u8 → yu
open Go.Pe.Ends renaming tt → ze, leaf → zi, ite → zk, eq → zL, ff → zO, As → zQ
open Go.Sp renaming vI → zf, u64 → zp, val → zC, sg → yb, AW → yk, hW → yv
open Go.Pe.Sh renaming int → zg, list → zx, nlist → zB, pair → zX
open Bool renaming and_eq_true → zh, true_and → zH, false_eq_true → yc, or_eq_true → ym
open Int renaming mul_le_mul_of_nonneg_right → zj, toNat_natCast → zl, fdiv → zm, eq_ofNat_of_zero_le → zo, mul_nonneg → zq, mul_assoc → zu, lt_or_le → zz, add_mul → zA, mul_le_mul_of_nonneg_left → zD, mul_comm → zF, mul_add → zG, lt_of_le_of_lt → zJ, fdiv_eq_ediv_of_nonneg → zK, le_of_lt → zM, one_mul → zP, natCast_pow → zR, natCast_mul → zW, tdiv → zY, natCast_add → z7, tdiv_eq_ediv_of_nonneg → yd, mul_zero → yh, zero_add → yj, ediv_nonneg → yo, mul_sub → yp, toNat → yr, add_assoc → yt, pow_succ → yw
open List renaming replicate → zn, getD_eq_getElem?_getD → zt, take_of_length_le → zw, getElem?_eq_getElem → zN, take_length → zT, drop_eq_getElem_cons → zU, length → z6, cons_append → yf
open Nat renaming add → zr, mod_eq_of_lt → ye, two_pow_pos → yn, pow_add → yq
open Go.Pe.Af renaming of → zy
open BitVec renaming ofInt → zE, ofInt_natCast → zZ, toNat_ofNat → z8
open UInt8 renaming toNat → zI
open Go.Pe.PV renaming agg → zV
open Go.Lib renaming half_mul_le → ya
open Min renaming min → yi
section
namespace Go.Pe
open Sp
open Go.Det
noncomputable section
open List Int Prod
namespace T224
def T(n:Int):Tr:=tree S7 false 9 224 (Ah ([zg zS]) n)
theorem An(n:Int):T n=.ite (decide (n<0)) (.leaf (.dat (zg zd) (zc .u64 (zc .i64 (0-n)))) []) (.leaf (.dat (zg zd) (zc .u64 n)) []):=by kernel_rfl
end T224
namespace T218
def T(a:Int×List Int):Tr:=tree KJ false 9 218 (Ah ([zX i64 (zB (zg zd))]) a)
theorem An(a:Int×List Int):T a=let a':=zB (zg zd);let b':=[(0,.box [.dat i64 (fst a),.dat a' (snd a)])];.ite (decide (0<length (snd a))) (.leaf (.tup [.dat Sh.bool (decide (fst a<0)),.dat a' (snd a)]) b') (.ite (fst a==0) (.leaf (.tup [.bl false,.nil]) b') (.ite (CS (fst a)) (.leaf (.tup [.dat Sh.bool (decide (fst a<0)),.sl (zr 0 1) 1 0 1 none]) ([(zr 0 1,.arr false 130 (zg zd) [Ag (fst a)]),(0,.box [.dat i64 (fst a),.dat a' (snd a)])])) .fail)):=by kernel_rfl
end T218
namespace T219
def T(neg:Bool)(w:List Int):Tr:=tree KJ false 9 219 (Ah ([Sh.bool,zx (zg zd)]) (neg,w))
theorem An(neg:Bool)(w:List Int):T neg w=let c':=zx (zg zd);let e':=zc .i64 (0-zc .i64 (getD w 0 0));let f':=decide (getD w 0 0≤9223372036854775807);let g':=(length w:Int);let h':=zc .i64 (getD w 0 0);let b':Tr:=.ite neg (.leaf (zV [.dat i64 (-1:Int),.dat c' w]) ([(0,.box [.dat i64 (-1:Int),.dat c' w])])) (.leaf (zV [.dat i64 (1:Int),.dat c' w]) ([(0,.box [.dat i64 (1:Int),.dat c' w])]));let d':=decide (0<g');let a':Tr:=.ite (g'==1) (.ite d' (.ite f' (.ite d' (.leaf (zV [.dat i64 h',.nil]) ([(0,.box [.dat i64 h',.nil])])) .fail) b') .fail) b';.ite (g'==0) (.leaf (zV [.dat i64 (0:Int),.nil]) ([(0,.box [.dat i64 (0:Int),.nil])])) (.ite (g'==1) (.ite d' (.ite f' (.ite neg (.ite d' (.leaf (zV [.dat i64 e',.nil]) ([(0,.box [.dat i64 e',.nil])])) .fail) a') a') .fail) a'):=by kernel_rfl
end T219
namespace T269
def T(w:List Int):Tr:=tree S7 false 9 269 (Ah ([zx (zg zd)]) w)
def L1(v0:List Int)(v3:Int):Tr:=re ((T [])) (AI 21 [(0,.dat (zx (zg zd)) v0),(3,.dat i64 v3)] [] 0)
theorem An(w:List Int):T w=L1 w ((length w:Int)):=by kernel_rfl
theorem Au(v0:List Int)(v3:Int):stepT S7 (L1 v0 v3)=let a':Tr:=.ite (decide (0≤v3)&&decide (0≤toNat v3)&&decide (toNat v3≤length v0)) (.leaf (.dat (zx (zg zd)) (take (toNat v3) v0)) []) .fail;let b':=zc .i64 (v3-1);.ite (decide (v3>0)) (.ite (decide (0≤zc .i64 (v3-1))&&decide (zc .i64 (v3-1)<(length v0:Int))) (.ite (getD v0 (toNat b') 0==0) (L1 v0 b') a') .fail) a':=by kernel_rfl
end T269
namespace T221
def T(a b:List Int):Tr:=tree S7 false 9 221 (Ah ([zx (zg zd),zx (zg zd)]) (a,b))
def L1(v0 v1:List Int)(v5:Int):Tr:=re ((T [] []).R) (AI 41 [(0,.dat (zx (zg zd)) v0),(1,.dat (zx (zg zd)) v1),(5,.dat i64 v5)] [] 0)
theorem An(a b:List Int):T a b=let a':=(length a:Int);.ite (a' !=(length b:Int)) (.ite (decide (a'<(length b:Int))) (.leaf (.dat i64 (-1:Int)) []) (.leaf (.dat i64 (1:Int)) [])) (L1 a b (zc .i64 (a'-1))):=by kernel_rfl
theorem Au(v0 v1:List Int)(v5:Int):stepT S7 (L1 v0 v1 v5)=let a':=decide (0≤v5)&&decide (v5<(length v0:Int));let b':=decide (0≤v5)&&decide (v5<(length v1:Int));.ite (decide (v5≥0)) (.ite a' (.ite b' (.ite (getD v0 (toNat v5) 0 !=getD v1 (toNat v5) 0) (.ite a' (.ite b' (.ite (decide (getD v0 (toNat v5) 0<getD v1 (toNat v5) 0)) (.leaf (.dat i64 (-1:Int)) []) (.leaf (.dat i64 (1:Int)) [])) .fail) .fail) (L1 v0 v1 (zc .i64 (v5-1)))) .fail) .fail) (.leaf (.dat i64 (0:Int)) []):=by kernel_rfl
end T221
namespace T220
def T(x y:List Int):Tr:=tree KJ false 9 220 (Ah ([zx (zg zd),zx (zg zd)]) (x,y))
def L1(v0 v1:List Int)(v5n:Nat)(v6 v21 v22:Int)(o0:List Int):Tr:=re ((T [] []).L.L) (AI 54 [(0,.dat (zx (zg zd)) v0),(1,.dat (zx (zg zd)) v1),(5,.sl 0 1 0 v5n none),(6,.dat (zg zd) v6),(21,.dat i64 v21),(22,.dat i64 v22)] [(0,.arr false 130 (zg zd) o0)] 1)
theorem An(x y:List Int):T x y=let a':=(length x:Int);let b':=(length y:Int);let c':=zc .i64 (b'+1);let d':=zc .i64 (a'+1);.ite (decide (a'<b')) (.ite (decide (0≤zc .i64 (b'+1))&&decide (zc .i64 (b'+1)=zc .i64 (b'+1))&&decide (8*toNat c'≤281474976710656)&&decide (zc .i64 (b'+1)<9223372036854775808)) (L1 y x (toNat c') 0 (b') 0 (replicate (toNat c') 0)) .fail) (.ite (decide (0≤zc .i64 (a'+1))&&decide (zc .i64 (a'+1)=zc .i64 (a'+1))&&decide (8*toNat d'≤281474976710656)&&decide (zc .i64 (a'+1)<9223372036854775808)) (L1 x y (toNat d') 0 (a') 0 (replicate (toNat d') 0)) .fail):=by kernel_rfl
theorem Au(v0 v1:List Int)(v5n:Nat)(v6 v21 v22:Int)(o0:List Int):stepT KJ (L1 v0 v1 v5n v6 v21 v22 o0)=let a':=getD v0 (toNat v22) 0;let b':=(length v0:Int);let d':=getD v1 (toNat v22) 0;let e':=decide (0≤v22)&&decide (v22<(↑v5n:Int));let f':=decide ((0:Sh.T (Bz [u64]))≤v6);let g':=decide (v6≤(1:Sh.T (Bz [u64])));let i':=decide (toNat v22<length o0);let j':=decide (v22<(length v1:Int));let k':=zc .i64 (v22+1);let c':=set o0 (toNat b') v6;let h':=decide (0≤v22)&&decide (v22<b');.ite (decide (v22<v21)) (.ite (j') (.ite (decide (0≤v22)&&j') (.ite h' (.ite (zp a'&&zp d'&&f'&&g') (.ite e' (.ite i' (L1 v0 v1 v5n (ND a' d' v6) v21 k' (set o0 (toNat v22) (Hg a' d' v6))) .fail) .fail) .fail) .fail) .fail) (.ite h' (.ite (zp a'&&zp 0&&f'&&g') (.ite e' (.ite i' (L1 v0 v1 v5n (ND a' 0 v6) v21 k' (set o0 (toNat v22) (Hg a' 0 v6))) .fail) .fail) .fail) .fail)) (.ite (decide (0≤b')&&decide (b'<(↑v5n:Int))) (.ite (decide (toNat b'<length o0)) (.ite (decide (0+v5n≤length c')&&true&&Cv (take v5n c')) (.leaf (.dat (zx (zg zd)) (Ar (take v5n c'))) ([(0,.arr true 130 (zg zd) c')])) .fail) .fail) .fail):=by kernel_rfl
end T220
namespace T222
def T(x y:List Int):Tr:=tree KJ false 9 222 (Ah ([zx (zg zd),zx (zg zd)]) (x,y))
def L1(v0 v1:List Int)(v5n:Nat)(v6 v13 v14:Int)(o0:List Int):Tr:=re ((T [] []).L) (AI 41 [(0,.dat (zx (zg zd)) v0),(1,.dat (zx (zg zd)) v1),(5,.sl 0 1 0 v5n none),(6,.dat (zg zd) v6),(13,.dat i64 v13),(14,.dat i64 v14)] [(0,.arr false 130 (zg zd) o0)] 1)
theorem An(x y:List Int):T x y=let a':=(length x:Int);.ite (decide (0≤a')&&decide (a'=a')&&decide (8*toNat a'≤281474976710656)&&decide (a'<9223372036854775808)) (L1 x y (toNat a') 0 (a') 0 (replicate (toNat a') 0)) .fail:=by kernel_rfl
theorem Au(v0 v1:List Int)(v5n:Nat)(v6 v13 v14:Int)(o0:List Int):stepT KJ (L1 v0 v1 v5n v6 v13 v14 o0)=let a':=getD v0 (toNat v14) 0;let b':=decide (0≤v14)&&decide (v14<(length v0:Int));let c':=getD v1 (toNat v14) 0;let d':=decide (0≤v14)&&decide (v14<(↑v5n:Int));let e':=decide ((0:Sh.T (Bz [u64]))≤v6);let f':=decide (v6≤(1:Sh.T (Bz [u64])));let g':=decide (toNat v14<length o0);let h':=decide (v14<(length v1:Int));let i':=zc .i64 (v14+1);.ite (decide (v14<v13)) (.ite (h') (.ite (decide (0≤v14)&&h') (.ite b' (.ite (zp a'&&zp c'&&e'&&f') (.ite d' (.ite g' (L1 v0 v1 v5n (O3 a' c' v6) v13 i' (set o0 (toNat v14) (RY a' c' v6))) .fail) .fail) .fail) .fail) .fail) (.ite b' (.ite (zp a'&&zp 0&&e'&&f') (.ite d' (.ite g' (L1 v0 v1 v5n (O3 a' 0 v6) v13 i' (set o0 (toNat v14) (RY a' 0 v6))) .fail) .fail) .fail) .fail)) (.ite (decide (0+v5n≤length o0)&&true&&Cv (take v5n o0)) (.leaf (.dat (zx (zg zd)) (Ar (take v5n o0))) ([(0,.arr true 130 (zg zd) o0)])) .fail):=by kernel_rfl
end T222
namespace T223
def T(x y:Int):Tr:=tree S7 false 9 223 (Ah ([zg zd,zg zd]) (x,y))
theorem An(x y:Int):T x y=let a':=zc .u64 (zc .u64 (zm x (2^32)*G5 zd y 4294967295)+zm (zc .u64 (G5 zd x 4294967295*G5 zd y 4294967295)) (2^32));.ite true (.ite true (.ite true (.ite true (.ite true (.leaf (.tup [.dat (zg zd) (zc .u64 (zc .u64 (zc .u64 (zm x (2^32)*zm y (2^32))+zm a' (2^32))+zm (zc .u64 (G5 zd a' 4294967295+zc .u64 (G5 zd x 4294967295*zm y (2^32)))) (2^32))),.dat (zg zd) (zc .u64 (x*y))]) []) .fail) .fail) .fail) .fail) .fail:=by kernel_rfl
end T223
namespace T225
def T(x y:List Int):Tr:=tree KJ false 9 225 (Ah ([zx (zg zd),zx (zg zd)]) (x,y))
def L1(v1:List Int)(v5n:Nat)(v20:List Int)(v21 v22:Int)(o0:List Int):Tr:=re ((T [] []).L) (AI 80 [(1,.dat (zx (zg zd)) v1),(5,.sl 0 1 0 v5n none),(20,.dat (zx (zg zd)) v20),(21,.dat i64 v21),(22,.dat i64 v22)] [(0,.arr false 130 (zg zd) o0)] 1)
theorem An(x y:List Int):T x y=let a':=(length x:Int)+(length y:Int);let b':=zc .i64 a';.ite (decide (0≤zc .i64 a')&&decide (zc .i64 a'=zc .i64 a')&&decide (8*toNat b'≤281474976710656)&&decide (zc .i64 a'<9223372036854775808)) (L1 y (toNat b') x ((length x:Int)) 0 (replicate (toNat b') 0)) .fail:=by kernel_rfl
def L2(v1:List Int)(v5n:Nat)(v6 v7 v8:Int)(v20:List Int)(v21 v22:Int)(v27:List Int)(v28 v29:Int)(o0:List Int):Tr:=re ((stepT KJ (L1 [] 0 [] 0 0 [])).L.L) (AI 80 [(1,.dat (zx (zg zd)) v1),(5,.sl 0 1 0 v5n none),(6,.dat i64 v6),(7,.dat (zg zd) v7),(8,.dat (zg zd) v8),(20,.dat (zx (zg zd)) v20),(21,.dat i64 v21),(22,.dat i64 v22),(27,.dat (zx (zg zd)) v27),(28,.dat i64 v28),(29,.dat i64 v29)] [(0,.arr false 130 (zg zd) o0)] 1)
theorem Au(v1:List Int)(v5n:Nat)(v20:List Int)(v21 v22:Int)(o0:List Int):stepT KJ (L1 v1 v5n v20 v21 v22 o0)=.ite (decide (v22<v21)) (.ite (decide (0≤v22)&&decide (v22<(length v20:Int))) (L2 v1 v5n v22 (getD v20 (toNat v22) 0) 0 v20 v21 v22 v1 ((length v1:Int)) 0 o0) .fail) (.ite (decide (0+v5n≤length o0)&&true&&Cv (take v5n o0)) (.leaf (.dat (zx (zg zd)) (Ar (take v5n o0))) ([(0,.arr true 130 (zg zd) o0)])) .fail):=by kernel_rfl
theorem A4(v1:List Int)(v5n:Nat)(v6 v7 v8:Int)(v20:List Int)(v21 v22:Int)(v27:List Int)(v28 v29:Int)(o0:List Int):stepT KJ (L2 v1 v5n v6 v7 v8 v20 v21 v22 v27 v28 v29 o0)=let b':=zc .i64 (v6+v29);let c':=getD v27 (toNat v29) 0;let d':=decide (0≤zc .i64 (v6+v29))&&decide (zc .i64 (v6+v29)<(↑v5n:Int));let e':=v6+(length v1:Int);let g':=decide ((0:Sh.T (Bz [u64]))≤0);let h':=decide (0≤(1:Sh.T (Bz [u64])));let f':=getD o0 (toNat b') 0;let i':=decide (toNat b'<length o0);let j':=Hu v7 c';let a':=Hg j' f' 0;.ite (decide (v29<v28)) (.ite (decide (0≤v29)&&decide (v29<(length v27:Int))) (.ite (zp v7&&zp c') (.ite d' (.ite i' (.ite (zp j'&&zp f'&&g'&&h') (.ite (zp a'&&zp v8&&g'&&h') (.ite d' (.ite i' (L2 v1 v5n v6 v7 (zc .u64 (zc .u64 (PQ v7 c'+ND j' f' 0)+ND a' v8 0)) v20 v21 v22 v27 v28 (zc .i64 (v29+1)) (set o0 (toNat b') (Hg a' v8 0))) .fail) .fail) .fail) .fail) .fail) .fail) .fail) .fail) (.ite (decide (0≤zc .i64 e')&&decide (zc .i64 e'<(↑v5n:Int))) (.ite (decide (toNat (zc .i64 e')<length o0)) (L1 v1 v5n v20 v21 (zc .i64 (v22+1)) (set o0 (toNat (zc .i64 e')) v8)) .fail) .fail):=by kernel_rfl
end T225
end
end Go.Pe
end
section
namespace Go.Pe
open Sp
open Go.Det
theorem IA:∀g sp,S7.sp g=some sp→Ae AS g sp:=fun g sp h=>by cases h
theorem wu(x:Int)(h1:0≤x)(h2:x≤18446744073709551615):zc .u64 x=x:=IntWalk.u64_in x ⟨h1,h2⟩
theorem El{n:Int}(h:CS n=true): -9223372036854775808≤n∧n<9223372036854775808:=by
 unfold CS at h;rw[zh,decide_eq_true_eq,decide_eq_true_eq]at h;exact h
namespace T224
theorem ok:Ae AS 224 Uy:=by
 refine Ax (X:=S7) rfl IA (d:=9) (by kernel_rfl) (by kernel_rfl) (by kernel_rfl) (fun(n:Int) hn=>?_) (Ad (by kernel_rfl));have hn:=El (n:=n) hn;refine zL (An n) (zk (fun c=>?_) (fun c=>?_))
 ·have c:=of_decide_eq_true c;refine zi (zy rfl rfl ?_);show zc .u64 (zc .i64 (0-n))=Ag n;simp only[Ai];rcases zz (-9223372036854775808) n with h|h
  ·rw[wr _ (by omega) (by omega),wu _ (by omega) (by omega)];omega
  ·have:n= -9223372036854775808:=by omega
   subst this;decide+kernel
 ·have c:=of_decide_eq_false c;refine zi (zy rfl rfl ?_);show zc .u64 n=Ag n;simp only[Ai];rw[wu _ (by omega) (by omega)];omega
end T224
namespace T269
theorem Am{Q:PV→Ob→Prop}(w:List Int)(hw:w.length≤20000)(hq:∀ob,Q (.dat CW (Ar w)) ob):∀(i:Nat),i≤w.length→Ar w=Ar (w.take i)→Ends S7 (L1 w i) Q
 |0,hi,he=>by
  have he:Ar w=[]:=he;rw[he]at hq;refine zQ (Au ..) (zO (by simp) (ze (by simp) (zi (hq _))))
 |i+1,hi,he=>by
  have e1:zc .i64 (((i+1:Nat):Int)-1)=(i:Int):=by rw[wr _ (by omega) (by omega)];omega
  have ht:w.take (i+1)=w.take i++[w.getD i 0]:=by
   rw[List.take_add_one];congr 1;rw[zt,zN (by omega)];rfl
  refine zQ (Au ..) (ze (by simp<;>omega) ?_);rw[e1,zl];refine ze (by simp<;>omega) (zk (fun c=>?_) (fun c=>?_))
  ·have c:w.getD i 0=0:=by simpa using c
   refine Am w hw hq i (by omega) ?_;rw[he,ht,c,Hv]
  ·have c:w.getD i 0≠0:=by simpa using c
   refine ze (by simp;omega) (zi ?_);have:Ar w=w.take (i+1):=by rw[he,ht,HP (WV c)]
   rw[this]at hq;exact hq _
theorem ok:Ae AS 269 Vu:=by
 refine Ax (X:=S7) rfl IA (d:=9) (by kernel_rfl) (by kernel_rfl) (by kernel_rfl) (fun(w:List Int) hw=>?_) (Ad (by kernel_rfl));obtain⟨h1,h2⟩:=HA (l:=w) hw;refine zL (An w) (Am w h1 (fun ob=>zy rfl rfl rfl) w.length (Nat.le_refl _) (by rw[zT]))
end T269
theorem Et{l:List Int}(h:B1 l=true):l.length≤20000∧At Aj l∧Sp.nz l:=by
 unfold B1 at h;rw[zh]at h;have:=HA h.1;exact⟨this.1,this.2,by
  have:=h.2;unfold qV at this;have:l.getLast?≠some 0:=of_decide_eq_true this;exact this⟩
namespace T221
theorem Am{Q:PV→Ob→Prop}(a b:List Int)(ha:At Aj a)(hb:At Aj b)(hl:a.length=b.length)(h2:b.length≤20000)(hq:∀ob,Q (.dat i64 (BW (Al a) (Al b))) ob):∀(i:Nat),i≤a.length→a.drop i=b.drop i→Ends S7 (L1 a b ((i:Int)-1)) Q
 |0,hi,he=>by
  have he:a=b:=he;have:BW (Al a) (Al b)=0:=by rw[he];unfold BW;simp
  rw[this]at hq;exact zQ (Au ..) (zO (by simp) (zi (hq _)))
 |i+1,hi,he=>by
  have e1:(((i+1:Nat):Int)-1)=(i:Int):=by omega
  have da:a.drop i=a.getD i 0::a.drop (i+1):=by
   rw[zt,zN (by omega)];exact zU (by omega)
  have db:b.drop i=b.getD i 0::a.drop (i+1):=by
   rw[he,zt,zN (by omega)];exact zU (by omega)
  have ga:=yk (AP ha i);have gb:=yk (AP hb i);rw[e1];refine zQ (Au ..) (ze (by simp) ?_);rw[zl];refine ze (by simp;omega) (ze (by simp;omega) (zk (fun c=>ze (by simp;omega) (ze (by simp;omega) (zk (fun d=>?_) (fun d=>?_)))) (fun c=>?_)))
  ·have d:=of_decide_eq_true d;have:=IK (b:=Aj) (by decide) ha hb da db d;have e:BW (Al a) (Al b)= -1:=by unfold BW;exact if_pos this
   rw[e]at hq;exact zi (hq _)
  ·have d:=of_decide_eq_false d;have c:a.getD i 0≠b.getD i 0:=by simpa using c
   have:=IK (b:=Aj) (by decide) hb ha db da (by omega);have e:BW (Al a) (Al b)=1:=by
    unfold BW Al;rw[if_neg (by omega),if_pos (by omega)]
   rw[e]at hq;exact zi (hq _)
  ·have c:a.getD i 0=b.getD i 0:=by simpa using c
   rw[wr ((i:Int)-1) (by omega) (by omega)];exact Am a b ha hb hl h2 hq i (by omega) (by rw[da,db,c])
theorem ok:Ae AS 221 WC:=by
 refine Ax (X:=S7) rfl IA (d:=9) (by kernel_rfl) (by kernel_rfl) (by kernel_rfl) (fun(i:List Int×List Int) hi=>?_) (Ad (by kernel_rfl));obtain⟨a,b⟩:=i;have hi:(B1 a&&B1 b)=true:=hi;rw[zh]at hi;obtain⟨a1,a2,a3⟩:=Et hi.1;obtain⟨b1,b2,b3⟩:=Et hi.2;have hq:∀ob,Af WC (a,b) (.dat i64 (BW (Al a) (Al b))) ob:=fun ob=>zy rfl rfl rfl
 refine zL (An a b) (zk (fun c=>zk (fun d=>?_) (fun d=>?_)) (fun c=>?_))
 ·have d:=of_decide_eq_true d;have e:BW (Al a) (Al b)= -1:=by unfold BW;exact if_pos (Eg (by decide) a2 b2 b3 (by omega))
  rw[e]at hq;exact zi (hq _)
 ·have d:=of_decide_eq_false d;have c:(a.length:Int)≠b.length:=by simpa using c
  have:=Eg (b:=Aj) (by decide) b2 a2 a3 (by omega);have e:BW (Al a) (Al b)=1:=by
   unfold BW Al;rw[if_neg (by omega),if_pos (by omega)]
  rw[e]at hq;exact zi (hq _)
 ·have c:(a.length:Int)=b.length:=by simpa using c
  rw[wr _ (by omega) (by omega)];exact Am a b a2 b2 (by omega) b1 hq a.length (Nat.le_refl _) (by rw[List.drop_length,show a.length=b.length by omega,List.drop_length])
end T221
end Go.Pe
end
section
namespace Go.Pe
open Sp
open Go.Det
theorem DA{a:AR}(h:De a=true):(-9223372036854775808≤a.1∧a.1<9223372036854775808)∧(a.2=[]∨(B1 a.2=true∧(a.1=1∨a.1= -1)∧9223372036854775808≤Al a.2)):=by
 unfold De at h;rw[zh,ym,zh,zh,ym,decide_eq_true_eq,decide_eq_true_eq,decide_eq_true_eq,decide_eq_true_eq]at h;exact⟨El h.1,h.2.imp id fun h=>⟨h.1.1,h.1.2,h.2⟩⟩
theorem val_one(d:Int):zC Aj [d]=d:=by simp[zC]
theorem pN{d:Int}(h1:0<d)(h2:d<18446744073709551616):[d]=Bp d:=by
 have:=HJ (b:=Aj) (l:=[d]) (by decide) (fun x hx=>by rw[List.mem_singleton]at hx;subst hx;exact⟨by omega,h2⟩) (by unfold Sp.nz;simp;omega);rw[val_one]at this;exact this
theorem Ed{s:Int}:zf (s,[])=s:=by unfold zf;exact if_pos rfl
namespace T218
theorem ok(hall:∀g sp,KJ.sp g=some sp→Ae AS g sp):Ae AS 218 NZ:=by
 refine Ax (X:=KJ) rfl hall (d:=9) (by kernel_rfl) (by kernel_rfl) (by kernel_rfl) (fun(a:Int×List Int) ha=>?_) (Ad (by kernel_rfl));obtain⟨hr,hw⟩:=DA (a:=a) ha;obtain⟨s,w⟩:=a;have hr: -9223372036854775808≤s∧s<9223372036854775808:=hr;refine zL (An (s,w)) (zk (fun c=>?_) (fun c=>zk (fun d=>?_) (fun d=>ze ?_ ?_)))
 ·have c:0<w.length:=of_decide_eq_true c;have hne:w≠[]:=by rintro rfl;simp at c
  rcases hw with hw|⟨h1,h2,h3⟩
  ·exact absurd hw hne
  ·obtain⟨n1,n2,n3⟩:=Et h1;have h2:s=1∨s= -1:=h2;have h3:9223372036854775808≤Al w:=h3;have ev:zf (s,w)=if s<0 then -Al w else Al w:=by unfold zf;exact if_neg hne
   have e1:Ag (zf (s,w))=Al w:=by rw[ev];simp only[Ai];split<;>omega
   have e2:decide (zf (s,w)<0)=decide (s<0):=by
    rw[ev];rcases h2 with rfl|rfl<;>simp<;>omega
   refine zi (zy rfl rfl ?_);show(decide (s<0),w)=(decide (zf (s,w)<0),Bp (Ag (zf (s,w))));rw[e1,e2,show w=Bp (Al w)from HJ (by decide) n2 n3];congr 2;exact(CD (b:=Aj) (by decide) (Ay (b:=Aj) (by decide) n2)).symm
 all_goals
  have c:¬0<w.length:=of_decide_eq_false c;have hn:w=[]:=List.length_eq_zero_iff.1 (by omega);subst hn
 ·have d:s=0:=by simpa using d
  subst d;exact zi (zy rfl rfl rfl)
 ·show CS s=true;unfold CS;rw[zh,decide_eq_true_eq,decide_eq_true_eq];exact hr
 ·have d:s≠0:=by simpa using d
  refine zi (zy rfl rfl ?_);show(decide (s<0),[Ag s])=(decide (zf (s,[])<0),Bp (Ag (zf (s,[]))));rw[Ed,pN (d:=Ag s) (by simp only[Ai];omega) (by simp only[Ai];omega)]
end T218
theorem BT{n:Int}(h: -9223372036854775808<n∧n<9223372036854775808):CF n=(n,[]):=if_pos h
theorem QC{w:List Int}(neg:Bool)(h1:At Aj w)(h2:Sp.nz w)(h3:9223372036854775808≤Al w):CF (if neg=true then -Al w else Al w)=(if neg=true then -1 else 1,w):=by
 have e:Bp (Al w)=w:=(HJ (by decide) h1 h2).symm;cases neg with
 |true=>
  simp only[if_true];unfold CF;rw[if_neg (by omega),if_pos (by omega)];rw[show Ag (-Al w)=Al w by simp only[Ai];omega,e]
 |false=>
  show CF (Al w)=(1,w);unfold CF;rw[if_neg (by omega),if_neg (by omega)];rw[show Ag (Al w)=Al w by simp only[Ai];omega,e]
namespace T219
theorem ok(hall:∀g sp,KJ.sp g=some sp→Ae AS g sp):Ae AS 219 cK:=by
 refine Ax (X:=KJ) rfl hall (d:=9) (by kernel_rfl) (by kernel_rfl) (by kernel_rfl) (fun(i:Bool×List Int) hi=>?_) (Ad (by kernel_rfl));obtain⟨neg,w⟩:=i;obtain⟨n1,n2,n3⟩:=Et (l:=w) hi;refine zL (An neg w) ?_;conv=>zeta
 cases w with
 |nil=>
  refine ze rfl (zi (zy rfl rfl ?_));show _=CF (if neg=true then -0 else 0);rw[show(if neg=true then(-0:Int)else 0)=0 by split<;>rfl,BT (by omega)]
 |cons d t=>
  cases t with
  |nil=>
   have hd:=n2 d (by simp);have hz:d≠0:=by intro h;subst h;exact n3 rfl
   have hd1:0≤d:=hd.1;have hd2:d<18446744073709551616:=hd.2;have ev:Al [d]=d:=val_one d;refine zO rfl (ze rfl (ze rfl (zk (fun c=>?_) (fun c=>?_))))
   ·have c:d≤9223372036854775807:=of_decide_eq_true c;have e1:zc .i64 d=d:=wr _ (by omega) (by omega);have e2:zc .i64 (0-d)= -d:=by rw[wr _ (by omega) (by omega)];omega
    refine zk (fun n=>ze rfl (zi (zy rfl rfl ?_))) (fun n=>ze rfl (ze rfl (ze (decide_eq_true c) (ze rfl (zi (zy rfl rfl ?_))))))
    ·show(zc .i64 (0-zc .i64 d),[])=CF (if neg=true then -Al [d]else Al [d]);rw[e1,e2,if_pos n,ev,BT (by omega)]
    ·show(zc .i64 d,[])=CF (if neg=true then -Al [d]else Al [d]);subst n;rw[e1,if_neg (by decide),ev,BT (by omega)]
   ·have c':¬d≤9223372036854775807:=of_decide_eq_false c;have hb:=QC neg n2 n3 (by rw[ev];omega);refine ze rfl (ze rfl (zO c (zk (fun n=>zi (zy rfl rfl ?_)) (fun n=>zi (zy rfl rfl ?_)))))
    ·show(-1,[d])=CF (if neg=true then -Al [d]else Al [d]);rw[hb,if_pos n]
    ·show(1,[d])=CF (if neg=true then -Al [d]else Al [d]);rw[hb,n];rfl
  |cons e t=>
   have hv:9223372036854775808≤Al (d::e::t):=by
    have h:=CY (b:=Aj) (by decide) n2 n3 (by simp);have h2:=AJ (b:=Aj) (by decide) (show 1≤(d::e::t).length-1 by simp);rw[Int.pow_one]at h2;have:(9223372036854775808:Int)≤(Aj:Int):=by decide
    exact Int.le_trans this (Int.le_trans h2 h)
   have hb:=QC neg n2 n3 hv;have z0:(((d::e::t).length:Int)==0)=false:=by simp;omega
   have z1:(((d::e::t).length:Int)==1)=false:=by simp;omega
   refine zO z0 (zO z1 (zO z1 (zk (fun n=>zi (zy rfl rfl ?_)) (fun n=>zi (zy rfl rfl ?_)))))
   ·show(-1,d::e::t)=CF (if neg=true then -Al (d::e::t)else Al (d::e::t));rw[hb,if_pos n]
   ·show(1,d::e::t)=CF (if neg=true then -Al (d::e::t)else Al (d::e::t));rw[hb,n];rfl
end T219
namespace T220
variable {Q:PV→Ob→Prop}
theorem Am(x y:List Int)(hx:At Aj x)(hy:At Aj y)(hl:y.length≤x.length)(hm:x.length≤9000)(hq:∀ob,Q (.dat CW (Bp (Al x+Al y))) ob):∀(k i:Nat) (p:List Int) (c:Int),i+k=x.length→p.length=i→At Aj p→(0≤c∧c≤1)→zC Aj p+(Aj:Int)^i*c=zC Aj (x.take i)+zC Aj (y.take i)→
  Ends KJ (L1 x y (x.length+1) c x.length i (p++zn (x.length+1-i) 0)) Q
 |0,i,p,c,hi,hp,hd,hc,he=>by
  have hi:i=x.length:=by omega
  subst hi;have er:x.length+1-x.length=1:=by omega
  have es:(p++zn (x.length+1-x.length) (0:Int)).set x.length c=p++[c]:=by
   rw[er];exact Pe.C6 p [] 0 c hp
  have ht:(p++[c]).take (x.length+1)=p++[c]:=zw (by simp;omega);have hd':At Aj (p++[c]):=DH hd (Cu hc.1 (by omega));have hv:Al (p++[c])=Al x+Al y:=by
   unfold Al;rw[EA,hp,he,zT,zw hl]
  refine zQ (Au ..) (zO (by simp) ?_);rw[zl,es,ht];refine ze (by simp<;>omega) (ze (by simp;omega) (ze ?_ (zi ?_)))
  ·rw[DZ (by simp;omega) hd'];simp;omega
  ·rw[JQ hd',hv];exact hq _
 |k+1,i,p,c,hi,hp,hd,hc,he=>by
  have gx:=AP hx i;have gy:=AP hy i;have lo:(p++zn (x.length+1-i) (0:Int)).length=x.length+1:=by simp;omega
  have step:∀z,zp z=true→z=y.getD i 0→Ends KJ (L1 x y (x.length+1) (ND (x.getD i 0) z c) x.length (zc .i64 ((i:Int)+1)) ((p++zn (x.length+1-i) 0).set i (Hg (x.getD i 0) z c))) Q:=by
   intro z hz ez;obtain⟨a1,a2,a3⟩:=Kh gx hz hc;rw[wr ((i:Int)+1) (by omega) (by omega),Il p (x.length+1) i _ hp (by omega)];refine Am x y hx hy hl hm hq k (i+1) (p++[Hg (x.getD i 0) z c]) _ (by omega) (by simp;omega) (DH hd a1) a2 ?_;rw[EA,hp,JM,AD _ x i,AD _ y i, ←ez,yt, ←zG,a3,zG,zG];omega
  refine zQ (Au ..) (ze (by simp;omega) ?_);rw[zl];refine zk (fun d=>?_) (fun d=>?_)
  ·have d:=of_decide_eq_true d;refine ze (by simp;omega) (ze (by simp;omega) (ze ?_ (ze (by simp;omega) (ze (decide_eq_true (by rw[lo];omega)) (step _ gy rfl)))));rw[gx,gy,zH,zH,zh];exact⟨decide_eq_true hc.1,decide_eq_true hc.2⟩
  ·have d:=of_decide_eq_false d;have hz:y.getD i 0=0:=by rw[zt,List.getElem?_eq_none (by omega)];rfl
   refine ze (by simp;omega) (ze ?_ (ze (by simp;omega) (ze (decide_eq_true (by rw[lo];omega)) (step _ rfl hz.symm))));rw[gx,show zp 0=true from rfl,zH,zH,zh];exact⟨decide_eq_true hc.1,decide_eq_true hc.2⟩
theorem start(x y:List Int)(hx:At Aj x)(hy:At Aj y)(hl:y.length≤x.length)(hm:x.length≤9000)(hq:∀ob,Q (.dat CW (Bp (Al x+Al y))) ob){t:Tr}:
  Ends KJ (.ite (decide ((0:Int)≤zc zS ((x.length:Int)+(1:Int)))&&decide (zc zS ((x.length:Int)+(1:Int))=zc zS ((x.length:Int)+(1:Int)))&&decide ((8:Nat)*yr (zc zS ((x.length:Int)+(1:Int)))≤(281474976710656:Nat))&&decide (zc zS ((x.length:Int)+(1:Int))<(9223372036854775808:Int)))
   (L1 x y (yr (zc zS ((x.length:Int)+(1:Int)))) ((0:Int)) ((x.length:Int)) ((0:Int)) (zn (yr (zc zS ((x.length:Int)+(1:Int)))) (0:Int))) t) Q:=by
 have e1:zc .i64 ((x.length:Int)+1)=((x.length+1:Nat):Int):=by rw[wr _ (by omega) (by omega)];omega
 rw[e1,zl];refine ze (by simp;omega) ?_;exact Am x y hx hy hl hm hq x.length 0 [] 0 (by omega) rfl (fun _ h=>by cases h) (by omega) (by simp[zC])
theorem ok(hall:∀g sp,KJ.sp g=some sp→Ae AS g sp):Ae AS 220 eH:=by
 refine Ax (X:=KJ) rfl hall (d:=9) (by kernel_rfl) (by kernel_rfl) (by kernel_rfl) (fun(i:List Int×List Int) hi=>?_) (Ad (by kernel_rfl));obtain⟨x,y⟩:=i;have hi:(yv x&&yv y)=true:=hi;rw[zh]at hi;obtain⟨x1,x2⟩:=We hi.1;obtain⟨y1,y2⟩:=We hi.2;have hq:∀ob,Af eH (x,y) (.dat CW (Bp (Al x+Al y))) ob:=fun ob=>zy rfl rfl rfl
 refine zL (An x y) (zk (fun c=>?_) (fun c=>?_))
 ·have c:=of_decide_eq_true c;exact start y x y2 x2 (by omega) y1 (by rw[Int.add_comm];exact hq)
 ·have c:=of_decide_eq_false c;exact start x y x2 y2 (by omega) x1 hq
end T220
namespace T222
variable {Q:PV→Ob→Prop}
theorem eN{b:Int}(hb:0<b){l:List Int}{n:Nat}(h:At b l)(hv:zC b l<b^n):zC b (l.take n)=zC b l:=by
 rcases Nat.lt_or_ge n l.length with hn|hn
 ·have h1:=B4 b l n (by omega);have h2:=Ay (by omega) (AK h n);have h3:=Ay (by omega) (Eb h n);rcases zz 0 (zC b (l.drop n))with h4|h4
  ·have:=zD (show 1≤zC b (l.drop n)by omega) (zM (AM hb n));rw[Int.mul_one]at this;omega
  ·have:zC b (l.drop n)=0:=by omega
   rw[this,yh]at h1;omega
 ·rw[zw hn]
theorem Am(x y:List Int)(hx:At Aj x)(hy:At Aj y)(hl:Al y≤Al x)(hm:x.length≤20000)(hq:∀ob,Q (.dat CW (Bp (Al x-Al y))) ob):∀(k i:Nat) (p:List Int) (c:Int),i+k=x.length→p.length=i→At Aj p→(0≤c∧c≤1)→zC Aj p-(Aj:Int)^i*c=zC Aj (x.take i)-zC Aj (y.take i)→
  Ends KJ (L1 x y x.length c x.length i (p++zn (x.length-i) 0)) Q
 |0,i,p,c,hi,hp,hd,hc,he=>by
  have hi:i=x.length:=by omega
  subst hi;have er:p++zn (x.length-x.length) (0:Int)=p:=by rw[Nat.sub_self];simp
  have ht:p.take x.length=p:=zw (by omega);have hX:Al x<(Aj:Int)^x.length:=Bm (by decide) hx;have hP:Al p<(Aj:Int)^p.length:=Bm (by decide) hd;have hv:Al p=Al x-Al y:=by
   rw[zT,eN (by decide) hy (show zC Aj y<_ from zJ hl hX)]at he;have he:Al p-(Aj:Int)^x.length*c=Al x-Al y:=he;rw[hp]at hP;rcases zz 0 c with h|h
   ·have:c=1:=by omega
    subst this;rw[Int.mul_one]at he;omega
   ·have:c=0:=by omega
    subst this;rw[yh]at he;omega
  rw[er];refine zQ (Au ..) (zO (by simp) ?_);rw[ht];refine ze ?_ (zi ?_)
  ·rw[DZ (by omega) hd];simp;omega
  ·rw[JQ hd,hv];exact hq _
 |k+1,i,p,c,hi,hp,hd,hc,he=>by
  have gx:=AP hx i;have gy:=AP hy i;have lo:(p++zn (x.length-i) (0:Int)).length=x.length:=by simp;omega
  have step:∀z,zp z=true→z=y.getD i 0→Ends KJ (L1 x y x.length (O3 (x.getD i 0) z c) x.length (zc .i64 ((i:Int)+1)) ((p++zn (x.length-i) 0).set i (RY (x.getD i 0) z c))) Q:=by
   intro z hz ez;obtain⟨a1,a2,a3⟩:=Sp.Gg gx hz hc;rw[wr ((i:Int)+1) (by omega) (by omega),Il p x.length i _ hp (by omega)];refine Am x y hx hy hl hm hq k (i+1) (p++[RY (x.getD i 0) z c]) _ (by omega) (by simp;omega) (DH hd a1) a2 ?_;have e:(Aj:Int)^i*RY (x.getD i 0) z c-(Aj:Int)^i*(18446744073709551616*O3 (x.getD i 0) z c)=(Aj:Int)^i*x.getD i 0-(Aj:Int)^i*z-(Aj:Int)^i*c:=by
    rw[←yp,a3,yp,yp]
   rw[EA,hp,JM,AD _ x i,AD _ y i, ←ez];omega
  refine zQ (Au ..) (ze (by simp;omega) ?_);rw[zl];refine zk (fun d=>?_) (fun d=>?_)
  ·have d:=of_decide_eq_true d;refine ze (by simp;omega) (ze (by simp;omega) (ze ?_ (ze (by simp;omega) (ze (decide_eq_true (by rw[lo];omega)) (step _ gy rfl)))));rw[gx,gy,zH,zH,zh];exact⟨decide_eq_true hc.1,decide_eq_true hc.2⟩
  ·have d:=of_decide_eq_false d;have hz:y.getD i 0=0:=by rw[zt,List.getElem?_eq_none (by omega)];rfl
   refine ze (by simp;omega) (ze ?_ (ze (by simp;omega) (ze (decide_eq_true (by rw[lo];omega)) (step _ rfl hz.symm))));rw[gx,show zp 0=true from rfl,zH,zH,zh];exact⟨decide_eq_true hc.1,decide_eq_true hc.2⟩
theorem ok(hall:∀g sp,KJ.sp g=some sp→Ae AS g sp):Ae AS 222 fA:=by
 refine Ax (X:=KJ) rfl hall (d:=9) (by kernel_rfl) (by kernel_rfl) (by kernel_rfl) (fun(i:List Int×List Int) hi=>?_) (Ad (by kernel_rfl));obtain⟨x,y⟩:=i;have hi:(Cv x&&Cv y&&decide (Al y≤Al x))=true:=hi;rw[zh,zh,decide_eq_true_eq]at hi;obtain⟨x1,x2⟩:=HA hi.1.1;obtain⟨y1,y2⟩:=HA hi.1.2;have hq:∀ob,Af fA (x,y) (.dat CW (Bp (Al x-Al y))) ob:=fun ob=>zy rfl rfl rfl
 refine zL (An x y) ?_;conv=>zeta
 rw[zl];refine ze (by simp;omega) ?_;exact Am x y x2 y2 hi.2 x1 hq x.length 0 [] 0 (by omega) rfl (fun _ h=>by cases h) (by omega) (by simp[zC])
end T222
end Go.Pe
end
section
namespace Go.Pe
open Sp
open Go.Det
theorem JI(n:Int):zc .u64 n=n % 18446744073709551616:=by simp[zc,IntKind.bits,IntKind.signed]
theorem X4(n:Nat):zm (n:Int) ((2:Int)^(32:Nat))=((n/4294967296:Nat):Int):=by
 rw[zK _ (by decide)];rfl
theorem cT(n:Nat)(h:n<18446744073709551616):zc .u64 (n:Int)=n:=wu _ (by omega) (by omega)
theorem Oe(n:Nat)(h:n<18446744073709551616):G5 .u64 (n:Int) 4294967295=((n % 4294967296:Nat):Int):=by
 have e:(zE 64 (n:Int)&&&zE 64 4294967295).toNat=n % 4294967296:=by
  rw[BitVec.toNat_and];have h1:(zE 64 (n:Int)).toNat=n:=by rw[zZ,z8];exact ye h
  have h2:(zE 64 4294967295).toNat=2^32-1:=by decide
  rw[h1,h2,Nat.and_two_pow_sub_one_eq_mod]
 show zc .u64 (((zE 64 (n:Int)&&&zE 64 4294967295).toNat:Nat):Int)=_;rw[e];exact cT _ (by omega)
namespace T223
theorem ok:Ae AS 223 RO:=by
 refine Ax (X:=S7) rfl IA (d:=9) (by kernel_rfl) (by kernel_rfl) (by kernel_rfl) (fun(i:Int×Int) hi=>?_) (Ad (by kernel_rfl));obtain⟨x,y⟩:=i;have hi:(zp x&&zp y)=true:=hi;rw[zh]at hi;have hx:=yk hi.1;have hy:=yk hi.2;obtain⟨x,rfl⟩:=zo hx.1;obtain⟨y,rfl⟩:=zo hy.1;have hx:x<18446744073709551616:=by omega
 have hy:y<18446744073709551616:=by omega
 obtain⟨m1,m2,m3,m4⟩:=Go.Lib.mul64_hi x y hx hy;have k1:=ya (a:=x/4294967296) (b:=y/4294967296) (by omega) (by omega);have k2:=ya (a:=x/4294967296) (b:=y % 4294967296) (by omega) (by omega);have k3:=ya (a:=x % 4294967296) (b:=y/4294967296) (by omega) (by omega);refine zL (An (x:Int) (y:Int)) (ze rfl (ze rfl (ze rfl (ze rfl (ze rfl (zi (zy rfl rfl ?_)))))));refine Prod.ext ?_ ?_
 ·show zc zd (zc zd (zc zd (zm (x:Int) ((2:Int)^(32:Nat))*zm (y:Int) ((2:Int)^(32:Nat)))+zm (zc zd (zc zd (zm (x:Int) ((2:Int)^(32:Nat))*G5 zd (y:Int) (4294967295:Int))+zm (zc zd (G5 zd (x:Int) (4294967295:Int)*G5 zd (y:Int) (4294967295:Int))) ((2:Int)^(32:Nat)))) ((2:Int)^(32:Nat)))+zm (zc zd (G5 zd (zc zd (zc zd (zm (x:Int) ((2:Int)^(32:Nat))*G5 zd (y:Int) (4294967295:Int))+zm (zc zd (G5 zd (x:Int) (4294967295:Int)*G5 zd (y:Int) (4294967295:Int))) ((2:Int)^(32:Nat)))) (4294967295:Int)+zc zd (G5 zd (x:Int) (4294967295:Int)*zm (y:Int) ((2:Int)^(32:Nat))))) ((2:Int)^(32:Nat)))=PQ x y;have em:PQ x y=((x*y/18446744073709551616:Nat):Int):=by unfold PQ;omega
  rw[em, ←m4];have hlt:x*y/18446744073709551616<18446744073709551616:=Nat.div_lt_of_lt_mul (Nat.mul_lt_mul'' hx hy);rw[←m4]at hlt;simp only[X4,Oe x hx,Oe y hy];simp only[←zW];generalize (x/4294967296)*(y/4294967296)=a at*;generalize (x/4294967296)*(y % 4294967296)=b at*;generalize (x % 4294967296)*(y/4294967296)=c at*;generalize (x % 4294967296)*(y % 4294967296)=d at*;rw[cT d (by omega),cT a (by omega),cT b (by omega),cT c (by omega),X4, ←z7,cT _ m2,X4,Oe _ m2, ←z7, ←z7,cT _ m3,X4,cT (a+_) (by omega), ←z7,cT _ hlt]
 ·show zc .u64 ((x:Int)*y)=Hu x y;unfold Hu;exact JI _
end T223
theorem cJ{x y o c:Int}(hx:zp x=true)(hy:zp y=true)(ho:zp o=true)(hc:zp c=true):
  zp (Hu x y)=true∧zp (Hg (Hu x y) o 0)=true∧zp (Hg (Hg (Hu x y) o 0) c 0)=true∧
  zc .u64 (zc .u64 (PQ x y+ND (Hu x y) o 0)+ND (Hg (Hu x y) o 0) c 0)=(x*y+o+c)/18446744073709551616∧
  zp ((x*y+o+c)/18446744073709551616)=true∧
  Hg (Hg (Hu x y) o 0) c 0+18446744073709551616*((x*y+o+c)/18446744073709551616)=x*y+o+c:=by
 have hx:=yk hx;have hy:=yk hy;have ho:=yk ho;have hc:=yk hc;have h0:0≤x*y:=zq hx.1 hy.1;have h1:x*y≤18446744073709551615*18446744073709551615:=by
  have a:=zD (show y≤18446744073709551615 by omega) hx.1;have b:=zj (show x≤18446744073709551615 by omega) (show(0:Int)≤18446744073709551615 by omega);omega
 unfold Hu PQ Hg ND;generalize x*y=P at*;refine⟨Cu (by omega) (by omega),Cu (by omega) (by omega),Cu (by omega) (by omega),?_,Cu (by omega) (by omega),by omega⟩;rw[JI,JI];omega
namespace T225
variable {Q:PV→Ob→Prop}
theorem AZ(x y:List Int)(n i:Nat)(hi:i<x.length)(hn:n=x.length+y.length)(hx9:x.length≤9000)(hy9:y.length≤9000)(hx:At Aj x)(hy:At Aj y)(p:List Int)(hp:p.length=i+y.length)(hdp:At Aj p)
  (hq:∀q c,q.length=i+y.length→At Aj q→zp c=true→zC Aj q+(Aj:Int)^(i+y.length)*c=zC Aj p+(Aj:Int)^i*(x.getD i 0*zC Aj y)→Ends KJ (L1 y n x x.length ((i+1:Nat):Int) ((q++[c])++zn (n-(i+y.length+1)) 0)) Q):∀(k j:Nat) (q:List Int) (c:Int),j+k=y.length→q.length=i+j→At Aj q→zp c=true→zC Aj q+(Aj:Int)^(i+j)*c=zC Aj (p.take (i+j))+(Aj:Int)^i*(x.getD i 0*zC Aj (y.take j))→
  Ends KJ (L2 y n i (x.getD i 0) c x x.length i y y.length j (q++(p.drop (i+j)++zn (n-(i+y.length)) 0))) Q
 |0,j,q,c,hj,hl,hd,hc,he=>by
  have hj:j=y.length:=by omega
  subst hj;have e1:zc .i64 ((i:Int)+(y.length:Int))=((i+y.length:Nat):Int):=by rw[wr _ (by omega) (by omega)];omega
  have e2:zc .i64 ((i:Int)+1)=((i+1:Nat):Int):=by rw[wr _ (by omega) (by omega)];omega
  have ed:p.drop (i+y.length)=[]:=List.drop_eq_nil_of_le (by omega);refine zQ (A4 ..) (zO (by simp) ?_);rw[e1,e2,zl,ed,List.nil_append,Il q n _ c hl (by omega)];refine ze (by simp;omega) (ze (by simp;omega) (hq q c hl hd hc ?_));rw[he,zw (by omega),zT]
 |k+1,j,q,c,hj,hl,hd,hc,he=>by
  have gx:=AP hx i;have gy:=AP hy j;have gp:=AP hdp (i+j);have ep:p.drop (i+j)=p.getD (i+j) 0::p.drop (i+j+1):=by
   rw[zt,zN (by omega)];exact zU (by omega)
  have e1:zc .i64 ((i:Int)+(j:Int))=((i+j:Nat):Int):=by rw[wr _ (by omega) (by omega)];omega
  have e2:zc .i64 ((j:Int)+1)=((j+1:Nat):Int):=by rw[wr _ (by omega) (by omega)];omega
  have lo:(q++(p.drop (i+j)++zn (n-(i+y.length)) (0:Int))).length=n:=by simp;omega
  have g1:(q++(p.drop (i+j)++zn (n-(i+y.length)) (0:Int))).getD (i+j) 0=p.getD (i+j) 0:=by
   rw[ep,yf];exact Dl _ _ _ _ hl
  have s1:∀z,(q++(p.drop (i+j)++zn (n-(i+y.length)) (0:Int))).set (i+j) z=(q++[z])++(p.drop (i+(j+1))++zn (n-(i+y.length)) 0):=by
   intro z;rw[ep,yf,C6 _ _ _ _ hl,List.append_assoc];rfl
  obtain⟨m1,m2,m3,m4,m5,m6⟩:=cJ gx gy gp hc;refine zQ (A4 ..) (ze (by simp;omega) ?_);rw[e1,e2,zl,zl,g1,s1,m4];have t1:(decide ((0:Int)≤((i+j:Nat):Int))&&decide (((i+j:Nat):Int)<(n:Int)))=true:=by simp;omega
  refine ze (by simp;omega) (ze (by rw[gx,gy];rfl) (ze t1 (ze (decide_eq_true (by rw[lo];omega)) (ze (by rw[m1,gp];rfl) (ze (by rw[m2,hc];rfl) (ze t1 (ze (decide_eq_true (by rw[lo];omega)) ?_)))))));refine AZ x y n i hi hn hx9 hy9 hx hy p hp hdp hq k (j+1) _ _ (by omega) (by simp;omega) (DH hd m3) m5 ?_;have ea:i+(j+1)=(i+j)+1:=by omega
  have eb:(Aj:Int)^i*(x.getD i 0*((Aj:Int)^j*y.getD j 0))=(Aj:Int)^(i+j)*(x.getD i 0*y.getD j 0):=by
   rw[Int.pow_add,zu,Int.mul_left_comm (x.getD i 0)]
  rw[ea,EA,hl,JM,yt, ←zG,m6,AD _ p (i+j),AD _ y j,zG,zG,zG (x.getD i 0),zG,eb];omega
theorem Am(x y:List Int)(n:Nat)(hn:n=x.length+y.length)(hx9:x.length≤9000)(hy9:y.length≤9000)(hx:At Aj x)(hy:At Aj y)(hq:∀ob,Q (.dat CW (Bp (Al x*Al y))) ob):∀(k i:Nat) (p:List Int),i+k=x.length→p.length=i+y.length→At Aj p→zC Aj p=zC Aj (x.take i)*zC Aj y→
  Ends KJ (L1 y n x x.length i (p++zn (n-(i+y.length)) 0)) Q
 |0,i,p,hi,hp,hd,he=>by
  have hi:i=x.length:=by omega
  subst hi;have ez:p++zn (n-(x.length+y.length)) (0:Int)=p:=by rw[hn,Nat.sub_self];simp
  have hv:Al p=Al x*Al y:=by
   rw[zT]at he;exact he
  rw[ez];refine zQ (Au ..) (zO (by simp) ?_);rw[zw (by omega)];refine ze ?_ (zi ?_)
  ·rw[DZ (by omega) hd];simp;omega
  ·rw[JQ hd,hv];exact hq _
 |k+1,i,p,hi,hp,hd,he=>by
  refine zQ (Au ..) (ze (by simp;omega) ?_);rw[zl];refine ze (by simp;omega) ?_;have h0:zC Aj (p.take (i+y.length))=zC Aj p:=by rw[zw (by omega)]
  have:=AZ (Q:=Q) x y n i (by omega) hn hx9 hy9 hx hy p hp hd (fun q c hl hdq hc hv=>by
   have:=Am x y n hn hx9 hy9 hx hy hq k (i+1) (q++[c]) (by omega) (by simp;omega) (DH hdq hc) (by
    rw[EA,hl,hv,he,AD,zA,zu])
   rw[show i+1+y.length=i+y.length+1 by omega]at this;exact this) y.length 0 (p.take i) 0 (by omega) (by simp;omega) (AK hd i) rfl (by simp[zC])
  rw[Nat.add_zero, ←List.append_assoc,List.take_append_drop]at this;exact this
theorem ok(hall:∀g sp,KJ.sp g=some sp→Ae AS g sp):Ae AS 225 ZO:=by
 refine Ax (X:=KJ) rfl hall (d:=9) (by kernel_rfl) (by kernel_rfl) (by kernel_rfl) (fun(i:List Int×List Int) hi=>?_) (Ad (by kernel_rfl));obtain⟨x,y⟩:=i;have hi:(yv x&&yv y)=true:=hi;rw[zh]at hi;obtain⟨x1,x2⟩:=We hi.1;obtain⟨y1,y2⟩:=We hi.2;have hq:∀ob,Af ZO (x,y) (.dat CW (Bp (Al x*Al y))) ob:=fun ob=>zy rfl rfl rfl
 have e1:zc .i64 ((x.length:Int)+(y.length:Int))=((x.length+y.length:Nat):Int):=by rw[wr _ (by omega) (by omega)];omega
 refine zL (An x y) ?_;conv=>zeta
 rw[e1,zl];refine ze (by simp;omega) ?_;have:=Am x y (x.length+y.length) rfl x1 y1 x2 y2 hq x.length 0 (zn y.length 0) (by omega) (by simp) (fun d hd=>by
  obtain⟨_,rfl⟩:=List.mem_replicate.1 hd;exact⟨by decide,by decide⟩) (by rw[K5];simp[zC])
 rw[Nat.zero_add,List.replicate_append_replicate,show y.length+(x.length+y.length-y.length)=x.length+y.length by omega]at this;exact this
end T225
theorem ER:∀g sp,KJ.sp g=some sp→Ae AS g sp:=
 Aa T224.ok (Aa T268.ok (Aa T270.ok (Aa T269.ok (Aa T223.ok (fun g sp h=>by cases h)))))
theorem Rv:∀g sp,qC.sp g=some sp→Ae AS g sp:=
 Aa (T218.ok ER) (Aa (T219.ok ER) (Aa (T220.ok ER) (Aa (T222.ok ER) (Aa T221.ok (Aa (T225.ok ER) (Aa T223.ok (Aa T224.ok (fun g sp h=>by cases h))))))))
end Go.Pe
end
section
namespace Go.Sp
def A8(a:AR):Bool:=De a&&decide (a.2.length≤9000)
def Xo(a b:AR):Int:=BW (vI a) (vI b)
def Hf(a:AR):Int:=RX (vI a)
end Go.Sp
namespace Go.Pe
open Sp
open Go.Det
noncomputable section
noncomputable def Tx:Ao:=⟨[By],fun a=>De a,[By],fun a=>(D6 a,D4 a),false⟩
noncomputable def mO:Ao:=⟨[By],fun a=>De a,[By],fun a=>(OS a,NM a),false⟩
noncomputable def Jt:Ao:=⟨[By],fun a=>De a,[i64],fun a=>Hf a,false⟩
noncomputable def OD:Ao:=⟨[By,By],fun i=>A8 i.1&&A8 i.2,[By],fun i=>(H3 i.1 i.2,HF i.1 i.2),false⟩
noncomputable def Zt:Ao:=⟨[By,By],fun i=>A8 i.1&&A8 i.2,[By],fun i=>(dG i.1 i.2,Z9 i.1 i.2),false⟩
noncomputable def PA:Ao:=⟨[By,By],fun i=>A8 i.1&&A8 i.2,[By],fun i=>(Ex i.1 i.2,Ew i.1 i.2),false⟩
noncomputable def dC:Ao:=⟨[By,By],fun i=>A8 i.1&&A8 i.2,[i64],fun i=>Xo i.1 i.2,false⟩
noncomputable def tZ:A9:=X7 [(174,Tx),(158,OD)]
noncomputable def vC:A9:=X7 [(217,Zt),(173,Jt)]
end
end Go.Pe
end
section
namespace Go.Pe
open Sp
open Go.Det
noncomputable section
open List Int Prod
namespace T174
def T(a:Int×List Int):Tr:=tree qC false 9 174 (Ah ([zX i64 (zB (zg zd))]) a)
theorem An(a:Int×List Int):T a=let c':=zB (zg zd);let d':=Bp (Ag (zf (fst a,snd a)));let e':=zc .i64 (0-fst a);let b':=yb (!decide (zf (fst a,snd a)<0)) (Al d');let a':Tr:=.ite (De (fst a,snd a)) (.ite (B1 d') (.leaf (zV [.dat i64 (Cn b'),.dat c' (Cm b')]) ([(zr 0 1,.box [.dat i64 (Cn b'),.dat c' (Cm b')]),(0,.box [.dat i64 (fst a),.dat c' (snd a)])])) .fail) .fail;.ite (!decide (0<length (snd a))) (.ite (fst a !=(-9223372036854775808)) (.leaf (zV [.dat i64 e',.nil]) ([(zr 0 1,.box [.dat i64 e',.nil]),(0,.box [.dat i64 (fst a),.dat c' (snd a)])])) a') a':=by kernel_rfl
end T174
namespace T158
def T(a b:Int×List Int):Tr:=tree qC false 9 158 (Ah ([zX i64 (zB (zg zd)),zX i64 (zB (zg zd))]) (a,b))
theorem An(a b:Int×List Int):T a b=let b':=Bp (Ag (zf (fst a,snd a)));let c':=Bp (Ag (zf (fst b,snd b)));let d':=zB (zg zd);let h':=decide (zf (fst a,snd a)<0);let i':=zc .i64 (fst a+fst b);let m':=decide (zf (fst b,snd b)<0);let j':=Bp (Al b'+Al c');let k':=Bp (Al b'-Al c');let l':=Bp (Al c'-Al b');let e':=yb (h') (Al j');let f':=yb (h') (Al k');let g':=yb (m') (Al l');let a':Tr:=.ite (De (fst a,snd a)) (.ite (De (fst b,snd b)) (.ite (h'==m') (.ite (yv b'&&yv c') (.ite (B1 j') (.leaf (zV [.dat i64 (Cn e'),.dat d' (Cm e')]) ([(zr (zr 0 1) 1,.box [.dat i64 (Cn e'),.dat d' (Cm e')]),(zr 0 1,.box [.dat i64 (fst b),.dat d' (snd b)]),(0,.box [.dat i64 (fst a),.dat d' (snd a)])])) .fail) .fail) (.ite (B1 b'&&B1 c') (.ite (decide (BW (Al b') (Al c')≥0)) (.ite (Cv b'&&Cv c'&&decide (Al c'≤Al b')) (.ite (B1 k') (.leaf (zV [.dat i64 (Cn f'),.dat d' (Cm f')]) ([(zr (zr 0 1) 1,.box [.dat i64 (Cn f'),.dat d' (Cm f')]),(zr 0 1,.box [.dat i64 (fst b),.dat d' (snd b)]),(0,.box [.dat i64 (fst a),.dat d' (snd a)])])) .fail) .fail) (.ite (Cv c'&&Cv b'&&decide (Al b'≤Al c')) (.ite (B1 l') (.leaf (zV [.dat i64 (Cn g'),.dat d' (Cm g')]) ([(zr (zr 0 1) 1,.box [.dat i64 (Cn g'),.dat d' (Cm g')]),(zr 0 1,.box [.dat i64 (fst b),.dat d' (snd b)]),(0,.box [.dat i64 (fst a),.dat d' (snd a)])])) .fail) .fail)) .fail)) .fail) .fail;.ite (!decide (0<length (snd a))) (.ite (!decide (0<length (snd b))) (.ite (decide (zc .i64 (fst a+fst b)>fst a)==decide (fst b>0)) (.leaf (zV [.dat i64 i',.nil]) ([(zr (zr 0 1) 1,.box [.dat i64 i',.nil]),(zr 0 1,.box [.dat i64 (fst b),.dat d' (snd b)]),(0,.box [.dat i64 (fst a),.dat d' (snd a)])])) a') a') a':=by kernel_rfl
end T158
namespace T159
def T(a b:Int×List Int):Tr:=tree qC false 9 159 (Ah ([zX i64 (zB (zg zd)),zX i64 (zB (zg zd))]) (a,b))
theorem An(a b:Int×List Int):T a b=let c':=zB (zg zd);let f':=Ag (fst a);let g':=Ag (fst b);let i':=Bp (Ag (zf (fst a,snd a)));let j':=Bp (Ag (zf (fst b,snd b)));let d':=Hu f' g';let e':=Bp (Al i'*Al j');let b':=yb (!decide (zf (fst a,snd a)<0)==decide (zf (fst b,snd b)<0)) (Al e');let h':=zc .i64 (0-zc .i64 d');let a':Tr:=.ite (De (fst a,snd a)) (.ite (De (fst b,snd b)) (.ite (yv i'&&yv j') (.ite (B1 e') (.leaf (zV [.dat i64 (Cn b'),.dat c' (Cm b')]) ([(zr (zr 0 1) 1,.box [.dat i64 (Cn b'),.dat c' (Cm b')]),(zr 0 1,.box [.dat i64 (fst b),.dat c' (snd b)]),(0,.box [.dat i64 (fst a),.dat c' (snd a)])])) .fail) .fail) .fail) .fail;.ite (!decide (0<length (snd a))) (.ite (!decide (0<length (snd b))) (.ite (CS (fst a)) (.ite (CS (fst b)) (.ite (zp f'&&zp g') (.ite (PQ f' g'==0) (.ite (decide (Hu f' g'≤9223372036854775807)) (.ite (!decide (fst a<0)==decide (fst b<0)) (.leaf (zV [.dat i64 h',.nil]) ([(zr (zr 0 1) 1,.box [.dat i64 h',.nil]),(zr 0 1,.box [.dat i64 (fst b),.dat c' (snd b)]),(0,.box [.dat i64 (fst a),.dat c' (snd a)])])) (.leaf (zV [.dat i64 (zc .i64 d'),.nil]) ([(zr (zr 0 1) 1,.box [.dat i64 (zc .i64 d'),.nil]),(zr 0 1,.box [.dat i64 (fst b),.dat c' (snd b)]),(0,.box [.dat i64 (fst a),.dat c' (snd a)])]))) a') a') .fail) .fail) .fail) a') a':=by kernel_rfl
end T159
namespace T212
def T(a:Int×List Int):Tr:=tree tZ false 9 212 (Ah ([zX i64 (zB (zg zd))]) a)
theorem An(a:Int×List Int):T a=let a':=zB (zg zd);let b':=D6 (fst a,snd a);let c':=D4 (fst a,snd a);.ite (decide (fst a<0)) (.ite (De (fst a,snd a)) (.leaf (zV [.dat i64 b',.dat a' c']) ([(zr 0 1,.box [.dat i64 b',.dat a' c']),(0,.box [.dat i64 (fst a),.dat a' (snd a)])])) .fail) (.leaf (zV [.dat i64 (fst a),.dat a' (snd a)]) ([(zr 0 1,.box [.dat i64 (fst a),.dat a' (snd a)]),(0,.box [.dat i64 (fst a),.dat a' (snd a)])])):=by kernel_rfl
end T212
namespace T173
def T(a:Int×List Int):Tr:=tree S7 false 9 173 (Ah ([zX i64 (zB (zg zd))]) a)
theorem An(a:Int×List Int):T a=.leaf (.dat i64 (imax (-1) (Ei 1 (fst a)))) ([(0,.box [.dat i64 (fst a),.dat (zB (zg zd)) (snd a)])]):=by kernel_rfl
end T173
namespace T217
def T(a b:Int×List Int):Tr:=tree tZ false 9 217 (Ah ([zX i64 (zB (zg zd)),zX i64 (zB (zg zd))]) (a,b))
theorem An(a b:Int×List Int):T a b=let a':=(D6 (fst b,snd b),D4 (fst b,snd b));let b':=zB (zg zd);let c':=H3 (fst a,snd a) a';let d':=HF (fst a,snd a) a';.ite (De (fst b,snd b)) (.ite (A8 (fst a,snd a)&&A8 a') (.leaf (zV [.dat i64 c',.dat b' d']) ([(zr (zr 0 1) 1,.box [.dat i64 c',.dat b' d']),(zr 0 1,.box [.dat i64 (fst b),.dat b' (snd b)]),(0,.box [.dat i64 (fst a),.dat b' (snd a)])])) .fail) .fail:=by kernel_rfl
end T217
namespace T154
def T(a b:Int×List Int):Tr:=tree vC false 9 154 (Ah ([zX i64 (zB (zg zd)),zX i64 (zB (zg zd))]) (a,b))
theorem An(a b:Int×List Int):T a b=let c':=(dG (fst a,snd a) (fst b,snd b),Z9 (fst a,snd a) (fst b,snd b));let d':=zB (zg zd);let a':=[(zr 0 1,.box [.dat i64 (fst b),.dat d' (snd b)]),(0,.box [.dat i64 (fst a),.dat d' (snd a)])];let b':Tr:=.ite (A8 (fst a,snd a)&&A8 (fst b,snd b)) (.ite (De c') (.leaf (.dat i64 (Hf c')) a') .fail) .fail;.ite (!decide (0<length (snd a))) (.ite (!decide (0<length (snd b))) (.ite (decide (fst a<fst b)) (.leaf (.dat i64 (-1:Int)) a') (.ite (decide (fst a>fst b)) (.leaf (.dat i64 (1:Int)) a') (.leaf (.dat i64 (0:Int)) a'))) b') b':=by kernel_rfl
end T154
end
end Go.Pe
end
section
namespace Go.Pe
open Sp
open Go.Det
theorem Rn(k:Nat):((Aj^k:Nat):Int)=(Aj:Int)^k:=zR ..
theorem Js{n:Int}{k:Nat}(h0:0≤n)(h:n<(Aj:Int)^k):(Bp n).length≤k:=by
 refine MJ Aj (by decide) k n.toNat n.toNat ?_;rw[←Rn]at h;generalize Aj^k=P at*;omega
theorem CJ{n:Int}{k:Nat}(h0:0≤n)(h:n<(Aj:Int)^k)(hk:k≤20000):B1 (Bp n)=true∧Cv (Bp n)=true∧Al (Bp n)=n:=by
 have h1:=Js h0 h;have h2:Cv (Bp n)=true:=DZ (by omega) (EX (by decide) n);have h3:qV (Bp n)=true:=by
  unfold qV;exact decide_eq_true (VI (by decide) n)
 exact⟨by unfold B1;rw[h2,h3];rfl,h2,CD (by decide) h0⟩
theorem B0{a:AR}(h:A8 a=true):De a=true∧a.2.length≤9000:=by
 unfold A8 at h;rw[zh,decide_eq_true_eq]at h;exact h
theorem T9{s:Int}{w:List Int}(hw:w≠[]):zf (s,w)=if s<0 then -Al w else Al w:=by unfold zf;exact if_neg hw
theorem Ol{a:AR}(h:De a=true):(a.2=[]∧Ag (zf a)≤9223372036854775808)∨(Bp (Ag (zf a))=a.2):=by
 obtain⟨hr,hw⟩:=DA h;obtain⟨s,w⟩:=a;have hr: -9223372036854775808≤s∧s<9223372036854775808:=hr;rcases hw with hw|⟨h1,h2,h3⟩
 ·have hw:w=[]:=hw;subst hw;refine .inl ⟨rfl,?_⟩;rw[Ed];simp only[Ai];omega
 ·obtain⟨n1,n2,n3⟩:=Et (l:=w) h1;have h2:s=1∨s= -1:=h2;have h3:9223372036854775808≤Al w:=h3;have hne:w≠[]:=by rintro rfl;exact absurd h3 (by decide)
  refine .inr ?_;have e1:Ag (zf (s,w))=Al w:=by rw[T9 hne];simp only[Ai];split<;>omega
  rw[e1];exact(HJ (by decide) n2 n3).symm
theorem AE(n:Int):0≤Ag n:=by simp only[Ai];omega
theorem HI{a:AR}(h:De a=true){k:Nat}(hk:a.2.length≤k)(h1:1≤k):Ag (zf a)<(Aj:Int)^k:=by
 rcases Ol h with⟨_,hb⟩|he
 ·have:=AJ (b:=Aj) (by decide) h1;rw[Int.pow_one]at this;have h3:(9223372036854775808:Int)<(Aj:Int):=by decide
  exact zJ hb (Int.lt_of_lt_of_le h3 this)
 ·have hv:=CD (b:=Aj) (by decide) (AE (zf a));have:=Bm (b:=Aj) (by decide) (EX (b:=Aj) (by decide) (Ag (zf a)));rw[hv,show Sp.dg Aj (Ag (zf a))=a.2 from he]at this;exact Int.lt_of_lt_of_le this (AJ (by decide) hk)
theorem Ln{x y:Int}(hx:0≤x)(h1:x<(Aj:Int)^9000)(h2:y<(Aj:Int)^9000):x+y<(Aj:Int)^9001∧x*y<(Aj:Int)^18000:=by
 have e1:(Aj:Int)^9001=(Aj:Int)^9000*Aj:=yw ..;have e2:(Aj:Int)^18000=(Aj:Int)^9000*(Aj:Int)^9000:=Int.pow_add _ 9000 9000;rw[e1,e2];generalize (Aj:Int)^9000=P at*;refine⟨?_,?_⟩
 ·show x+y<P*18446744073709551616;omega
 ·have a:=zD (show y≤P-1 by omega) hx;have b:=zj (show x≤P-1 by omega) (show 0≤P-1 by omega);have c:(P-1)*(P-1)=P*P-P-P+1:=by
   rw[Int.sub_mul,yp];omega
  omega
theorem Dc(n:Bool)(v:Int):yb n v=if n=true then -v else v:=rfl
theorem Cg(n:Int):zf (CF n)=n:=by
 unfold CF;split
 ·exact Ed
 ·have hv:=CD (b:=Aj) (by decide) (AE n);have hne:Bp (Ag n)≠[]:=by
   intro h;rw[show Sp.dg Aj (Ag n)=[]from h]at hv;have:(0:Int)=Ag n:=hv;simp only[Ai]at this;omega
  rw[T9 hne,show Al (Bp (Ag n))=Ag n from hv];simp only[Ai];split<;>split<;>omega
theorem Xe{a:AR}{c:Bool}(h:(!decide (0<a.2.length))=c):(c=true→a.2=[])∧(c=false→a.2≠[]):=by
 subst h;rcases a with⟨s,w⟩
 cases w<;>simp
theorem OB{a:AR}(h:(!decide (0<a.2.length))=true):a.2=[]:=(Xe h).1 rfl
theorem cC{a:AR}(h:(!decide (0<a.2.length))=false):a.2≠[]:=(Xe h).2 rfl
theorem Bn{a:AR}(h:a.2=[]):zf a=a.1:=by unfold zf;exact if_pos h
theorem words{a:AR}(h:A8 a=true):De a=true∧yv (Bp (Ag (zf a)))=true∧B1 (Bp (Ag (zf a)))=true∧Cv (Bp (Ag (zf a)))=true∧Al (Bp (Ag (zf a)))=Ag (zf a)∧Ag (zf a)<(Aj:Int)^9000:=by
 obtain⟨h1,h2⟩:=B0 h;have hb:=HI h1 h2 (by omega);obtain⟨n,d,v⟩:=CJ (AE _) hb (by omega);have hl:=Js (AE _) hb;refine⟨h1,?_,n,d,v,hb⟩;unfold yv;rw[d,zH];exact decide_eq_true hl
theorem Ac{a b:Bool}(h1:a=true)(h2:b=true):(a&&b)=true:=by rw[h1,h2];rfl
theorem J9(n:Int):RX n=if n<0 then -1 else if n>0 then 1 else 0:=rfl
theorem qW{a:AR}(h:De a=true):imax (-1) (Ei 1 a.1)=RX (zf a):=by
 obtain⟨hr,hw⟩:=DA h;obtain⟨s,w⟩:=a;rcases hw with hw|⟨h1,h2,h3⟩
 ·have hw:w=[]:=hw;subst hw;rw[Ed,J9,cR];show imax (-1) (if (1:Int)≤s then 1 else s)=_;unfold imax;split<;>split<;>split<;>(try split)<;>omega
 ·have h2:s=1∨s= -1:=h2;have h3:9223372036854775808≤Al w:=h3;have hne:w≠[]:=by rintro rfl;exact absurd h3 (by decide)
  rw[T9 hne,J9];rcases h2 with rfl|rfl
  ·have e:(if (1:Int)<0 then -Al w else Al w)=Al w:=if_neg (by decide);rw[e,if_neg (show ¬Al w<0 by omega),if_pos (show Al w>0 by omega)];show imax (-1) (Ei 1 1)=1;decide
  ·have e:(if (-1:Int)<0 then -Al w else Al w)= -Al w:=if_pos (by decide);rw[e,if_pos (show -Al w<0 by omega)];show imax (-1) (Ei 1 (-1))= -1;decide
namespace T174
theorem ok:Ae AS 174 Tx:=by
 refine Ax (X:=qC) rfl Rv (d:=9) (by kernel_rfl) (by kernel_rfl) (by kernel_rfl) (fun(a:Int×List Int) ha=>?_) (Ad (by kernel_rfl));have ha:De a=true:=ha;have hn:B1 (Bp (Ag (zf a)))=true∧Al (Bp (Ag (zf a)))=Ag (zf a):=by
  refine⟨?_,CD (by decide) (AE _)⟩;rcases Ol ha with⟨_,hb⟩|he
  ·have:(9223372036854775808:Int)<(Aj:Int)^1:=by decide
   exact(CJ (AE _) (zJ hb this) (by omega)).1
  ·obtain⟨_,hw⟩:=DA ha;rw[he];rcases hw with hw|⟨h1,_⟩
   ·rw[hw];decide+kernel
   ·exact h1
 have hv:yb (!decide (zf a<0)) (Al (Bp (Ag (zf a))))= -zf a:=by
  rw[hn.2,Dc,Ai];rcases zz (zf a) 0 with h|h
  ·rw[decide_eq_true h];simp;omega
  ·rw[decide_eq_false (by omega)];simp;omega
 have hr:=(DA ha).1;refine zL (An a) (zk (fun c=>zk (fun d=>zi (zy rfl rfl ?_)) (fun d=>ze ha (ze hn.1 (zi (zy rfl rfl ?_))))) (fun c=>ze ha (ze hn.1 (zi (zy rfl rfl ?_)))))
 ·have c:=OB c;have d:a.1≠ -9223372036854775808:=by simpa using d
  show(zc .i64 (0-a.1),[])=CT a;unfold CT;rw[if_pos ⟨c,d⟩,wr _ (by omega) (by omega),Int.zero_sub]
 ·have d:a.1= -9223372036854775808:=by simpa using d
  show CF (yb (!decide (zf a<0)) (Al (Bp (Ag (zf a)))))=CT a;unfold CT;rw[if_neg (fun h=>h.2 d),hv]
 ·have c:=cC c;show CF (yb (!decide (zf a<0)) (Al (Bp (Ag (zf a)))))=CT a;unfold CT;rw[if_neg (fun h=>c h.1),hv]
end T174
namespace T158
theorem ok:Ae AS 158 OD:=by
 refine Ax (X:=qC) rfl Rv (d:=9) (by kernel_rfl) (by kernel_rfl) (by kernel_rfl) (fun(i:(Int×List Int)×(Int×List Int)) hi=>?_) (Ad (by kernel_rfl));obtain⟨a,b⟩:=i;have hi:(A8 a&&A8 b)=true:=hi;rw[zh]at hi;obtain⟨a1,a2,a3,a4,a5,a6⟩:=words hi.1;obtain⟨b1,b2,b3,b4,b5,b6⟩:=words hi.2;have hra:=(DA a1).1;have hrb:=(DA b1).1;have na:=AE (zf a);have nb:=AE (zf b);obtain⟨t1,_⟩:=Ln na a6 b6;have hq:∀v ob,D9 a b=CF v→Af OD (a,b) (.agg [.dat i64 (Cn v),.dat (.nlist (.int .u64)) (Cm v)]) ob:=fun v ob h=>zy rfl rfl (by
  show CF v=D9 a b;rw[h])
 have mono:(Aj:Int)^9000≤(Aj:Int)^9001:=AJ (by decide) (by omega);have slow1:decide (zf a<0)=decide (zf b<0)→yb (decide (zf a<0)) (Al (Bp (Al (Bp (Ag (zf a)))+Al (Bp (Ag (zf b))))))=zf a+zf b:=by
  intro e;rw[a5,b5,show Al (Bp (Ag (zf a)+Ag (zf b)))=_ from CD (by decide) (by omega),Dc,Ai,Ai];rcases zz (zf a) 0 with h|h
  ·rw[decide_eq_true h]at e ⊢;have:=of_decide_eq_true e.symm;simp only[if_true];omega
  ·rw[decide_eq_false (by omega)]at e ⊢;have:=of_decide_eq_false e.symm;simp only[yc,if_false];omega
 have slow2:decide (zf a<0)≠decide (zf b<0)→Ag (zf b)≤Ag (zf a)→yb (decide (zf a<0)) (Al (Bp (Al (Bp (Ag (zf a)))-Al (Bp (Ag (zf b))))))=zf a+zf b:=by
  intro e hle;rw[a5,b5,show Al (Bp (Ag (zf a)-Ag (zf b)))=_ from CD (by decide) (by omega),Dc,Ai,Ai];rcases zz (zf a) 0 with h|h
  ·rw[decide_eq_true h]at e ⊢;have:¬zf b<0:=fun h=>e (decide_eq_true h).symm
   simp only[if_true];omega
  ·rw[decide_eq_false (by omega)]at e ⊢;have:zf b<0:=by
    rcases zz (zf b) 0 with h|h
    ·exact h
    ·exact absurd (decide_eq_false (by omega)).symm e
   simp only[yc,if_false];omega
 have slow3:decide (zf a<0)≠decide (zf b<0)→Ag (zf a)≤Ag (zf b)→yb (decide (zf b<0)) (Al (Bp (Al (Bp (Ag (zf b)))-Al (Bp (Ag (zf a))))))=zf a+zf b:=by
  intro e hle;rw[a5,b5,show Al (Bp (Ag (zf b)-Ag (zf a)))=_ from CD (by decide) (by omega),Dc,Ai,Ai];rcases zz (zf b) 0 with h|h
  ·rw[decide_eq_true h]at e ⊢;have:¬zf a<0:=fun h=>e (decide_eq_true h)
   simp only[if_true];omega
  ·rw[decide_eq_false (show ¬zf b<0 by omega)]at e ⊢;have:zf a<0:=by
    rcases zz (zf a) 0 with h|h
    ·exact h
    ·exact absurd (decide_eq_false (by omega)) e
   simp only[yc,if_false];omega
 have n1:B1 (Bp (Al (Bp (Ag (zf a)))+Al (Bp (Ag (zf b)))))=true:=by
  rw[a5,b5];exact(CJ (by omega) t1 (by omega)).1
 have n2:Ag (zf b)≤Ag (zf a)→B1 (Bp (Al (Bp (Ag (zf a)))-Al (Bp (Ag (zf b)))))=true:=by
  intro h;rw[a5,b5];exact(CJ (by omega) (zJ (by omega) a6) (by omega)).1
 have n3:Ag (zf a)≤Ag (zf b)→B1 (Bp (Al (Bp (Ag (zf b)))-Al (Bp (Ag (zf a)))))=true:=by
  intro h;rw[a5,b5];exact(CJ (by omega) (zJ (by omega) b6) (by omega)).1
 have cge:∀ {c:Bool},decide (BW (Al (Bp (Ag (zf a)))) (Al (Bp (Ag (zf b))))≥0)=c→(c=true→Ag (zf b)≤Ag (zf a))∧(c=false→Ag (zf a)≤Ag (zf b)):=by
  intro c h;subst h;rw[a5,b5,decide_eq_true_eq,decide_eq_false_iff_not];unfold BW;constructor
  ·intro h;split at h<;>omega
  ·intro h;split at h
   ·omega
   ·split at h<;>omega
 refine zL (An a b) (zk (fun c1=>zk (fun c2=>zk (fun c3=>zi (zy rfl rfl ?_)) (fun c3=>?_)) (fun c2=>?_)) (fun c1=>?_))
 ·have c1:=OB c1;have c2:=OB c2;have hs:zc .i64 (a.1+b.1)=a.1+b.1:=by
   rw[beq_iff_eq]at c3;rcases zz (a.1+b.1) (-9223372036854775808)with h|h
   ·exfalso;have e:zc .i64 (a.1+b.1)=a.1+b.1+18446744073709551616:=by rw[yg];omega
    rw[e,decide_eq_true (by omega),decide_eq_false (by omega)]at c3;cases c3
   ·rcases zz (a.1+b.1) 9223372036854775808 with h2|h2
    ·exact wr _ (by omega) (by omega)
    ·exfalso;have e:zc .i64 (a.1+b.1)=a.1+b.1-18446744073709551616:=by rw[yg];omega
     rw[e,decide_eq_false (by omega),decide_eq_true (by omega)]at c3;cases c3
  have hr:CS (a.1+b.1)=true:=by
   have: -9223372036854775808≤zc .i64 (a.1+b.1)∧zc .i64 (a.1+b.1)<9223372036854775808:=by rw[yg];omega
   rw[hs]at this;unfold CS;rw[zh,decide_eq_true_eq,decide_eq_true_eq];exact this
  show(zc .i64 (a.1+b.1),[])=D9 a b;unfold D9;rw[if_pos ⟨c1,c2,hr⟩,hs]
 all_goals
  have hm:D9 a b=CF (zf a+zf b):=by
   unfold D9;refine if_neg (fun h=>?_);obtain⟨h1,h2,h3⟩:=h;first
    |exact cC c1 h1
    |exact cC c2 h2
    |(have h3:=El h3
      have hs:zc .i64 (a.1+b.1)=a.1+b.1:=wr _ (by omega) (by omega);rw[hs,beq_eq_false_iff_ne]at c3;refine c3 ?_;rcases zz 0 b.1 with h|h
      ·rw[decide_eq_true (show a.1+b.1>a.1 by omega),decide_eq_true h]
      ·rw[decide_eq_false (show ¬a.1+b.1>a.1 by omega),decide_eq_false (show ¬b.1>0 by omega)])
  refine ze a1 (ze b1 (zk (fun e=>ze (Ac a2 b2) (ze n1 (zi (hq _ _ ?_)))) (fun e=>ze (Ac a3 b3) (zk (fun d=>ze ?_ (ze (n2 ((cge d).1 rfl)) (zi (hq _ _ ?_)))) (fun d=>ze ?_ (ze (n3 ((cge d).2 rfl)) (zi (hq _ _ ?_))))))))
  ·rw[hm];exact congrArg _ (slow1 (by simpa using e)).symm
  ·refine Ac (Ac a4 b4) (decide_eq_true ?_);rw[a5,b5];exact(cge d).1 rfl
  ·rw[hm];exact congrArg _ (slow2 (by simpa using e) ((cge d).1 rfl)).symm
  ·refine Ac (Ac b4 a4) (decide_eq_true ?_);rw[a5,b5];exact(cge d).2 rfl
  ·rw[hm];exact congrArg _ (slow3 (by simpa using e) ((cge d).2 rfl)).symm
end T158
end Go.Pe
end
section
namespace Go.Pe
open Sp
open Go.Det
theorem Du{n:Int}(h1: -9223372036854775808≤n)(h2:n<9223372036854775808):CS n=true:=by
 unfold CS;rw[zh,decide_eq_true_eq,decide_eq_true_eq];exact⟨h1,h2⟩
theorem MT{n:Int}(h:CS n=true):De (n,[])=true:=by
 unfold De;rw[h];rfl
theorem ML{n:Int}{k:Nat}(h:Ag n<(Aj:Int)^k)(hk:k≤20000):De (CF n)=true∧(CF n).2.length≤k:=by
 unfold CF;split
 ·next c=>exact⟨MT (Du (by omega) (by omega)),Nat.zero_le _⟩
 ·next c=>
  obtain⟨n1,n2,n3⟩:=CJ (AE n) h hk;refine⟨?_,Js (AE n) h⟩;have hb:9223372036854775808≤Ag n:=by rw[Ai];omega
  unfold De;refine Ac (Du ?_ ?_) ?_
  ·show -9223372036854775808≤(if n<0 then -1 else 1);split<;>decide
  ·show(if n<0 then -1 else 1)<9223372036854775808;split<;>decide
  ·rw[ym];refine .inr (Ac (Ac n1 ?_) (decide_eq_true (by show _≤Al (Bp (Ag n));rw[n3];exact hb)));show(decide ((if n<0 then(-1:Int)else 1)=1)||decide ((if n<0 then(-1:Int)else 1)= -1))=true;split<;>rfl
theorem HW(a:AR):zf (CT a)= -zf a:=by
 unfold CT;split
 ·next h=>rw[Ed,Bn h.1]
 ·exact Cg _
theorem HG(n:Int):Ag (-n)=Ag n:=by rw[Ai,Ai];omega
theorem Ub{a:AR}(h:De a=true){k:Nat}(h1:1≤k)(hk:k≤20000)(hl:a.2.length≤k):De (CT a)=true∧(CT a).2.length≤k:=by
 have hr:=(DA h).1;unfold CT;split
 ·next c=>exact⟨MT (Du (by omega) (by omega)),Nat.zero_le _⟩
 ·exact ML (by rw[HG];exact HI h hl h1) hk
theorem S8{a:AR}(h:A8 a=true):A8 (CT a)=true:=by
 obtain⟨h1,h2⟩:=B0 h;obtain⟨h3,h4⟩:=Ub h1 (k:=9000) (by omega) (by omega) h2;unfold A8;exact Ac h3 (decide_eq_true h4)
theorem jD{a:AR}(h:De a=true):a.1<0↔zf a<0:=by
 obtain⟨_,hw⟩:=DA h;obtain⟨s,w⟩:=a;rcases hw with hw|⟨_,h2,h3⟩
 ·have hw:w=[]:=hw;subst hw;rw[Ed]
 ·have h2:s=1∨s= -1:=h2;have h3:9223372036854775808≤Al w:=h3;have hne:w≠[]:=by rintro rfl;exact absurd h3 (by decide)
  rw[T9 hne];show s<0↔_;split<;>omega
theorem Vs(a b:AR):zf (D9 a b)=zf a+zf b:=by
 unfold D9;split
 ·next h=>rw[Ed,Bn h.1,Bn h.2.1]
 ·exact Cg _
theorem jA(x y:Int):Ag (x+y)≤Ag x+Ag y:=by
 rw[Ai,Ai,Ai];omega
theorem Ip(x y:Int):Ag (x*y)=Ag x*Ag y:=by
 rw[Ai,Ai,Ai,Int.natAbs_mul,zW]
theorem bounds{a:AR}(h:A8 a=true):Ag (zf a)<(Aj:Int)^9000:=(words h).2.2.2.2.2
theorem QZ{a b:AR}(ha:A8 a=true)(hb:A8 b=true):De (D9 a b)=true:=by
 unfold D9;split
 ·next h=>exact MT h.2.2
 ·exact(ML (zJ (jA _ _) (Ln (AE _) (bounds ha) (bounds hb)).1) (by omega)).1
theorem YZ(a b:AR):zf (Ml a b)=zf a-zf b:=by
 unfold Ml;rw[Vs,HW];omega
theorem Dd(a b:AR):zf (EK a b)=zf a*zf b:=Cg _
theorem Xg:∀g sp,tZ.sp g=some sp→Ae AS g sp:=
 Aa T174.ok (Aa T158.ok (fun g sp h=>by cases h))
namespace T173
theorem ok:Ae AS 173 Jt:=by
 refine Ax (X:=S7) rfl IA (d:=9) (by kernel_rfl) (by kernel_rfl) (by kernel_rfl) (fun(a:Int×List Int) ha=>?_) (Ad (by kernel_rfl));have ha:De a=true:=ha;exact zL (An a) (zi (zy rfl rfl (qW ha)))
end T173
namespace T212
theorem ok:Ae AS 212 mO:=by
 refine Ax (X:=tZ) rfl Xg (d:=9) (by kernel_rfl) (by kernel_rfl) (by kernel_rfl) (fun(a:Int×List Int) ha=>?_) (Ad (by kernel_rfl));have ha:De a=true:=ha;refine zL (An a) (zk (fun c=>ze ha (zi (zy rfl rfl ?_))) (fun c=>zi (zy rfl rfl ?_)))
 ·show CT a=Tn a;unfold Tn;rw[if_pos (of_decide_eq_true c)]
 ·show a=Tn a;unfold Tn;rw[if_neg (of_decide_eq_false c)]
end T212
namespace T217
theorem ok:Ae AS 217 Zt:=by
 refine Ax (X:=tZ) rfl Xg (d:=9) (by kernel_rfl) (by kernel_rfl) (by kernel_rfl) (fun(i:(Int×List Int)×(Int×List Int)) hi=>?_) (Ad (by kernel_rfl));obtain⟨a,b⟩:=i;have hi:(A8 a&&A8 b)=true:=hi;rw[zh]at hi;exact zL (An a b) (ze (B0 hi.2).1 (ze (Ac hi.1 (S8 hi.2)) (zi (zy rfl rfl rfl))))
end T217
theorem kS:∀g sp,vC.sp g=some sp→Ae AS g sp:=
 Aa T217.ok (Aa T173.ok (fun g sp h=>by cases h))
theorem iF(x y:Int):RX (x-y)=BW x y:=by
 unfold RX BW;split
 ·rw[if_pos (by omega)]
 ·split
  ·rw[if_neg (by omega),if_pos (by omega)]
  ·rw[if_neg (by omega),if_neg (by omega)]
namespace T154
theorem ok:Ae AS 154 dC:=by
 refine Ax (X:=vC) rfl kS (d:=9) (by kernel_rfl) (by kernel_rfl) (by kernel_rfl) (fun(i:(Int×List Int)×(Int×List Int)) hi=>?_) (Ad (by kernel_rfl));obtain⟨a,b⟩:=i;have hi:(A8 a&&A8 b)=true:=hi;have hi2:=hi;rw[zh]at hi2;have hs:De (Ml a b)=true:=by
  unfold Ml;exact QZ hi2.1 (S8 hi2.2)
 have hv:Hf (Ml a b)=Xo a b:=by
  show RX (zf (Ml a b))=BW (zf a) (zf b);rw[YZ,iF]
 refine zL (An a b) (zk (fun c1=>zk (fun c2=>zk (fun d=>zi (zy rfl rfl ?_)) (fun d=>zk (fun e=>zi (zy rfl rfl ?_)) (fun e=>zi (zy rfl rfl ?_)))) (fun c2=>ze hi (ze hs (zi (zy rfl rfl hv))))) (fun c1=>ze hi (ze hs (zi (zy rfl rfl hv)))));all_goals
  have e1:=Bn (OB c1);have e2:=Bn (OB c2);show _=BW (zf a) (zf b);rw[e1,e2];unfold BW
 ·rw[if_pos (of_decide_eq_true d)]
 ·rw[if_neg (of_decide_eq_false d),if_pos (of_decide_eq_true e)]
 ·rw[if_neg (of_decide_eq_false d),if_neg (of_decide_eq_false e)]
end T154
theorem QY(x y:Int):x*y=yb (!(decide (x<0)==decide (y<0))) (Ag x*Ag y):=by
 unfold Ag;rw[Dc];by_cases h1:x<0<;>by_cases h2:y<0<;>simp[h1,h2,Int.neg_mul,Int.mul_neg]
namespace T159
theorem ok:Ae AS 159 PA:=by
 refine Ax (X:=qC) rfl Rv (d:=9) (by kernel_rfl) (by kernel_rfl) (by kernel_rfl) (fun(i:(Int×List Int)×(Int×List Int)) hi=>?_) (Ad (by kernel_rfl));obtain⟨a,b⟩:=i;have hi:(A8 a&&A8 b)=true:=hi;rw[zh]at hi;obtain⟨a1,a2,a3,a4,a5,a6⟩:=words hi.1;obtain⟨b1,b2,b3,b4,b5,b6⟩:=words hi.2;have hra:=(DA a1).1;have hrb:=(DA b1).1;have na:=AE (zf a);have nb:=AE (zf b);obtain⟨_,t2⟩:=Ln na a6 b6;have np:0≤Ag (zf a)*Ag (zf b):=zq na nb;have n1:B1 (Bp (Al (Bp (Ag (zf a)))*Al (Bp (Ag (zf b)))))=true:=by
  rw[a5,b5];exact(CJ np t2 (by omega)).1
 have hv:yb (!(decide (zf a<0)==decide (zf b<0))) (Al (Bp (Al (Bp (Ag (zf a)))*Al (Bp (Ag (zf b))))))=zf a*zf b:=by
  rw[a5,b5,show Al (Bp (Ag (zf a)*Ag (zf b)))=_ from CD (by decide) np, ←QY]
 have hq:∀ob,Af PA (a,b) (.agg [.dat i64 (Cn (yb (!(decide (zf a<0)==decide (zf b<0))) (Al (Bp (Al (Bp (Ag (zf a)))*Al (Bp (Ag (zf b)))))))),.dat (.nlist (.int .u64)) (Cm (yb (!(decide (zf a<0)==decide (zf b<0))) (Al (Bp (Al (Bp (Ag (zf a)))*Al (Bp (Ag (zf b))))))))]) ob:=fun ob=>zy rfl rfl (by
  show CF _=CF (zf a*zf b);rw[hv])
 have ua:zp (Ag a.1)=true:=Cu (AE _) (by rw[Ai];omega);have ub:zp (Ag b.1)=true:=Cu (AE _) (by rw[Ai];omega);refine zL (An a b) (zk (fun c1=>zk (fun c2=>ze (Du hra.1 hra.2) (ze (Du hrb.1 hrb.2) (ze (Ac ua ub) (zk (fun c3=>zk (fun c4=>zk (fun c5=>zi (zy rfl rfl ?_)) (fun c5=>zi (zy rfl rfl ?_))) (fun c4=>?_)) (fun c3=>?_))))) (fun c2=>?_)) (fun c1=>?_))
 ·have e1:=Bn (OB c1);have e2:=Bn (OB c2);have c3:(Ag a.1*Ag b.1)/18446744073709551616=0:=by simpa [PQ]using c3
  have c4:(Ag a.1*Ag b.1) % 18446744073709551616≤9223372036854775807:=of_decide_eq_true c4;have p0:0≤Ag a.1*Ag b.1:=zq (AE _) (AE _);have hm:=QY a.1 b.1;have c5:(!(decide (a.1<0)==decide (b.1<0)))=true:=c5;rw[c5,Dc,if_pos rfl]at hm;show(zc .i64 (0-zc .i64 ((Ag a.1*Ag b.1) % 18446744073709551616)),[])=CF (zf a*zf b);rw[e1,e2,hm,BT (by omega),wr ((Ag a.1*Ag b.1) % 18446744073709551616) (by omega) (by omega),wr _ (by omega) (by omega)];congr 1;omega
 ·have e1:=Bn (OB c1);have e2:=Bn (OB c2);have c3:(Ag a.1*Ag b.1)/18446744073709551616=0:=by simpa [PQ]using c3
  have c4:(Ag a.1*Ag b.1) % 18446744073709551616≤9223372036854775807:=of_decide_eq_true c4;have p0:0≤Ag a.1*Ag b.1:=zq (AE _) (AE _);have hm:=QY a.1 b.1;have c5:(!(decide (a.1<0)==decide (b.1<0)))=false:=c5;rw[c5,Dc,if_neg (by decide)]at hm;show(zc .i64 ((Ag a.1*Ag b.1) % 18446744073709551616),[])=CF (zf a*zf b);rw[e1,e2,hm,BT (by omega),wr ((Ag a.1*Ag b.1) % 18446744073709551616) (by omega) (by omega)];congr 1;omega
 all_goals exact ze a1 (ze b1 (ze (Ac a2 b2) (ze n1 (zi (hq _)))))
end T159
end Go.Pe
end
section
namespace Go.Sp
def Er(n:Int):Int:=if n≤0 then 0 else(n.toNat.log2:Int)+1
def lz(n:Int):Int:=64-Er n
def dq(h l y:Int):Int:=(h*18446744073709551616+l)/y
def dr(h l y:Int):Int:=(h*18446744073709551616+l) % y
end Go.Sp
namespace Go.Pe
open Go.Det
noncomputable section
noncomputable def Vk:Ao:=⟨[u64],fun n=>zp n,[i64],fun n=>Sp.Er n,false⟩
noncomputable def sC:Ao:=⟨[u64],fun n=>zp n,[i64],fun n=>Sp.lz n,false⟩
noncomputable def RE:Ao:=⟨[u64,u64,u64],fun i=>zp i.1&&zp i.2.1&&zp i.2.2&&decide ((i.1:Int)<i.2.2),[u64,u64],fun i=>(Sp.dq i.1 i.2.1 i.2.2,Sp.dr i.1 i.2.1 i.2.2),false⟩
noncomputable def uZ:A9:=X7 [(247,Vk)]
noncomputable def bW:A9:=X7 [(272,sC)]
end
noncomputable section
open List Int Prod
namespace T247
def T(x:Int):Tr:=tree S7 false 9 247 (Ah ([zg zd]) x)
theorem An(x:Int):T x=let a':=([0,1,2,2,3,3,3,3,4,4,4,4,4,4,4,4,5,5,5,5,5,5,5,5,5,5,5,5,5,5,5,5,6,6,6,6,6,6,6,6,6,6,6,6,6,6,6,6,6,6,6,6,6,6,6,6,6,6,6,6,6,6,6,6,7,7,7,7,7,7,7,7,7,7,7,7,7,7,7,7,7,7,7,7,7,7,7,7,7,7,7,7,7,7,7,7,7,7,7,7,7,7,7,7,7,7,7,7,7,7,7,7,7,7,7,7,7,7,7,7,7,7,7,7,7,7,7,7,8,8,8,8,8,8,8,8,8,8,8,8,8,8,8,8,8,8,8,8,8,8,8,8,8,8,8,8,8,8,8,8,8,8,8,8,8,8,8,8,8,8,8,8,8,8,8,8,8,8,8,8,8,8,8,8,8,8,8,8,8,8,8,8,8,8,8,8,8,8,8,8,8,8,8,8,8,8,8,8,8,8,8,8,8,8,8,8,8,8,8,8,8,8,8,8,8,8,8,8,8,8,8,8,8,8,8,8,8,8,8,8,8,8,8,8,8,8,8,8,8,8,8,8,8,8,8,8]:List UInt8);let b':=zm x (2^32);let c':=(0:Sh.T (zg yu));let e':=zm x (2^16);let i':=zm x (2^8);let d':=zm b' (2^16);let g':=zm b' (2^8);let h':=zm e' (2^8);let f':=zm d' (2^8);.ite (decide (x≥4294967296)) (.ite true (.ite (decide (zm x (2^32)≥65536)) (.ite true (.ite (decide (zm b' (2^16)≥256)) (.ite true (.ite (decide (c'≤zc .u8 f')&&decide (zc .u8 f'<(↑256:Int))) (.leaf (.dat i64 (zc .i64 (zc .i64 (zc .i64 (32+16)+8)+zc .i64 (↑(zI (getD a' (toNat (zc .u8 f')) (0:UInt8))):Int)))) []) .fail) .fail) (.ite (decide (c'≤zc .u8 d')&&decide (zc .u8 d'<(↑256:Int))) (.leaf (.dat i64 (zc .i64 (zc .i64 (32+16)+zc .i64 (↑(zI (getD a' (toNat (zc .u8 d')) (0:UInt8))):Int)))) []) .fail)) .fail) (.ite (decide (zm x (2^32)≥256)) (.ite true (.ite (decide (c'≤zc .u8 g')&&decide (zc .u8 g'<(↑256:Int))) (.leaf (.dat i64 (zc .i64 (zc .i64 (32+8)+zc .i64 (↑(zI (getD a' (toNat (zc .u8 g')) (0:UInt8))):Int)))) []) .fail) .fail) (.ite (decide (c'≤zc .u8 b')&&decide (zc .u8 b'<(↑256:Int))) (.leaf (.dat i64 (zc .i64 (32+zc .i64 (↑(zI (getD a' (toNat (zc .u8 b')) (0:UInt8))):Int)))) []) .fail))) .fail) (.ite (decide (x≥65536)) (.ite true (.ite (decide (zm x (2^16)≥256)) (.ite true (.ite (decide (c'≤zc .u8 h')&&decide (zc .u8 h'<(↑256:Int))) (.leaf (.dat i64 (zc .i64 (zc .i64 (zc .i64 (0+16)+8)+zc .i64 (↑(zI (getD a' (toNat (zc .u8 h')) (0:UInt8))):Int)))) []) .fail) .fail) (.ite (decide (c'≤zc .u8 e')&&decide (zc .u8 e'<(↑256:Int))) (.leaf (.dat i64 (zc .i64 (zc .i64 (0+16)+zc .i64 (↑(zI (getD a' (toNat (zc .u8 e')) (0:UInt8))):Int)))) []) .fail)) .fail) (.ite (decide (x≥256)) (.ite true (.ite (decide (c'≤zc .u8 i')&&decide (zc .u8 i'<(↑256:Int))) (.leaf (.dat i64 (zc .i64 (zc .i64 (0+8)+zc .i64 (↑(zI (getD a' (toNat (zc .u8 i')) (0:UInt8))):Int)))) []) .fail) .fail) (.ite (decide (c'≤zc .u8 x)&&decide (zc .u8 x<(↑256:Int))) (.leaf (.dat i64 (zc .i64 (0+zc .i64 (↑(zI (getD a' (toNat (zc .u8 x)) (0:UInt8))):Int)))) []) .fail))):=by kernel_rfl
end T247
namespace T272
def T(x:Int):Tr:=tree uZ false 9 272 (Ah ([zg zd]) x)
theorem An(x:Int):T x=.ite (zp x) (.leaf (.dat i64 (zc .i64 (64-Sp.Er x))) []) .fail:=by kernel_rfl
end T272
namespace T271
def T(hi lo y:Int):Tr:=tree bW false 9 271 (Ah ([zg zd,zg zd,zg zd]) (hi,lo,y))
def L1(v2 v8 v9 v10 v11 v13 v14 v15 v16:Int):Tr:=re ((T 0 0 0).R.R.R.L.L.L.L.L.L.L.L) (AI 135 [(2,.dat (zg zd) v2),(8,.dat (zg zd) v8),(9,.dat (zg zd) v9),(10,.dat (zg zd) v10),(11,.dat (zg zd) v11),(13,.dat (zg zd) v13),(14,.dat (zg zd) v14),(15,.dat (zg zd) v15),(16,.dat (zg zd) v16)] [] 0)
theorem An(hi lo y:Int):T hi lo y=let e':=decide (0≤zc .u64 (Sp.lz y));let i':=64-zc .u64 (Sp.lz y);let j':=zc .u64 (Sp.lz y);let c':=toNat j';let d':=zm lo (2^yi (toNat (zc .u64 i')) 64);let a':=zc .u64 (y*2^yi c' 64);let f':=zc .u64 (lo*2^yi c' 64);let g':=zc .u64 (hi*2^yi c' 64);let b':=XW zd g' d';let h':=zm a' (2^32);.ite (y==0) .fail (.ite (decide (y≤hi)) .fail (.ite (hi==0) (.ite (decide (y≠0)) (.ite (decide (y≠0)) (.leaf (.tup [.dat (zg zd) (zc .u64 (zY lo y)),.dat (zg zd) (Int.tmod lo y)]) []) .fail) .fail) (.ite (zp y) (.ite e' (.ite true (.ite e' (.ite (decide (0≤zc .u64 i')) (.ite e' (.ite true (.ite (decide (zm a' (2^32)≠0)) (L1 a' j' h' (G5 zd a' 4294967295) b' (zm f' (2^32)) (G5 zd f' 4294967295) (zc .u64 (zY b' h')) (zc .u64 (XW zd g' d'-zc .u64 (zc .u64 (zY b' h')*zm a' (2^32))))) .fail) .fail) .fail) .fail) .fail) .fail) .fail) .fail))):=by kernel_rfl
def L2(v2 v8 v9 v10 v14 v15 v16 v17 v18:Int):Tr:=re ((stepT bW (L1 0 0 0 0 0 0 0 0 0)).L.L.L) (AI 135 [(2,.dat (zg zd) v2),(8,.dat (zg zd) v8),(9,.dat (zg zd) v9),(10,.dat (zg zd) v10),(14,.dat (zg zd) v14),(15,.dat (zg zd) v15),(16,.dat (zg zd) v16),(17,.dat (zg zd) v17),(18,.dat (zg zd) v18)] [] 0)
theorem Au(v2 v8 v9 v10 v11 v13 v14 v15 v16:Int):stepT bW (L1 v2 v8 v9 v10 v11 v13 v14 v15 v16)=let f':=zc .u64 (v11*4294967296)+v13;let g':=zc .u64 (v15-1);let b':=zc .u64 f'-zc .u64 (zc .u64 (v15-1)*v2);let c':=zc .u64 f'-zc .u64 (v15*v2);let d':=zc .u64 c';let e':=zc .u64 b';let a':Tr:=.ite (decide (zc .u64 (v16+v9)≥4294967296)) (.ite (decide (v9≠0)) (L2 v2 v8 v9 v10 v14 g' (zc .u64 (zc .u64 b'-zc .u64 (zc .u64 (zY e' v9)*v9))) e' (zc .u64 (zY e' v9))) .fail) (L1 v2 v8 v9 v10 v11 v13 v14 g' (zc .u64 (v16+v9)));.ite (decide (v15≥4294967296)) a' (.ite (decide (zc .u64 (v15*v10)>zc .u64 (zc .u64 (4294967296*v16)+v13))) a' (.ite (decide (v9≠0)) (L2 v2 v8 v9 v10 v14 v15 (zc .u64 (zc .u64 c'-zc .u64 (zc .u64 (zY d' v9)*v9))) d' (zc .u64 (zY d' v9))) .fail)):=by kernel_rfl
theorem A4(v2 v8 v9 v10 v14 v15 v16 v17 v18:Int):stepT bW (L2 v2 v8 v9 v10 v14 v15 v16 v17 v18)=let b':=zg zd;let c':=zc .u64 (v17*4294967296)+v14;let d':=2^yi (toNat v8) 64;let a':Tr:=.ite (decide (zc .u64 (v16+v9)≥4294967296)) (.ite (decide (0≤v8)) (.leaf (.tup [.dat b' (zc .u64 (zc .u64 (v15*4294967296)+zc .u64 (v18-1))),.dat b' (zm (zc .u64 (zc .u64 c'-zc .u64 (zc .u64 (v18-1)*v2))) d')]) []) .fail) (L2 v2 v8 v9 v10 v14 v15 (zc .u64 (v16+v9)) v17 (zc .u64 (v18-1)));.ite (decide (v18≥4294967296)) a' (.ite (decide (zc .u64 (v18*v10)>zc .u64 (zc .u64 (4294967296*v16)+v14))) a' (.ite (decide (0≤v8)) (.leaf (.tup [.dat b' (zc .u64 (zc .u64 (v15*4294967296)+v18)),.dat b' (zm (zc .u64 (zc .u64 c'-zc .u64 (v18*v2))) d')]) []) .fail)):=by kernel_rfl
end T271
end
namespace T271
variable {Q:PV→Ob→Prop}
def Exact(Y u w q:Int):Prop:=q*Y≤u*4294967296+w∧u*4294967296+w<(q+1)*Y
theorem V9{Y y1 y0 u w q r:Int}(hY:Y=y1*4294967296+y0)(he:q*y1+r=u)(h:q*y0>4294967296*r+w):u*4294967296+w<q*Y:=by
 subst hY;rw[zG, ←zu];generalize q*y1=A at*;generalize q*y0=C at*;omega
theorem Ku{Y y1 y0 u w q r:Int}(hY:Y=y1*4294967296+y0)(he:q*y1+r=u)(h:q*y0≤4294967296*r+w):q*Y≤u*4294967296+w:=by
 subst hY;rw[zG, ←zu];generalize q*y1=A at*;generalize q*y0=C at*;omega
theorem Tt{Y u w q:Int}(hu:u<Y)(hY:0≤Y)(hw:w<4294967296)(hq:4294967296≤q):u*4294967296+w<q*Y:=by
 have:=zj hq hY;omega
theorem TK{y1 y0 u w r:Int}{n:Nat}{Y:Int}(hY:Y=y1*4294967296+y0)(h1:0≤y1)(h0:0≤y0∧y0<4294967296)(hu:u<Y)(hw:0≤w)(he:(n:Int)*y1+r=u)(hr:4294967296≤r):(n:Int)*Y≤u*4294967296+w:=by
 have hn:(n:Int)<4294967296:=by
  rcases zz (n:Int) 4294967296 with h|h
  ·exact h
  ·have:=zj h h1;omega
 refine Ku hY he ?_;have a:=zj (show(n:Int)≤4294967295 by omega) h0.1;omega
theorem Am(Y s y1 y0 u w z:Int)(hY:Y=y1*4294967296+y0)(h1:0<y1∧y1<4294967296)(h0:0≤y0∧y0<4294967296)(hu:u<Y)(hw:0≤w∧w<4294967296)
  (hx:∀q:Int,0≤q→Exact Y u w q→Ends bW (L2 Y s y1 y0 z q (zc zd (zc zd (zc zd (zc zd (u*(4294967296:Int))+w)-zc zd (q*Y))-zc zd (zc zd (zY (zc zd (zc zd (zc zd (u*(4294967296:Int))+w)-zc zd (q*Y))) y1)*y1))) (zc zd (zc zd (zc zd (u*(4294967296:Int))+w)-zc zd (q*Y))) (zc zd (zY (zc zd (zc zd (zc zd (u*(4294967296:Int))+w)-zc zd (q*Y))) y1))) Q):
  ∀(n:Nat) (r:Int),(n:Int)<18446744073709551616→(n:Int)*y1+r=u→0≤r→r<4294967296→u*4294967296+w<((n:Int)+1)*Y→Ends bW (L1 Y s y1 y0 u w z n r) Q:=by
 intro n;induction n with
 |zero=>
  intro r hn he r0 r1 hup;have hz:decide (y1≠0)=true:=decide_eq_true (by omega);refine zQ (Au ..) (zO (by simp) (zO (decide_eq_false ?_) (ze hz (hx _ (by omega) ⟨?_,hup⟩))))
  ·rw[show((0:Nat):Int)*y0=0 by simp,wu 0 (by omega) (by omega),wu (4294967296*r) (by omega) (by omega),wu _ (by omega) (by omega)];omega
  ·exact Ku hY he (by rw[show((0:Nat):Int)*y0=0 by simp];omega)
 |succ n ih=>
  intro r hn he r0 r1 hup;have hz:decide (y1≠0)=true:=decide_eq_true (by omega);have e1:zc .u64 (((n+1:Nat):Int)-1)=(n:Int):=by rw[wu _ (by omega) (by omega)];omega
  have e2:zc .u64 (r+y1)=r+y1:=wu _ (by omega) (by omega);have hY0:0≤Y:=by omega
  have he':(n:Int)*y1+(r+y1)=u:=by
   rw[show((n+1:Nat):Int)=(n:Int)+1 by omega,zA,zP]at he;omega
  have ec:((n+1:Nat):Int)=(n:Int)+1:=by omega
  have dec:u*4294967296+w<((n:Int)+1)*Y→r+y1<4294967296→Ends bW (L1 Y s y1 y0 u w z n (r+y1)) Q:=fun h1' h2'=>
   ih (r+y1) (by omega) he' (by omega) h2' h1'
  have cut:u*4294967296+w<((n:Int)+1)*Y→4294967296≤r+y1→Exact Y u w n:=fun h1' h2'=>
   ⟨TK hY (by omega) h0 hu hw.1 he' h2',h1'⟩
  refine zQ (Au ..) ?_;conv=>zeta
  rw[e1,e2];refine zk (fun c=>?_) (fun c=>zk (fun d=>?_) (fun d=>?_))
  ·have c:=of_decide_eq_true c;have hb:u*4294967296+w<((n:Int)+1)*Y:=by rw[←ec];exact Tt hu hY0 hw.2 c
   exact zk (fun e=>ze hz (hx _ (by omega) (cut hb (of_decide_eq_true e)))) (fun e=>dec hb (by have:=of_decide_eq_false e;omega))
  ·have c:=of_decide_eq_false c;have d:=of_decide_eq_true d;have a:=zj (show((n+1:Nat):Int)≤4294967295 by omega) h0.1;have b:=zq (show 0≤((n+1:Nat):Int)by omega) h0.1;rw[wu (((n+1:Nat):Int)*y0) (by omega) (by omega),wu (4294967296*r) (by omega) (by omega),wu _ (by omega) (by omega)]at d;have hb:u*4294967296+w<((n:Int)+1)*Y:=by rw[←ec];exact V9 hY he d
   exact zk (fun e=>ze hz (hx _ (by omega) (cut hb (of_decide_eq_true e)))) (fun e=>dec hb (by have:=of_decide_eq_false e;omega))
  ·have c:=of_decide_eq_false c;have d:=of_decide_eq_false d;have a:=zj (show((n+1:Nat):Int)≤4294967295 by omega) h0.1;have b:=zq (show 0≤((n+1:Nat):Int)by omega) h0.1;rw[wu (((n+1:Nat):Int)*y0) (by omega) (by omega),wu (4294967296*r) (by omega) (by omega),wu _ (by omega) (by omega)]at d;exact ze hz (hx _ (by omega) ⟨Ku hY he (by omega),hup⟩)
theorem AZ(Y s y1 y0 u w p:Int)(hY:Y=y1*4294967296+y0)(h1:0<y1∧y1<4294967296)(h0:0≤y0∧y0<4294967296)(hu:u<Y)(hw:0≤w∧w<4294967296)(hs:0≤s)
  (hx:∀q:Int,0≤q→Exact Y u w q→∀ob,Q (PV.tup [PV.dat (zg zd) (zc zd (zc zd (p*(4294967296:Int))+q)),PV.dat (zg zd) (zm (zc zd (zc zd (zc zd (u*(4294967296:Int))+w)-zc zd (q*Y))) ((2:Int)^yi (yr s) (64:Nat)))]) ob):
  ∀(n:Nat) (r:Int),(n:Int)<18446744073709551616→(n:Int)*y1+r=u→0≤r→r<4294967296→u*4294967296+w<((n:Int)+1)*Y→Ends bW (L2 Y s y1 y0 w p r u n) Q:=by
 intro n;induction n with
 |zero=>
  intro r hn he r0 r1 hup;have hz:decide (0≤s)=true:=decide_eq_true hs;refine zQ (A4 ..) (zO (by simp) (zO (decide_eq_false ?_) (ze hz (zi (hx _ (by omega) ⟨?_,hup⟩ _)))))
  ·rw[show((0:Nat):Int)*y0=0 by simp,wu 0 (by omega) (by omega),wu (4294967296*r) (by omega) (by omega),wu _ (by omega) (by omega)];omega
  ·exact Ku hY he (by rw[show((0:Nat):Int)*y0=0 by simp];omega)
 |succ n ih=>
  intro r hn he r0 r1 hup;have hz:decide (0≤s)=true:=decide_eq_true hs;have e1:zc .u64 (((n+1:Nat):Int)-1)=(n:Int):=by rw[wu _ (by omega) (by omega)];omega
  have e2:zc .u64 (r+y1)=r+y1:=wu _ (by omega) (by omega);have hY0:0≤Y:=by omega
  have he':(n:Int)*y1+(r+y1)=u:=by
   rw[show((n+1:Nat):Int)=(n:Int)+1 by omega,zA,zP]at he;omega
  have ec:((n+1:Nat):Int)=(n:Int)+1:=by omega
  have dec:u*4294967296+w<((n:Int)+1)*Y→r+y1<4294967296→Ends bW (L2 Y s y1 y0 w p (r+y1) u n) Q:=fun h1' h2'=>
   ih (r+y1) (by omega) he' (by omega) h2' h1'
  have cut:u*4294967296+w<((n:Int)+1)*Y→4294967296≤r+y1→Exact Y u w n:=fun h1' h2'=>
   ⟨TK hY (by omega) h0 hu hw.1 he' h2',h1'⟩
  refine zQ (A4 ..) ?_;conv=>zeta
  rw[e1,e2];refine zk (fun c=>?_) (fun c=>zk (fun d=>?_) (fun d=>?_))
  ·have c:=of_decide_eq_true c;have hb:u*4294967296+w<((n:Int)+1)*Y:=by rw[←ec];exact Tt hu hY0 hw.2 c
   exact zk (fun e=>ze hz (zi (hx _ (by omega) (cut hb (of_decide_eq_true e)) _))) (fun e=>dec hb (by have:=of_decide_eq_false e;omega))
  ·have c:=of_decide_eq_false c;have d:=of_decide_eq_true d;have a:=zj (show((n+1:Nat):Int)≤4294967295 by omega) h0.1;have b:=zq (show 0≤((n+1:Nat):Int)by omega) h0.1;rw[wu (((n+1:Nat):Int)*y0) (by omega) (by omega),wu (4294967296*r) (by omega) (by omega),wu _ (by omega) (by omega)]at d;have hb:u*4294967296+w<((n:Int)+1)*Y:=by rw[←ec];exact V9 hY he d
   exact zk (fun e=>ze hz (zi (hx _ (by omega) (cut hb (of_decide_eq_true e)) _))) (fun e=>dec hb (by have:=of_decide_eq_false e;omega))
  ·have c:=of_decide_eq_false c;have d:=of_decide_eq_false d;have a:=zj (show((n+1:Nat):Int)≤4294967295 by omega) h0.1;have b:=zq (show 0≤((n+1:Nat):Int)by omega) h0.1;rw[wu (((n+1:Nat):Int)*y0) (by omega) (by omega),wu (4294967296*r) (by omega) (by omega),wu _ (by omega) (by omega)]at d;exact ze hz (zi (hx _ (by omega) ⟨Ku hY he (by omega),hup⟩ _))
end T271
theorem Sc{y:Int}(h1:0<y)(h2:y<18446744073709551616):∃s:Nat,Sp.lz y=(s:Int)∧s≤63∧y*2^s<18446744073709551616∧9223372036854775808≤y*2^s:=by
 obtain⟨n,rfl⟩:=zo (zM h1);have hn:n≠0:=by omega
 have hk:n.log2<64:=(Nat.log2_lt hn).2 (by omega);have a:=Nat.log2_self_le hn;have b:=Nat.lt_log2_self (n:=n);have e1:2^n.log2*2^(63-n.log2)=2^63:=by rw[←yq];congr 1;omega
 have e2:2^(n.log2+1)*2^(63-n.log2)=2^64:=by rw[←yq];congr 1;omega
 have c1:2^63≤n*2^(63-n.log2):=by rw[←e1];exact Nat.mul_le_mul_right _ a
 have c2:n*2^(63-n.log2)<2^64:=by rw[←e2];exact Nat.mul_lt_mul_of_pos_right b (yn _)
 refine⟨63-n.log2,?_,by omega,?_,?_⟩
 ·unfold Sp.lz Sp.Er;rw[if_neg (by omega),zl];omega
 ·have:((n*2^(63-n.log2):Nat):Int)<18446744073709551616:=by omega
  rw[zW,zR]at this;exact this
 ·have:(9223372036854775808:Int)≤((n*2^(63-n.log2):Nat):Int):=by omega
  rw[zW,zR]at this;exact this
theorem Xf{a b:Int}{s:Nat}(ha:0≤a)(hb:0≤b)(h:b<2^s)(hm:a*2^s+b<18446744073709551616):XW .u64 (a*2^s) b=a*2^s+b:=by
 obtain⟨m,rfl⟩:=zo ha;obtain⟨k,rfl⟩:=zo hb;have ep:((m:Int)*2^s)=((m*2^s:Nat):Int):=by rw[zW,zR];rfl
 have hk:k<2^s:=by
  have e:((2:Int)^s)=((2^s:Nat):Int):=by rw[zR];rfl
  rw[e]at h;omega
 rw[ep]at hm ⊢;have e:(zE 64 ((m*2^s:Nat):Int)|||zE 64 (k:Int)).toNat=m*2^s+k:=by
  rw[BitVec.toNat_or,zZ,zZ,z8,z8,ye (by omega),ye (by omega),Nat.mul_comm m,Nat.two_pow_add_eq_or_of_lt hk]
 show zc .u64 (((zE 64 ((m*2^s:Nat):Int)|||zE 64 (k:Int)).toNat:Nat):Int)=_;rw[e,cT _ (by omega)];omega
namespace T271
theorem start{u y1 y0 Y w:Int}(hY:Y=y1*4294967296+y0)(h1:0<y1∧y1<4294967296)(h0:0≤y0)(hu:0≤u∧u<18446744073709551616)(hw:w<4294967296):
  ∃(n:Nat) (r:Int),zc .u64 (zY u y1)=(n:Int)∧zc .u64 (u-zc .u64 ((n:Int)*y1))=r∧(n:Int)<18446744073709551616∧(n:Int)*y1+r=u∧0≤r∧r<4294967296∧u*4294967296+w<((n:Int)+1)*Y:=by
 have q0:0≤u/y1:=yo hu.1 (by omega);have q1:u/y1≤u:=Int.ediv_le_self _ hu.1;have ed:=Int.mul_ediv_add_emod u y1;have r0:=Int.emod_nonneg u (show y1≠0 by omega);have r1:=Int.emod_lt_of_pos u h1.1;rw[zF]at ed;obtain⟨n,hn⟩:=zo q0;have hp:0≤(n:Int)*y1:=zq (by omega) (by omega);rw[hn]at ed;refine⟨n,u % y1,?_,?_,by omega,ed,r0,by omega,?_⟩
 ·rw[yd hu.1,hn,wu _ (by omega) (by omega)]
 ·rw[wu ((n:Int)*y1) (by omega) (by omega),wu _ (by omega) (by omega)];omega
 ·subst hY;have a:((n:Int)+1)*(y1*4294967296+y0)=((n:Int)*y1+y1)*4294967296+((n:Int)+1)*y0:=by
   rw[zG, ←zu,zA,zP]
  have b:0≤((n:Int)+1)*y0:=zq (by omega) h0;rw[a];omega
theorem P7{u w q Y:Int}(hE:Exact Y u w q)(hY:Y<18446744073709551616):zc .u64 (zc .u64 (zc .u64 (u*(4294967296:Int))+w)-zc .u64 (q*Y))=u*4294967296+w-q*Y:=by
 obtain⟨a,b⟩:=hE;rw[zA,zP]at b;rw[JI,JI,JI,JI];generalize q*Y=A at*;omega
theorem lM(h:Ae AS 272 sC):∀g sp,bW.sp g=some sp→Ae AS g sp:=Aa h (fun g sp h=>by cases h)
set_option maxHeartbeats 1000000 in
theorem ok(hlz:Ae AS 272 sC):Ae AS 271 RE:=by
 refine Ax (X:=bW) rfl (lM hlz) (d:=9) (by kernel_rfl) (by kernel_rfl) (by kernel_rfl) (fun(i:Int×Int×Int) hi=>?_) (Ad (by kernel_rfl));obtain⟨hi',lo,y⟩:=i;have hi:(zp hi'&&zp lo&&zp y&&decide (hi'<y))=true:=hi;rw[zh,zh,zh,decide_eq_true_eq]at hi;obtain⟨⟨⟨h1,h2⟩,h3⟩,h4⟩:=hi;have uy:=h3;have h1:=yk h1;have h2:=yk h2;have h3:=yk h3;have hg:∀q r ob,q=Sp.dq hi' lo y→r=Sp.dr hi' lo y→Af RE (hi',lo,y) (PV.tup [PV.dat (zg zd) q,PV.dat (zg zd) r]) ob:=fun q r ob e1 e2=>zy rfl rfl (Prod.ext e1 e2)
 refine zL (An hi' lo y) (zO (by simp;omega) (zO (decide_eq_false (by omega)) (zk (fun c=>?_) (fun c=>?_))))
 ·have c:hi'=0:=by simpa using c
  subst c;have q0:0≤lo/y:=yo h2.1 (by omega);have q1:lo/y≤lo:=Int.ediv_le_self _ h2.1;refine ze (decide_eq_true (by omega)) (ze (decide_eq_true (by omega)) (zi (hg _ _ _ ?_ ?_)))
  ·unfold Sp.dq;rw[yd h2.1,wu _ (by omega) (by omega),Int.zero_mul,yj]
  ·unfold Sp.dr;rw[Int.tmod_eq_emod_of_nonneg h2.1,Int.zero_mul,yj]
 ·have c:hi'≠0:=by simpa using c
  obtain⟨s,hs,hs63,hlt,hge⟩:=Sc (y:=y) (by omega) h3.2;have es:zc .u64 (s:Int)=(s:Int):=cT s (by omega);have em:yi s 64=s:=by omega
  have es2:zc .u64 ((64:Int)-(s:Int))=((64-s:Nat):Int):=by rw[wu _ (by omega) (by omega)];omega
  have em2:yi (64-s) 64=64-s:=by omega
  have hPR:(2:Int)^s*2^(64-s)=18446744073709551616:=by rw[←Int.pow_add,show s+(64-s)=64 by omega];rfl
  have hP:(0:Int)<2^s:=Int.pow_pos (by decide);have hR:(0:Int)<2^(64-s):=Int.pow_pos (by decide);have a0:0≤lo/2^(64-s):=yo h2.1 (by omega);have led:=Int.mul_ediv_add_emod lo (2^(64-s));have c0:=Int.emod_nonneg lo (show(2:Int)^(64-s)≠0 by omega);have c1:=Int.emod_lt_of_pos lo hR;have aP:lo/2^(64-s)<2^s:=Int.ediv_lt_of_lt_mul hR (by rw[hPR];exact h2.2);have hiP:hi'*2^s+2^s≤y*2^s:=by
   have:=zj (show hi'+1≤y by omega) (zM hP);rw[zA,zP]at this;exact this
  have hi0:0≤hi'*2^s:=zq h1.1 (zM hP);have efd:zm lo ((2:Int)^(64-s))=lo/2^(64-s):=zK _ (by omega);have eio:XW .u64 (hi'*2^s) (lo/2^(64-s))=hi'*2^s+lo/2^(64-s):=Xf h1.1 a0 aP (by omega);have cP0:0≤(lo % 2^(64-s))*2^s:=zq c0 (zM hP);have cP1:(lo % 2^(64-s))*2^s<18446744073709551616:=by
   have:=Int.mul_lt_mul_of_pos_right c1 hP;rw[zF (2^(64-s)),hPR]at this;exact this
  have loP:lo*2^s=(lo/2^(64-s))*18446744073709551616+(lo % 2^(64-s))*2^s:=by
   conv=>lhs;rw[←led]
   rw[zA, ←hPR,zF (2^(64-s)) (lo/2^(64-s)),zu,zF (2^(64-s)) (2^s)]
  have elo:zc .u64 (lo*2^s)=(lo % 2^(64-s))*2^s:=by rw[loP,JI];omega
  have hN:(hi'*2^s+lo/2^(64-s))*18446744073709551616+(lo % 2^(64-s))*2^s=(hi'*18446744073709551616+lo)*2^s:=by
   rw[zA (hi'*18446744073709551616) lo (2^s),loP,zu hi' 18446744073709551616 (2^s),zF 18446744073709551616 ((2:Int)^s), ←zu];omega
  have ewy:zc .u64 (y*2^s)=y*2^s:=wu _ (by omega) (by omega);have ewh:zc .u64 (hi'*2^s)=hi'*2^s:=wu _ hi0 (by omega);have z0:decide ((0:Int)≤(s:Int))=true:=decide_eq_true (by omega);have fin:∀q:Int,q*(y*2^s)≤(hi'*18446744073709551616+lo)*2^s→(hi'*18446744073709551616+lo)*2^s<(q+1)*(y*2^s)→q=Sp.dq hi' lo y∧zm ((hi'*18446744073709551616+lo)*2^s-q*(y*2^s)) (2^s)=Sp.dr hi' lo y:=by
   intro q f1 f2;unfold Sp.dq Sp.dr;generalize hi'*18446744073709551616+lo=M at*;rw[←zu]at f1 f2;have g1:q*y≤M:=Int.le_of_mul_le_mul_right f1 hP;have g2:M<(q+1)*y:=Int.lt_of_mul_lt_mul_right f2 (zM hP);rw[zA,zP]at g2;obtain⟨u1,u2⟩:=(Int.ediv_emod_unique (a:=M) (b:=y) (r:=M-q*y) (q:=q) (by omega)).2 ⟨by rw[zF y q];omega,by omega,by omega⟩;refine⟨u1.symm,?_⟩;rw[u2, ←zu, ←Int.sub_mul,zK _ (zM hP)];exact Int.mul_ediv_cancel _ (by omega)
  obtain⟨Y,eY⟩:=zo (show 0≤y*2^s by omega);obtain⟨C,eC⟩:=zo cP0;have hU0:0≤hi'*2^s+lo/2^(64-s):=by omega
  have hUY:hi'*2^s+lo/2^(64-s)<y*2^s:=by omega
  rw[hs,es,es2,zl,zl,em,em2,ewy,ewh,efd,eio,elo];rw[eC]at hN cP1 ⊢;rw[eY]at hlt hge hUY fin ⊢;generalize hU:hi'*2^s+lo/2^(64-s)=U at*;generalize hM:(hi'*18446744073709551616+lo)*2^s=M at*;rw[X4,X4,Oe Y (by omega),Oe C (by omega)];have hY:(Y:Int)=((Y/4294967296:Nat):Int)*4294967296+((Y % 4294967296:Nat):Int):=by omega
  have b1:0<((Y/4294967296:Nat):Int)∧((Y/4294967296:Nat):Int)<4294967296:=by omega
  have b0:0≤((Y % 4294967296:Nat):Int)∧((Y % 4294967296:Nat):Int)<4294967296:=by omega
  have w1:0≤((C/4294967296:Nat):Int)∧((C/4294967296:Nat):Int)<4294967296:=by omega
  have w0:0≤((C % 4294967296:Nat):Int)∧((C % 4294967296:Nat):Int)<4294967296:=by omega
  have hC:(C:Int)=((C/4294967296:Nat):Int)*4294967296+((C % 4294967296:Nat):Int):=by omega
  generalize ((Y/4294967296:Nat):Int)=y1 at*;generalize ((Y % 4294967296:Nat):Int)=y0 at*;generalize ((C/4294967296:Nat):Int)=w at*;generalize ((C % 4294967296:Nat):Int)=z at*;refine ze uy (ze z0 (ze rfl (ze z0 (ze (decide_eq_true (by omega)) (ze z0 (ze rfl (ze (decide_eq_true (by omega)) ?_)))))));obtain⟨n,r,e1,e2,n1,n2,n3,n4,n5⟩:=start (u:=U) (w:=w) hY b1 b0.1 (by omega) w1.2;rw[e1,e2];refine Am (Y:Int) s y1 y0 U w z hY b1 b0 hUY w1 (fun p p0 hp=>?_) n r n1 n2 n3 n4 n5;have er:=P7 hp (by omega);rw[er];have hp1:=hp.1;have hp2:=hp.2;rw[zA,zP]at hp2;obtain⟨m,t,k1,k2,m1,m2,m3,m4,m5⟩:=start (u:=U*4294967296+w-p*Y) (w:=z) hY b1 b0.1 (by omega) w0.2;rw[k1,k2];refine AZ (Y:Int) s y1 y0 _ z p hY b1 b0 (by omega) w0 (by omega) (fun q q0 hq ob=>?_) m t m1 m2 m3 m4 m5;rw[P7 hq (by omega),zl,em];obtain⟨hq1,hq2⟩:=hq;have ez:(p*4294967296+q)*(Y:Int)=p*Y*4294967296+q*Y:=by
   rw[zA,zu,zF 4294967296 (Y:Int), ←zu]
  have ez1:(p*4294967296+q+1)*(Y:Int)=p*Y*4294967296+q*Y+Y:=by
   rw[zA,ez,zP]
  rw[zA,zP]at hq2;obtain⟨f1,f2⟩:=fin (p*4294967296+q) (by rw[ez];omega) (by rw[ez1];omega);refine hg _ _ _ ?_ ?_
  ·have hb:Sp.dq hi' lo y<18446744073709551616:=by
    unfold Sp.dq;refine Int.ediv_lt_of_lt_mul (by omega) ?_;have:=zD (show hi'+1≤y by omega) (show(0:Int)≤18446744073709551616 by decide);omega
   rw[←f1]at hb ⊢;rw[JI,JI];omega
  ·rw[←f2,ez];congr 1;omega
end T271
end Go.Pe
end
section
namespace Go.Pe
open Sp
open Go.Det
theorem dD(x k:Nat)(h:2^k≤x):x.log2=k+(x/2^k).log2:=by
 have hk:=yn k;have hz:x/2^k≠0:=by
  have:=Nat.div_pos h hk;omega
 have hx:x≠0:=by omega
 refine(Nat.log2_eq_iff hx).2 ⟨?_,?_⟩
 ·rw[yq];exact Nat.le_trans (Nat.mul_le_mul_left _ (Nat.log2_self_le hz)) (Nat.mul_div_le x (2^k))
 ·rw[Nat.add_assoc,yq];have a:x/2^k+1≤2^((x/2^k).log2+1):=Nat.lt_log2_self;have b:=Nat.mul_le_mul_left (2^k) a;have c:=Nat.lt_mul_div_succ x hk;exact Nat.lt_of_lt_of_le c b
theorem Ot(x k:Nat)(h:2^k≤x):Er (x:Int)=(k:Int)+Er ((x/2^k:Nat):Int):=by
 have hk:=yn k;have hz:=Nat.div_pos h hk;have e:=dD x k h;unfold Er;rw[if_neg (by omega),if_neg (by omega),zl,zl,e];omega
theorem oI(n k:Nat):zm (n:Int) ((2:Int)^k)=((n/2^k:Nat):Int):=by
 have:(0:Int)<2^k:=Int.pow_pos (by decide);rw[zK _ (by omega),Int.natCast_ediv,zR];rfl
def qA:List UInt8:=[(0:UInt8),(1:UInt8),(2:UInt8),(2:UInt8),(3:UInt8),(3:UInt8),(3:UInt8),(3:UInt8),(4:UInt8),(4:UInt8),(4:UInt8),(4:UInt8),(4:UInt8),(4:UInt8),(4:UInt8),(4:UInt8),(5:UInt8),(5:UInt8),(5:UInt8),(5:UInt8),(5:UInt8),(5:UInt8),(5:UInt8),(5:UInt8),(5:UInt8),(5:UInt8),(5:UInt8),(5:UInt8),(5:UInt8),(5:UInt8),(5:UInt8),(5:UInt8),(6:UInt8),(6:UInt8),(6:UInt8),(6:UInt8),(6:UInt8),(6:UInt8),(6:UInt8),(6:UInt8),(6:UInt8),(6:UInt8),(6:UInt8),(6:UInt8),(6:UInt8),(6:UInt8),(6:UInt8),(6:UInt8),(6:UInt8),(6:UInt8),(6:UInt8),(6:UInt8),(6:UInt8),(6:UInt8),(6:UInt8),(6:UInt8),(6:UInt8),(6:UInt8),(6:UInt8),(6:UInt8),(6:UInt8),(6:UInt8),(6:UInt8),(6:UInt8),(7:UInt8),(7:UInt8),(7:UInt8),(7:UInt8),(7:UInt8),(7:UInt8),(7:UInt8),(7:UInt8),(7:UInt8),(7:UInt8),(7:UInt8),(7:UInt8),(7:UInt8),(7:UInt8),(7:UInt8),(7:UInt8),(7:UInt8),(7:UInt8),(7:UInt8),(7:UInt8),(7:UInt8),(7:UInt8),(7:UInt8),(7:UInt8),(7:UInt8),(7:UInt8),(7:UInt8),(7:UInt8),(7:UInt8),(7:UInt8),(7:UInt8),(7:UInt8),(7:UInt8),(7:UInt8),(7:UInt8),(7:UInt8),(7:UInt8),(7:UInt8),(7:UInt8),(7:UInt8),(7:UInt8),(7:UInt8),(7:UInt8),(7:UInt8),(7:UInt8),(7:UInt8),(7:UInt8),(7:UInt8),(7:UInt8),(7:UInt8),(7:UInt8),(7:UInt8),(7:UInt8),(7:UInt8),(7:UInt8),(7:UInt8),(7:UInt8),(7:UInt8),(7:UInt8),(7:UInt8),(7:UInt8),(7:UInt8),(7:UInt8),(7:UInt8),(8:UInt8),(8:UInt8),(8:UInt8),(8:UInt8),(8:UInt8),(8:UInt8),(8:UInt8),(8:UInt8),(8:UInt8),(8:UInt8),(8:UInt8),(8:UInt8),(8:UInt8),(8:UInt8),(8:UInt8),(8:UInt8),(8:UInt8),(8:UInt8),(8:UInt8),(8:UInt8),(8:UInt8),(8:UInt8),(8:UInt8),(8:UInt8),(8:UInt8),(8:UInt8),(8:UInt8),(8:UInt8),(8:UInt8),(8:UInt8),(8:UInt8),(8:UInt8),(8:UInt8),(8:UInt8),(8:UInt8),(8:UInt8),(8:UInt8),(8:UInt8),(8:UInt8),(8:UInt8),(8:UInt8),(8:UInt8),(8:UInt8),(8:UInt8),(8:UInt8),(8:UInt8),(8:UInt8),(8:UInt8),(8:UInt8),(8:UInt8),(8:UInt8),(8:UInt8),(8:UInt8),(8:UInt8),(8:UInt8),(8:UInt8),(8:UInt8),(8:UInt8),(8:UInt8),(8:UInt8),(8:UInt8),(8:UInt8),(8:UInt8),(8:UInt8),(8:UInt8),(8:UInt8),(8:UInt8),(8:UInt8),(8:UInt8),(8:UInt8),(8:UInt8),(8:UInt8),(8:UInt8),(8:UInt8),(8:UInt8),(8:UInt8),(8:UInt8),(8:UInt8),(8:UInt8),(8:UInt8),(8:UInt8),(8:UInt8),(8:UInt8),(8:UInt8),(8:UInt8),(8:UInt8),(8:UInt8),(8:UInt8),(8:UInt8),(8:UInt8),(8:UInt8),(8:UInt8),(8:UInt8),(8:UInt8),(8:UInt8),(8:UInt8),(8:UInt8),(8:UInt8),(8:UInt8),(8:UInt8),(8:UInt8),(8:UInt8),(8:UInt8),(8:UInt8),(8:UInt8),(8:UInt8),(8:UInt8),(8:UInt8),(8:UInt8),(8:UInt8),(8:UInt8),(8:UInt8),(8:UInt8),(8:UInt8),(8:UInt8),(8:UInt8),(8:UInt8),(8:UInt8),(8:UInt8),(8:UInt8),(8:UInt8),(8:UInt8),(8:UInt8),(8:UInt8),(8:UInt8),(8:UInt8),(8:UInt8),(8:UInt8)]
theorem WO:∀m:Fin 256,((zI (qA.getD m.val 0):Nat):Int)=Er (m.val:Int)∧zc .u8 (m.val:Int)=(m.val:Int)∧Er (m.val:Int)≤8∧0≤Er (m.val:Int):=by decide+kernel
theorem LZ{ACC:Int}(a z x:Nat)(hA:ACC=a)(ha:a≤64)(hz:z<256)(hx:Er (x:Int)=(a:Int)+Er (z:Int)):zc .i64 (ACC+zc .i64 ((zI (qA.getD (yr (zc .u8 (z:Int))) 0):Nat):Int))=Er x:=by
 obtain⟨e1,e2,e3,e4⟩:=WO ⟨z,hz⟩;have e1:((zI (qA.getD z 0):Nat):Int)=Er (z:Int):=e1;have e2:zc .u8 (z:Int)=(z:Int):=e2;have e3:Er (z:Int)≤8:=e3;have e4:0≤Er (z:Int):=e4;rw[e2,zl,e1,hA,hx,wr (Er (z:Int)) (by omega) (by omega),wr _ (by omega) (by omega)]
theorem mK(z:Nat)(hz:z<256):(decide ((0:Sh.T (zg yu))≤zc yu (z:Int))&&decide (zc yu (z:Int)<(↑(256:Nat):Int)))=true:=by
 obtain⟨_,e2,_,_⟩:=WO ⟨z,hz⟩;have e2:zc .u8 (z:Int)=(z:Int):=e2;rw[e2];exact Ac (decide_eq_true (show(0:Int)≤(z:Int)by omega)) (decide_eq_true (by omega))
namespace T247
set_option maxHeartbeats 1000000 in
set_option maxRecDepth 100000 in
theorem ok:Ae AS 247 Vk:=by
 refine Ax (X:=S7) rfl IA (d:=9) (by kernel_rfl) (by kernel_rfl) (by kernel_rfl) (fun(x:Int) hx=>?_) (Ad (by kernel_rfl));have hx:=yk (n:=x) hx;obtain⟨x,rfl⟩:=zo hx.1;refine zL (An (x:Int)) ?_;conv=>zeta
 conv=>zeta
 rw[oI x 32,oI x 16,oI x 8,oI (x/2^32) 16,oI (x/2^32) 8,oI (x/2^32/2^16) 8,oI (x/2^16) 8];have l32:=Ot x 32;have l16:=Ot x 16;have l8:=Ot x 8;have l3216:=Ot (x/2^32) 16;have l328:=Ot (x/2^32) 8;have l32168:=Ot (x/2^32/2^16) 8;have l168:=Ot (x/2^16) 8;refine zk (fun c1=>ze rfl (zk (fun c2=>ze rfl (zk (fun c3=>ze rfl (ze (mK _ ?_) (zi (zy rfl rfl (LZ 56 _ x (by decide+kernel) (by decide) ?_ ?_))))) (fun c3=>ze (mK _ ?_) (zi (zy rfl rfl (LZ 48 _ x (by decide+kernel) (by decide) ?_ ?_)))))) (fun c2=>zk (fun c3=>ze rfl (ze (mK _ ?_) (zi (zy rfl rfl (LZ 40 _ x (by decide+kernel) (by decide) ?_ ?_))))) (fun c3=>ze (mK _ ?_) (zi (zy rfl rfl (LZ 32 _ x rfl (by decide) ?_ ?_))))))) (fun c1=>zk (fun c2=>ze rfl (zk (fun c3=>ze rfl (ze (mK _ ?_) (zi (zy rfl rfl (LZ 24 _ x (by decide+kernel) (by decide) ?_ ?_))))) (fun c3=>ze (mK _ ?_) (zi (zy rfl rfl (LZ 16 _ x (by decide+kernel) (by decide) ?_ ?_)))))) (fun c2=>zk (fun c3=>ze rfl (ze (mK _ ?_) (zi (zy rfl rfl (LZ 8 _ x (by decide+kernel) (by decide) ?_ ?_))))) (fun c3=>ze (mK _ ?_) (zi (zy rfl rfl (LZ 0 _ x rfl (by decide) ?_ ?_))))));all_goals
  first
   |replace c1:=of_decide_eq_true c1
   |replace c1:=of_decide_eq_false c1
  first
   |replace c2:=of_decide_eq_true c2
   |replace c2:=of_decide_eq_false c2
  first
   |replace c3:=of_decide_eq_true c3
   |replace c3:=of_decide_eq_false c3
  omega
end T247
theorem kZ:∀g sp,uZ.sp g=some sp→Ae AS g sp:=Aa T247.ok (fun g sp h=>by cases h)
theorem RR{n:Int}(h1:0≤n)(h2:n<18446744073709551616):0≤Sp.Er n∧Sp.Er n≤64:=by
 unfold Sp.Er;split
 ·omega
 ·have:n.toNat.log2<64:=(Nat.log2_lt (by omega)).2 (by omega);omega
namespace T272
theorem ok:Ae AS 272 sC:=by
 refine Ax (X:=uZ) rfl kZ (d:=9) (by kernel_rfl) (by kernel_rfl) (by kernel_rfl) (fun(x:Int) hx=>?_) (Ad (by kernel_rfl));have h:=yk (n:=x) hx;have hl:=RR h.1 h.2;refine zL (An x) (ze hx (zi (zy rfl rfl ?_)));show zc .i64 (64-Sp.Er x)=Sp.lz x;unfold Sp.lz;exact wr _ (by omega) (by omega)
end T272
theorem cI:Ae AS 271 RE:=T271.ok T272.ok
end Go.Pe
end
section
namespace Go.Sp
def QN(a b:List Int):Bool:=B1 a&&B1 b&&decide (a.length≤9000)&&decide (b.length≤9000)&&decide (0<Al b)
end Go.Sp
namespace Go.Pe
open Sp
open Go.Det
noncomputable section
noncomputable def FG:Ao:=⟨[CW,CW],fun i=>QN i.1 i.2,[CW,CW],fun i=>(Bp (Al i.1/Al i.2),Bp (Al i.1 % Al i.2)),false⟩
noncomputable def Ic:A9:=X7 [(221,WC),(269,Vu),(223,RO),(268,UH),(270,U0),(271,RE),(272,sC)]
end
end Go.Pe
end
section
namespace Go.Sp
def GR(c:UInt8):Int:=(c.toNat:Int)-48
def BI(c:UInt8):Bool:=decide (48≤c.toNat)&&decide (c.toNat≤57)
def Az(n:Int):List UInt8→Int
 |[]=>n
 |c::r=>Az (10*n+GR c) r
def Ak(s:List UInt8):Bool:=s.all BI
theorem Cy:∀(n:Int) (a b:List UInt8),Az n (a++b)=Az (Az n a) b
 |_,[],_=>rfl
 |n,c::a,b=>by rw[yf,Az,Az,Cy]
theorem Eh:∀(s:List UInt8) (n:Int),Az n s=n*10^s.length+Az 0 s
 |[],n=>by simp[Az]
 |c::s,n=>by
  rw[Az,Az,Eh s (10*n+GR c),Eh s (10*0+GR c),List.length_cons,yw,zA,yh,yj,zF 10 n,zu,zF 10 (10^s.length),yt]
theorem CG{c:UInt8}(h:BI c=true):0≤GR c∧GR c≤9:=by
 unfold BI at h;rw[zh,decide_eq_true_eq,decide_eq_true_eq]at h;unfold GR;omega
theorem Bb:∀ {s:List UInt8},Ak s=true→0≤Az 0 s∧Az 0 s<10^s.length
 |[],_=>by simp[Az]
 |c::s,h=>by
  unfold Ak at h;rw[List.all_cons,zh]at h;have a:=CG h.1;have b:=Bb (s:=s) h.2;have hp:=AM (show(0:Int)<10 by decide) s.length;have c1:=zq a.1 (zM hp);have c2:=zj a.2 (zM hp);rw[Az,Eh,List.length_cons,yw,yh,yj,zF (10^s.length) 10];omega
theorem Bc{s:List UInt8}(h:Ak s=true)(i:Nat):Ak (s.take i)=true:=by
 unfold Ak at h ⊢;rw[List.all_eq_true]at h ⊢;exact fun x hx=>h x (List.mem_of_mem_take hx)
theorem BQ{s:List UInt8}(h:Ak s=true)(i:Nat):Ak (s.drop i)=true:=by
 unfold Ak at h ⊢;rw[List.all_eq_true]at h ⊢;exact fun x hx=>h x (List.mem_of_mem_drop hx)
def AQ(s:List UInt8):Bool:=decide (s≠[])&&Ak s&&(decide (s.getD 0 0≠48)||decide (s=[48]))
end Go.Sp
end
section
namespace Go.Sp
def GN(a b:AR):AR:=if vI a<0∧Ag (vI a) % vI b≠0 then Ml (CF (-(Ag (vI a)/vI b))) (1,[])else CF (sg (decide (vI a<0)) (Ag (vI a)/vI b))
def Wq(a b:AR):Int:=(GN a b).1
def WG(a b:AR):List Int:=(GN a b).2
def Td(a b:AR):Int:=Cn (vI a % vI b)
def SW(a b:AR):List Int:=Cm (vI a % vI b)
def gI(a b:Int):Int:=if a<0 then -(-(Int.gcd a b:Int))else(Int.gcd a b:Int)
theorem Fc(a b:Int):gI a b=(Int.gcd a b:Int):=by unfold gI;split<;>omega
def LP(a b:AR):Int:=Cn (gI (vI a) (vI b))
def LX(a b:AR):List Int:=Cm (gI (vI a) (vI b))
def pI(a k:Int):Int:=if k<0 then -(-(a^k.toNat))else a^k.toNat
theorem RT(a k:Int):pI a k=a^k.toNat:=by unfold pI;split<;>omega
def cU(a k:Int):Bool:=decide (0≤k)&&decide (k≤100000)&&decide (Ag (pI a k)<(18446744073709551616:Int)^(4000:Nat))
def S5(a:AR)(k:Int):Int:=Cn (pI (vI a) k)
def Sz(a:AR)(k:Int):List Int:=Cm (pI (vI a) k)
def Dw(n:Int):List Int:=if n<0 then[]else[]
theorem D1(n:Int):Dw n=[]:=by unfold Dw;split<;>rfl
def Ca(s:List UInt8):Int:=if s.getD 0 0=45 then -Az 0 (s.drop 1)else Az 0 s
def DW(s:List UInt8):Bool:=decide (s.length≤5999)&&(if s.getD 0 0=45 then Ak (s.drop 1)else Ak s)
def C1(s:List UInt8):Int:=Cn (Ca s)
def CX(s:List UInt8):List Int:=Cm (Ca s)
end Go.Sp
namespace Go.Pe
open Sp
open Go.Det
noncomputable section
noncomputable def Ge:Ao:=⟨[By,By],fun i=>A8 i.1&&A8 i.2&&decide (0<zf i.2),[By,By],fun i=>((Wq i.1 i.2,WG i.1 i.2),(Td i.1 i.2,SW i.1 i.2)),false⟩
noncomputable def V0:Ao:=⟨[By,By],fun i=>A8 i.1&&A8 i.2,[By],fun i=>(LP i.1 i.2,LX i.1 i.2),false⟩
noncomputable def bP:Ao:=⟨[By,i64],fun i=>A8 i.1&&cU (zf i.1) i.2,[By],fun i=>(S5 i.1 i.2,Sz i.1 i.2),false⟩
noncomputable def NQ:Ao:=⟨[.str],fun s=>DW s,[By],fun s=>(C1 s,CX s),false⟩
noncomputable def Uc:Ao:=⟨[i64],fun _=>true,[By],fun n=>(n,Dw n),false⟩
noncomputable def qH:A9:=fJ [(176,[9,10])] [] [(176,[(9,[3,4,5,8,12,13]),(10,[3,4,5,14,15])])] [(105,Uc),(230,FG),(218,NZ),(219,cK),(217,Zt),(158,OD),(173,Jt)]
noncomputable def vP:A9:=X7 []
noncomputable def rI:A9:=X7 [(176,Ge),(212,mO),(173,Jt)]
noncomputable def pJ:A9:=X7 [(105,Uc),(159,PA)]
end
end Go.Pe
end
section
namespace Go.Sp
abbrev B9:Nat:=1000000000
def Jc(l:List Int):Bool:=decide (l.length≤20000)&&l.all fun d=>decide (0≤d)&&decide (d<1000000000)
def hR(l:List Int):Bool:=Jc l&&decide (l.length≤9000)
def A3(l:List Int):Bool:=Jc l&&qV l
def Aq(l:List Int):Int:=val B9 l
def BM(n:Int):List Int:=dg B9 n
def rN(n:Int):Bool:=decide (n<0)
def rW(n:Int):List Int:=BM (Ag n)
def B5(neg:Bool)(w:List Int):Bool:=neg&&decide (Ar w≠[])
def Dz(s:List UInt8):Bool:=decide (s.length≤18)&&Ak s
def Bu(s:List UInt8):Int:=Az 0 s
def EL(s:List UInt8):Bool:=rN (Ca s)
def EI(s:List UInt8):List Int:=rW (Ca s)
def Cb(a b:List Int):List Int:=BM (gI (Aq a) (Aq b))
end Go.Sp
namespace Go.Pe
open Sp
open Go.Det
noncomputable section
abbrev li:Sh:=.list i64
abbrev IS:Sh:=.pair .bool li
noncomputable def QJ:Ao:=⟨[li],fun l=>decide (z6 (α:=Int) l≤20000),[li],fun l=>Ar l,false⟩
noncomputable def H7:Ao:=⟨[.bool,li],fun i=>decide (z6 (α:=Int) i.2≤20000),[IS],fun i=>(B5 i.1 i.2,Ar i.2),false⟩
noncomputable def WW:Ao:=⟨[li,li],fun i=>A3 i.1&&A3 i.2,[i64],fun i=>BW (Aq i.1) (Aq i.2),false⟩
noncomputable def Wf:Ao:=⟨[li,li],fun i=>Sp.hR i.1&&Sp.hR i.2,[li],fun i=>BM (Aq i.1*Aq i.2),false⟩
noncomputable def Ut:Ao:=⟨[li,i64],fun i=>Jc i.1&&decide (0<(i.2:Int))&&decide ((i.2:Int)<1000000000),[li,i64],fun i=>(BM (Aq i.1/i.2),Aq i.1 % i.2),false⟩
noncomputable def Pn:Ao:=⟨[li,li],fun i=>A3 i.1&&A3 i.2&&decide (z6 (α:=Int) i.1≤9000)&&decide (z6 (α:=Int) i.2≤9000)&&decide (0<Aq i.2),[li,li],fun i=>(BM (Aq i.1/Aq i.2),BM (Aq i.1 % Aq i.2)),false⟩
noncomputable def Kg:Ao:=⟨[li,li],fun i=>A3 i.1&&A3 i.2&&decide (z6 (α:=Int) i.1≤9000)&&decide (z6 (α:=Int) i.2≤9000),[li],fun i=>Cb i.1 i.2,false⟩
noncomputable def RJ:Ao:=⟨[.str],fun s=>Dz s,[i64],fun s=>Bu s,false⟩
noncomputable def QP:Ao:=⟨[.str],fun s=>DW s,[IS],fun s=>(EL s,EI s),false⟩
noncomputable def XX:A9:=X7 []
noncomputable def Ug:A9:=X7 [(227,QJ)]
noncomputable def KQ:A9:=X7 [(170,WW),(227,QJ),(226,Ut),(172,Wf)]
noncomputable def rG:A9:=X7 [(164,Pn)]
noncomputable def XQ:A9:=X7 [(165,RJ),(168,H7)]
end
end Go.Pe
end
section
namespace Go.Sp
def C4:List UInt8:=[48,49,50,51,52,53,54,55,56,57]
def Wt(o:List Bool):List Bool:=(List.range 256).map fun j=>o.getD j false
def mZ:List Bool:=zn 256 false
def N7(s:List UInt8):List UInt8:=((s.reverse.dropWhile BI).reverse).dropWhile BI
def No(s:List UInt8)(c:Int):Int:=match s.findIdx? (fun x=>x==c.toNat.toUInt8)with
 |some i=>(i:Int)
 |none=> -1
def Aw(s:List UInt8):List UInt8:=match s.findIdx? (fun x=>x==47)with
 |some i=>s.take i
 |none=>s
def AL(s:List UInt8):List UInt8:=match s.findIdx? (fun x=>x==47)with
 |some i=>s.drop (i+1)
 |none=>[]
def Bk(s:List UInt8):Bool:=s.any (fun x=>x==47)
def AU(s:List UInt8):List UInt8:=if s.getD 0 0=45 then s.drop 1 else s
def preB(s:List UInt8):Bool:=decide (s.getD 0 0=45)
def nM(s t:List UInt8):Bool:=decide (t=C4)&&decide (s.length≤1000000)
def oO(s t:List UInt8):Bool:=decide (t=[47])&&decide (s.length≤1000000)
def Ra(s t:List UInt8):Bool:=decide (t=[45])&&decide (s.length≤1000000)
end Go.Sp
namespace Go.Pe
open Sp
open Go.Det
noncomputable section
noncomputable def U7:Ao:=⟨[.str,.str],fun i=>nM i.1 i.2,[.str],fun i=>N7 i.1,false⟩
noncomputable def mC:Ao:=⟨[.str,.int .u8],fun i=>decide (0≤(i.2:Int))&&decide ((i.2:Int)<256),[i64],fun i=>No i.1 i.2,false⟩
noncomputable def cX:Ao:=⟨[.str,.str],fun i=>oO i.1 i.2,[.str,.str,.bool],fun i=>(Aw i.1,Sp.AL i.1,Bk i.1),false⟩
noncomputable def nJ:Ao:=⟨[.str,.str],fun i=>Ra i.1 i.2,[.str,.bool],fun i=>(AU i.1,Sp.preB i.1),false⟩
noncomputable def Lc:Ao:=⟨[.str],fun s=>decide (s.length≤1000000),[.bool],fun s=>AQ s,false⟩
noncomputable def IU:A9:=X7 []
noncomputable def VR:A9:=X7 [(263,⟨[.str,.str],fun _=>false,[.str],fun i=>i.1,false⟩),(264,⟨[.str,.str],fun _=>false,[.str],fun i=>i.1,false⟩),(258,⟨[.str,.int .u8],fun _=>false,[.str],fun i=>i.1,false⟩),(259,⟨[.str,.int .u8],fun _=>false,[.str],fun i=>i.1,false⟩)]
noncomputable def wH:A9:=X7 [(211,U7)]
noncomputable def vY:A9:=X7 [(316,mC)]
noncomputable def O4:A9:=X7 [(105,Uc),(216,bP),(159,PA),(158,OD),(174,Tx),(302,⟨[.str,i64,i64],fun _=>false,[i64],fun _=>(0:Int),false⟩),(267,⟨[.str],fun _=>false,[i64],fun _=>(0:Int),false⟩)]
end
end Go.Pe
end
section
namespace Go.Sp
def FL(a:List UInt8):Bool:=AQ (Aw (AU a))&&(!preB a||decide (Aw (AU a)≠[48]))&&(!Bk (AU a)||(AQ (AL (AU a))&&decide (AL (AU a)≠[48])&&decide (AL (AU a)≠[49])))
def jF(a:List UInt8):Int:=Az 0 (Aw (AU a))
def hZ(a:List UInt8):Int:=Az 0 (AL (AU a))
def A1(a:List UInt8):Int:=if FL a=false then 1 else if 600<(Aw (AU a)).length∨600<(AL (AU a)).length then 4 else if Bk (AU a)=true∧gI (jF a) (hZ a)≠1 then 1 else 0
def AV(s:List UInt8):Int:=((Aw s).length:Int)
def EW(a:List UInt8):Bool:=DW (Aw a)&&DW (AL a)&&decide (a.length≤5999)
def A5(a:List UInt8):Int:=Ca (Aw a)
def AF(a:List UInt8):Int:=if Bk a=true then Ca (AL a)else 1
def Bw(a:List UInt8):Bool:=rN (A5 a)
def Bo(a:List UInt8):List Int:=rW (A5 a)
def Bg(a:List UInt8):Bool:=rN (AF a)
def Be(a:List UInt8):List Int:=rW (AF a)
end Go.Sp
namespace Go.Pe
open Sp
open Go.Det
noncomputable section
noncomputable def Fy:Ao:=⟨[.str],fun s=>decide (s.length≤1000000),[i64],fun s=>A1 s,false⟩
noncomputable def Lf:Ao:=⟨[.str],fun s=>decide (s.length≤1000000),[i64],fun s=>AV s,false⟩
noncomputable def JR:Ao:=⟨[i64],fun n=>CS n,[IS],fun n=>(Sp.rN n,Sp.rW n),false⟩
noncomputable def Rd:Ao:=⟨[.str],fun s=>EW s,[IS,IS],fun s=>((Bw s,Bo s),(Bg s,Be s)),false⟩
noncomputable def KP:A9:=fJ [(77,[4,6,7,9,10])] [] [(77,[(4,[5,6,7,8]),(6,[5,6,7,8]),(7,[5,6,7,9]),(9,[5,6,7]),(10,[10])])] [(83,Lx),(85,Wv),(149,nJ),(150,cX),(151,Lc),(152,V0),(153,NQ),(154,dC),(105,Uc)]
noncomputable def jZ:A9:=X7 [(168,H7)]
noncomputable def uW:A9:=X7 [(89,Lf),(163,QP),(107,JR)]
noncomputable def RV:A9:=fJ [(24,[4,7,9,11,13,14])] [] [(24,[(4,[0,3]),(7,[3,4]),(9,[3,4]),(11,[3,4]),(13,[5,6]),(14,[7])])] [(89,Lf),(90,Lc),(91,Rd),(92,Kg)]
end
end Go.Pe
end
section
namespace Go.Sp
abbrev AA:=(Int×List Int)×(Int×List Int)
def Mm(a:AR):Bool:=De a&&decide (a.2.length≤4000)
def Ec(a:AA):Bool:=Mm a.1&&Mm a.2
def bY(a b:AA):Int:=BW (vI a.1*vI b.2) (vI b.1*vI a.2)
def Jy(a:List UInt8):Int:=Cn (A5 a)
def Jf(a:List UInt8):List Int:=Cm (A5 a)
def IY(a:List UInt8):Int:=Cn (AF a)
def IX(a:List UInt8):List Int:=Cm (AF a)
def iQ(a b:AR):AR:=if vI b<0 then GN (CT a) (CT b)else GN a b
def wA(a b:AR):Int:=(iQ a b).1
def wM(a b:AR):List Int:=(iQ a b).2
def Cz(d:AR):Bool:=decide (d.2=[])&&decide (d.1=1)
def gR(n d:AR):AR:=(LP n d,LX n d)
def Mh(n d:AR):AA:=if Cz d=true then(n,d)else(iQ n (gR n d),iQ d (gR n d))
def V7(n d:AR):AA:=if vI d<0 then Mh (CT n) (CT d)else Mh n d
def wX(n:AR):AA:=(n,(1,Dw 1))
def Mk(a b:AA):AA:=if Cz a.2=true∧Cz b.2=true then wX (D9 a.1 b.1)else V7 (D9 (EK a.1 b.2) (EK b.1 a.2)) (EK a.2 b.2)
def Us(a b:AA):AA:=V7 (EK a.1 b.1) (EK a.2 b.2)
def oA(a:AA):AA:=(CT a.1,a.2)
def YG(a b:AA):AA:=Mk a (oA b)
def TS(a:AA):AA:=V7 a.2 a.1
def X9(a b:AA):AA:=Us a (TS b)
def nS(f:AA):Int:=f.1.1
def nW(f:AA):List Int:=f.1.2
def dS(f:AA):Int:=f.2.1
def dW(f:AA):List Int:=f.2.2
def Vt(n d:AR):Int:=nS (V7 n d)
def U3(n d:AR):List Int:=nW (V7 n d)
def UX(n d:AR):Int:=dS (V7 n d)
def U8(n d:AR):List Int:=dW (V7 n d)
def eT(a b:AA):Int:=nS (Mk a b)
def dM(a b:AA):List Int:=nW (Mk a b)
def Zu(a b:AA):Int:=dS (Mk a b)
def dU(a b:AA):List Int:=dW (Mk a b)
def sE(a b:AA):Int:=nS (YG a b)
def tL(a b:AA):List Int:=nW (YG a b)
def tO(a b:AA):Int:=dS (YG a b)
def tG(a b:AA):List Int:=dW (YG a b)
def cW(a b:AA):Int:=nS (Us a b)
def eR(a b:AA):List Int:=nW (Us a b)
def bC(a b:AA):Int:=dS (Us a b)
def aJ(a b:AA):List Int:=dW (Us a b)
def sB(a:AA):Int:=nS (TS a)
def tF(a:AA):List Int:=nW (TS a)
def rR(a:AA):Int:=dS (TS a)
def sL(a:AA):List Int:=dW (TS a)
def tE(a b:AA):Int:=nS (X9 a b)
def sO(a b:AA):List Int:=nW (X9 a b)
def sF(a b:AA):Int:=dS (X9 a b)
def rZ(a b:AA):List Int:=dW (X9 a b)
def xK(a:AA):Int:=Wq a.1 a.2
def xD(a:AA):List Int:=WG a.1 a.2
def D5(a:AA):Bool:=Ec a&&decide (0<vI a.2)
def K4(n d:AR):Bool:=A8 n&&A8 d&&decide (vI d≠0)
end Go.Sp
namespace Go.Pe
open Sp
open Go.Det
noncomputable section
abbrev BH:Sh:=.pair By By
noncomputable def nH:Ao:=⟨[.str],fun s=>EW s,[BH],fun s=>((Jy s,Jf s),(IY s,IX s)),false⟩
noncomputable def mX:Ao:=⟨[BH,BH],fun i=>Sp.Ec (i.1:AA)&&Sp.Ec (i.2:AA),[i64],fun i=>bY (i.1:AA) (i.2:AA),false⟩
noncomputable def wR:Ao:=⟨[By,By],fun i=>K4 i.1 i.2,[By],fun i=>(wA i.1 i.2,wM i.1 i.2),false⟩
noncomputable def cQ:Ao:=⟨[By,By],fun i=>K4 i.1 i.2,[BH],fun i=>((Vt i.1 i.2,U3 i.1 i.2),(UX i.1 i.2,U8 i.1 i.2)),false⟩
noncomputable def NT:Ao:=⟨[BH],fun _=>true,[.bool],fun a=>Cz (a:AA).2,false⟩
noncomputable def Zb:Ao:=⟨[By],fun _=>true,[BH],fun n=>((n:AR),((1:Int),Dw 1)),false⟩
noncomputable def cF:Ao:=⟨[i64],fun _=>true,[BH],fun n=>(((n:Int),Dw n),((1:Int),Dw 1)),false⟩
noncomputable def nG:Ao:=⟨[BH],fun a=>De (a:AA).1,[BH],fun a=>((D6 (a:AA).1,D4 (a:AA).1),((a:AA).2.1,(a:AA).2.2)),false⟩
noncomputable def Wr:Ao:=⟨[BH,BH],fun i=>Sp.D5 (i.1:AA)&&Sp.D5 (i.2:AA),[BH],fun i=>((eT i.1 i.2,dM i.1 i.2),(Zu i.1 i.2,dU i.1 i.2)),false⟩
noncomputable def nD:Ao:=⟨[BH,BH],fun i=>Sp.D5 (i.1:AA)&&Sp.D5 (i.2:AA),[BH],fun i=>((sE i.1 i.2,tL i.1 i.2),(tO i.1 i.2,tG i.1 i.2)),false⟩
noncomputable def Zi:Ao:=⟨[BH,BH],fun i=>Sp.D5 (i.1:AA)&&Sp.D5 (i.2:AA),[BH],fun i=>((cW i.1 i.2,eR i.1 i.2),(bC i.1 i.2,aJ i.1 i.2)),false⟩
noncomputable def mF:Ao:=⟨[BH],fun a=>Sp.D5 (a:AA)&&decide (zf (a:AA).1≠0),[BH],fun a=>((sB a,tF a),(rR a,sL a)),false⟩
noncomputable def mQ:Ao:=⟨[BH,BH],fun i=>Sp.D5 (i.1:AA)&&Sp.D5 (i.2:AA)&&decide (zf (i.2:AA).1≠0),[BH],fun i=>((tE i.1 i.2,sO i.1 i.2),(sF i.1 i.2,rZ i.1 i.2)),false⟩
noncomputable def ZV:Ao:=⟨[BH],fun a=>Sp.D5 (a:AA),[By],fun a=>(xK a,xD a),false⟩
noncomputable def RW:A9:=fJ [(175,[3])] [] [(175,[(3,[2,3,4])])] [(173,Jt),(174,Tx),(176,Ge),(152,V0),(105,Uc),(158,OD),(159,PA),(154,dC),(150,cX),(153,NQ)]
noncomputable def mW:A9:=fJ [(104,[3,6])] [] [(104,[(3,[2,3,4]),(6,[2,3,4,5])])] [(173,Jt),(174,Tx),(152,V0),(175,wR)]
noncomputable def fF:A9:=fJ [(80,[3])] [] [(80,[(3,[2,3,4])])] [(156,NT),(157,Zb),(158,OD),(159,PA),(104,cQ)]
noncomputable def uM:A9:=X7 [(160,nG),(80,Wr),(82,Zi),(161,mF)]
end
end Go.Pe
end
section
namespace Go.Sp
def O7(a:List UInt8):List UInt8:=if Bk a=true then AL a else[49]
def Jw(a:List UInt8)(n:Int):Bool:=decide ((a.length:Int)≤2*n+2)&&decide (A1 a=0)&&decide (((AU (Aw a)).length:Int)≤n)&&decide (((O7 a).length:Int)≤n)
end Go.Sp
namespace Go.Pe
open Go.Det
noncomputable section
noncomputable def aL:Ao:=⟨[.str,i64],fun i=>decide (0≤(i.2:Int))&&decide ((i.2:Int)≤1000),[.bool],fun i=>Sp.Jw i.1 i.2,false⟩
noncomputable def Xd:Ao:=⟨[.str],fun s=>decide (s.length≤1000000),[.str],fun s=>Sp.AU s,false⟩
noncomputable def dI:Ao:=⟨[.str],fun s=>decide (s.length≤1000000),[.str],fun s=>Sp.Aw s,false⟩
noncomputable def V6:Ao:=⟨[.str],fun s=>decide (s.length≤1000000),[.str],fun s=>Sp.O7 s,false⟩
noncomputable def uG:A9:=X7 [(89,Lf)]
noncomputable def vX:A9:=X7 [(24,Fy),(100,Xd),(101,dI),(102,V6)]
end
end Go.Pe
end
section
namespace Go.Sp
def DE(a:List UInt8):Bool:=decide (a.length≤20)&&decide ((Aw (AU a)).length≤9)&&decide ((AL (AU a)).length≤9)
def H8(a:List UInt8):Int:=if preB a=true then -Az 0 (Aw (AU a))else Az 0 (Aw (AU a))
def QA(a:List UInt8):Int:=if Bk (AU a)=true then Az 0 (AL (AU a))else 1
def Gs(a:List UInt8):Int:=if a=[48]then 0 else if a.getD 0 0=45 then -1 else 1
def JG(a:List UInt8):List UInt8:=if a=[48]then a else if a.getD 0 0=45 then a.drop 1 else 45::a
def G3:Nat→Nat→Nat→List UInt8→List UInt8
 |0,_,_,acc=>acc
 |f+1,n,l,acc=>if n=0∧l≤acc.length then acc else G3 f (n/10) l (UInt8.ofNat (48+n % 10)::acc)
def Hn(n l:Int):List UInt8:=G3 64 n.toNat l.toNat []
def sZ(a b:Int):Bool:=decide (0≤a)&&decide (a<9223372036854775808)&&decide (0≤b)&&decide (b<9223372036854775808)
end Go.Sp
namespace Go.Pe
open Go.Det
noncomputable section
noncomputable def mY:Ao:=⟨[i64,i64],fun i=>Sp.sZ i.1 i.2,[i64],fun i=>Sp.gI i.1 i.2,false⟩
noncomputable def Qv:Ao:=⟨[.str],fun s=>decide (s.length≤1000000),[i64],fun s=>Sp.Gs s,false⟩
noncomputable def fC:Ao:=⟨[.str],fun s=>decide (s.length≤1000000),[.str],fun s=>Sp.JG s,false⟩
noncomputable def Nc:Ao:=⟨[i64,i64],fun i=>decide (0≤(i.1:Int))&&decide ((i.1:Int)<9223372036854775808)&&decide (0≤(i.2:Int))&&decide ((i.2:Int)≤20),[.str],fun i=>Sp.Hn i.1 i.2,false⟩
noncomputable def Mr:A9:=fJ [(95,[5,7,11,13])] [] [(95,[(5,[5,6]),(7,[5,6]),(11,[5,6,7,8,9]),(13,[6,8,9])])] [(165,RJ),(89,Lf)]
noncomputable def vG:A9:=X7 [(41,Qv)]
end
end Go.Pe
end
section
namespace Go.Sp
end Go.Sp
namespace Go.Pe
open Go.Det
noncomputable section
end
end Go.Pe
end
