import Derived.Test.YtnbinppdjnlhpaaGreatDoorX10
import Derived.Lib.Mul64
/- A part of a proof (no law is stated here). Made by program out of texts by AI agents. -/
open Go.IntKind renaming wrap → zc, u64 → zd, i64 → zS, wrap_i64 → yj, u8 → yv
open Go.Pe.Ends renaming tt → ze, leaf → zi, ite → zk, eq → zM, ff → zO, Af → zQ
open Bool renaming and_eq_true → zf, true_and → zI, false_eq_true → yd, or_eq_true → yo
open Go.Sp renaming vI → zg, u64 → zq, val → zC, sg → yc, hW → yw
open Go.Pe.Sh renaming int → zh, list → zx, nlist → zB, pair → zY
open Int renaming mul_le_mul_of_nonneg_right → zj, toNat_natCast → zl, fdiv → zn, eq_ofNat_of_zero_le → zp, mul_assoc → zr, mul_nonneg → zt, lt_or_le → zz, add_mul → zA, mul_comm → zD, mul_add → zF, mul_le_mul_of_nonneg_left → zG, lt_of_le_of_lt → zK, fdiv_eq_ediv_of_nonneg → zL, le_of_lt → zN, one_mul → zP, natCast_pow → zR, natCast_mul → zW, tdiv → zZ, natCast_add → z8, pow_succ → z9, tdiv_eq_ediv_of_nonneg → ye, add_assoc → yg, mul_zero → yk, zero_add → yn, ediv_nonneg → yq, mul_sub → yr, toNat → yu
open List renaming replicate → zm, getD_eq_getElem?_getD → zo, take_of_length_le → zw, getElem?_eq_getElem → zE, take_length → zT, drop_eq_getElem_cons → zU, length → zX, getElem?_eq_none → z5, all_eq_true → z6, append_assoc → yf, cons_append → yi
open Nat renaming add → zu, mod_eq_of_lt → yh, two_pow_pos → yp, pow_add → yt
open Go.Pe.Ae renaming of → zy
open BitVec renaming ofInt → zH, ofInt_natCast → z7, toNat_ofNat → ya
open UInt8 renaming toNat → zJ
open Go.Pe.PV renaming agg → zV
open Go.Lib renaming half_mul_le → yb
open Min renaming min → ym
section
namespace Go.Sp
theorem Ax(b:Int):∀(l:List Int) (i:Nat),val b (l.take (i+1))=val b (l.take i)+b^i*l.getD i 0
 |[],i=>by simp[val]
 |x::l,0=>by
  show x+b*val b (l.take 0)=0+b^0*x;simp[val]
 |x::l,i+1=>by
  have:=Ax b l i;show x+b*val b (l.take (i+1))=x+b*val b (l.take i)+b^(i+1)*l.getD i 0;rw[this,zF,z9,zD (b^i) b,zr,yg]
theorem HD{l:List Int}(h:Cs l=true):l.length≤20000∧At An l:=by
 unfold Cs at h;rw[zf,decide_eq_true_eq,z6]at h;exact⟨h.1,fun d hd=>by
  have:=h.2 d hd;rw[zf,decide_eq_true_eq,decide_eq_true_eq]at this;exact this⟩
theorem DQ{l:List Int}(h1:l.length≤20000)(h2:At An l):Cs l=true:=by
 unfold Cs;rw[zf,decide_eq_true_eq,z6];exact⟨h1,fun d hd=>by
  have:=h2 d hd;rw[zf,decide_eq_true_eq,decide_eq_true_eq];exact this⟩
theorem TX{l:List Int}(h:hW l=true):l.length≤9000∧At An l:=by
 unfold hW at h;rw[zf,decide_eq_true_eq]at h;exact⟨h.2,(HD h.1).2⟩
theorem AO{l:List Int}(h:At An l)(i:Nat):u64 (l.getD i 0)=true:=by
 unfold u64;rw[zf,decide_eq_true_eq,decide_eq_true_eq];rcases Nat.lt_or_ge i l.length with hi|hi
 ·have:l.getD i 0∈l:=by rw[zo,zE hi];exact List.getElem_mem hi
  exact h _ this
 ·rw[zo,z5 hi];exact⟨by decide,by decide⟩
theorem AV{n:Int}(h:u64 n=true):0≤n∧n<18446744073709551616:=by
 unfold u64 at h;rw[zf,decide_eq_true_eq,decide_eq_true_eq]at h;exact h
theorem Cm{n:Int}(h1:0≤n)(h2:n<18446744073709551616):u64 n=true:=by
 unfold u64;rw[zf,decide_eq_true_eq,decide_eq_true_eq];exact⟨h1,h2⟩
theorem Dz{l:List Int}{x:Int}(h:At An l)(hx:u64 x=true):At An (l++[x]):=by
 intro d hd;rw[List.mem_append,List.mem_singleton]at hd;rcases hd with hd|rfl
 ·exact h d hd
 ·exact AV hx
theorem IW{x y c:Int}(hx:u64 x=true)(hy:u64 y=true)(hc:0≤c∧c≤1):u64 (GO x y c)=true∧(0≤Nr x y c∧Nr x y c≤1)∧GO x y c+18446744073709551616*Nr x y c=x+y+c:=by
 have:=AV hx;have:=AV hy;unfold GO Nr;exact⟨Cm (by omega) (by omega),⟨by omega,by omega⟩,by omega⟩
theorem MZ{x y c:Int}(hx:u64 x=true)(hy:u64 y=true)(hc:0≤c∧c≤1):u64 (QG x y c)=true∧(0≤NR x y c∧NR x y c≤1)∧QG x y c-18446744073709551616*NR x y c=x-y-c:=by
 have:=AV hx;have:=AV hy;unfold QG NR;refine⟨Cm (by omega) (by omega),?_,?_⟩<;>split<;>omega
theorem Ef(l:List Int)(x:Int):val An (l++[x])=val An l+(An:Int)^l.length*x:=by
 rw[Cy];simp[val]
theorem JB(i:Nat)(c:Int):(An:Int)^(i+1)*c=(An:Int)^i*(18446744073709551616*c):=by
 rw[z9,zr];rfl
theorem HY(p:List Int)(n i:Nat)(x:Int)(h:p.length=i)(hi:i<n):(p++zm (n-i) (0:Int)).set i x=(p++[x])++zm (n-(i+1)) 0:=by
 have:n-i=(n-(i+1))+1:=by omega
 rw[this,List.replicate_succ,Pe.Cw p _ 0 x h,yf];rfl
theorem IM{l:List Int}(h:At An l):Az l=BL (Ao l):=UI (by decide) h
end Go.Sp
end
section
namespace Go.Pe
open Sp
open Go.Det
noncomputable section
open List Int Prod
namespace T230
def T(n:Int):Tr:=tree Ro false 9 230 (Ag ([zh zS]) n)
theorem Ap(n:Int):T n=.ite (decide (n<0)) (.leaf (.dat (zh zd) (zc .u64 (zc .i64 (0-n)))) []) (.leaf (.dat (zh zd) (zc .u64 n)) []):=by kernel_rfl
end T230
namespace T231
def T(a:Int×List Int):Tr:=tree IN false 9 231 (Ag ([zY i64 (zB (zh zd))]) a)
theorem Ap(a:Int×List Int):T a=let a':=zB (zh zd);let b':=[(0,.box [.dat i64 (fst a),.dat a' (snd a)])];.ite (decide (0<length (snd a))) (.leaf (.tup [.dat Sh.bool (decide (fst a<0)),.dat a' (snd a)]) b') (.ite (fst a==0) (.leaf (.tup [.bl false,.nil]) b') (.ite (GG (fst a)) (.leaf (.tup [.dat Sh.bool (decide (fst a<0)),.sl (zu 0 1) 1 0 1 none]) ([(zu 0 1,.arr false 288 (zh zd) [Ah (fst a)]),(0,.box [.dat i64 (fst a),.dat a' (snd a)])])) .fail)):=by kernel_rfl
end T231
namespace T232
def T(neg:Bool)(w:List Int):Tr:=tree IN false 9 232 (Ag ([Sh.bool,zx (zh zd)]) (neg,w))
theorem Ap(neg:Bool)(w:List Int):T neg w=let c':=zx (zh zd);let e':=zc .i64 (0-zc .i64 (getD w 0 0));let f':=decide (getD w 0 0≤9223372036854775807);let g':=(length w:Int);let h':=zc .i64 (getD w 0 0);let b':Tr:=.ite neg (.leaf (zV [.dat i64 (-1:Int),.dat c' w]) ([(0,.box [.dat i64 (-1:Int),.dat c' w])])) (.leaf (zV [.dat i64 (1:Int),.dat c' w]) ([(0,.box [.dat i64 (1:Int),.dat c' w])]));let d':=decide (0<g');let a':Tr:=.ite (g'==1) (.ite d' (.ite f' (.ite d' (.leaf (zV [.dat i64 h',.nil]) ([(0,.box [.dat i64 h',.nil])])) .fail) b') .fail) b';.ite (g'==0) (.leaf (zV [.dat i64 (0:Int),.nil]) ([(0,.box [.dat i64 (0:Int),.nil])])) (.ite (g'==1) (.ite d' (.ite f' (.ite neg (.ite d' (.leaf (zV [.dat i64 e',.nil]) ([(0,.box [.dat i64 e',.nil])])) .fail) a') a') .fail) a'):=by kernel_rfl
end T232
namespace T295
def T(w:List Int):Tr:=tree Ro false 9 295 (Ag ([zx (zh zd)]) w)
def L1(v0:List Int)(v3:Int):Tr:=re ((T [])) (Al 21 [(0,.dat (zx (zh zd)) v0),(3,.dat i64 v3)] [] 0)
theorem Ap(w:List Int):T w=L1 w ((length w:Int)):=by kernel_rfl
theorem Ai(v0:List Int)(v3:Int):stepT Ro (L1 v0 v3)=let a':Tr:=.ite (decide (0≤v3)&&decide (0≤toNat v3)&&decide (toNat v3≤length v0)) (.leaf (.dat (zx (zh zd)) (take (toNat v3) v0)) []) .fail;let b':=zc .i64 (v3-1);.ite (decide (v3>0)) (.ite (decide (0≤zc .i64 (v3-1))&&decide (zc .i64 (v3-1)<(length v0:Int))) (.ite (getD v0 (toNat b') 0==0) (L1 v0 b') a') .fail) a':=by kernel_rfl
end T295
namespace T292
def T(a b:List Int):Tr:=tree Ro false 9 292 (Ag ([zx (zh zd),zx (zh zd)]) (a,b))
def L1(v0 v1:List Int)(v5:Int):Tr:=re ((T [] []).R) (Al 41 [(0,.dat (zx (zh zd)) v0),(1,.dat (zx (zh zd)) v1),(5,.dat i64 v5)] [] 0)
theorem Ap(a b:List Int):T a b=let a':=(length a:Int);.ite (a' !=(length b:Int)) (.ite (decide (a'<(length b:Int))) (.leaf (.dat i64 (-1:Int)) []) (.leaf (.dat i64 (1:Int)) [])) (L1 a b (zc .i64 (a'-1))):=by kernel_rfl
theorem Ai(v0 v1:List Int)(v5:Int):stepT Ro (L1 v0 v1 v5)=let a':=decide (0≤v5)&&decide (v5<(length v0:Int));let b':=decide (0≤v5)&&decide (v5<(length v1:Int));.ite (decide (v5≥0)) (.ite a' (.ite b' (.ite (getD v0 (toNat v5) 0 !=getD v1 (toNat v5) 0) (.ite a' (.ite b' (.ite (decide (getD v0 (toNat v5) 0<getD v1 (toNat v5) 0)) (.leaf (.dat i64 (-1:Int)) []) (.leaf (.dat i64 (1:Int)) [])) .fail) .fail) (L1 v0 v1 (zc .i64 (v5-1)))) .fail) .fail) (.leaf (.dat i64 (0:Int)) []):=by kernel_rfl
end T292
namespace T291
def T(x y:List Int):Tr:=tree IN false 9 291 (Ag ([zx (zh zd),zx (zh zd)]) (x,y))
def L1(v0 v1:List Int)(v5n:Nat)(v6 v21 v22:Int)(o0:List Int):Tr:=re ((T [] []).L.L) (Al 54 [(0,.dat (zx (zh zd)) v0),(1,.dat (zx (zh zd)) v1),(5,.sl 0 1 0 v5n none),(6,.dat (zh zd) v6),(21,.dat i64 v21),(22,.dat i64 v22)] [(0,.arr false 288 (zh zd) o0)] 1)
theorem Ap(x y:List Int):T x y=let a':=(length x:Int);let b':=(length y:Int);let c':=zc .i64 (b'+1);let d':=zc .i64 (a'+1);.ite (decide (a'<b')) (.ite (decide (0≤zc .i64 (b'+1))&&decide (zc .i64 (b'+1)=zc .i64 (b'+1))&&decide (8*toNat c'≤281474976710656)&&decide (zc .i64 (b'+1)<9223372036854775808)) (L1 y x (toNat c') 0 (b') 0 (replicate (toNat c') 0)) .fail) (.ite (decide (0≤zc .i64 (a'+1))&&decide (zc .i64 (a'+1)=zc .i64 (a'+1))&&decide (8*toNat d'≤281474976710656)&&decide (zc .i64 (a'+1)<9223372036854775808)) (L1 x y (toNat d') 0 (a') 0 (replicate (toNat d') 0)) .fail):=by kernel_rfl
theorem Ai(v0 v1:List Int)(v5n:Nat)(v6 v21 v22:Int)(o0:List Int):stepT IN (L1 v0 v1 v5n v6 v21 v22 o0)=let a':=getD v0 (toNat v22) 0;let b':=(length v0:Int);let d':=getD v1 (toNat v22) 0;let e':=decide (0≤v22)&&decide (v22<(↑v5n:Int));let f':=decide ((0:Sh.T (Bi [u64]))≤v6);let g':=decide (v6≤(1:Sh.T (Bi [u64])));let i':=decide (toNat v22<length o0);let j':=decide (v22<(length v1:Int));let k':=zc .i64 (v22+1);let c':=set o0 (toNat b') v6;let h':=decide (0≤v22)&&decide (v22<b');.ite (decide (v22<v21)) (.ite (j') (.ite (decide (0≤v22)&&j') (.ite h' (.ite (zq a'&&zq d'&&f'&&g') (.ite e' (.ite i' (L1 v0 v1 v5n (Nr a' d' v6) v21 k' (set o0 (toNat v22) (GO a' d' v6))) .fail) .fail) .fail) .fail) .fail) (.ite h' (.ite (zq a'&&zq 0&&f'&&g') (.ite e' (.ite i' (L1 v0 v1 v5n (Nr a' 0 v6) v21 k' (set o0 (toNat v22) (GO a' 0 v6))) .fail) .fail) .fail) .fail)) (.ite (decide (0≤b')&&decide (b'<(↑v5n:Int))) (.ite (decide (toNat b'<length o0)) (.ite (decide (0+v5n≤length c')&&true&&Cs (take v5n c')) (.leaf (.dat (zx (zh zd)) (Az (take v5n c'))) ([(0,.arr true 288 (zh zd) c')])) .fail) .fail) .fail):=by kernel_rfl
end T291
namespace T293
def T(x y:List Int):Tr:=tree IN false 9 293 (Ag ([zx (zh zd),zx (zh zd)]) (x,y))
def L1(v0 v1:List Int)(v5n:Nat)(v6 v13 v14:Int)(o0:List Int):Tr:=re ((T [] []).L) (Al 41 [(0,.dat (zx (zh zd)) v0),(1,.dat (zx (zh zd)) v1),(5,.sl 0 1 0 v5n none),(6,.dat (zh zd) v6),(13,.dat i64 v13),(14,.dat i64 v14)] [(0,.arr false 288 (zh zd) o0)] 1)
theorem Ap(x y:List Int):T x y=let a':=(length x:Int);.ite (decide (0≤a')&&decide (a'=a')&&decide (8*toNat a'≤281474976710656)&&decide (a'<9223372036854775808)) (L1 x y (toNat a') 0 (a') 0 (replicate (toNat a') 0)) .fail:=by kernel_rfl
theorem Ai(v0 v1:List Int)(v5n:Nat)(v6 v13 v14:Int)(o0:List Int):stepT IN (L1 v0 v1 v5n v6 v13 v14 o0)=let a':=getD v0 (toNat v14) 0;let b':=decide (0≤v14)&&decide (v14<(length v0:Int));let c':=getD v1 (toNat v14) 0;let d':=decide (0≤v14)&&decide (v14<(↑v5n:Int));let e':=decide ((0:Sh.T (Bi [u64]))≤v6);let f':=decide (v6≤(1:Sh.T (Bi [u64])));let g':=decide (toNat v14<length o0);let h':=decide (v14<(length v1:Int));let i':=zc .i64 (v14+1);.ite (decide (v14<v13)) (.ite (h') (.ite (decide (0≤v14)&&h') (.ite b' (.ite (zq a'&&zq c'&&e'&&f') (.ite d' (.ite g' (L1 v0 v1 v5n (NR a' c' v6) v13 i' (set o0 (toNat v14) (QG a' c' v6))) .fail) .fail) .fail) .fail) .fail) (.ite b' (.ite (zq a'&&zq 0&&e'&&f') (.ite d' (.ite g' (L1 v0 v1 v5n (NR a' 0 v6) v13 i' (set o0 (toNat v14) (QG a' 0 v6))) .fail) .fail) .fail) .fail)) (.ite (decide (0+v5n≤length o0)&&true&&Cs (take v5n o0)) (.leaf (.dat (zx (zh zd)) (Az (take v5n o0))) ([(0,.arr true 288 (zh zd) o0)])) .fail):=by kernel_rfl
end T293
namespace T229
def T(x y:Int):Tr:=tree Ro false 9 229 (Ag ([zh zd,zh zd]) (x,y))
theorem Ap(x y:Int):T x y=let a':=zc .u64 (zc .u64 (zn x (2^32)*EK zd y 4294967295)+zn (zc .u64 (EK zd x 4294967295*EK zd y 4294967295)) (2^32));.ite true (.ite true (.ite true (.ite true (.ite true (.leaf (.tup [.dat (zh zd) (zc .u64 (zc .u64 (zc .u64 (zn x (2^32)*zn y (2^32))+zn a' (2^32))+zn (zc .u64 (EK zd a' 4294967295+zc .u64 (EK zd x 4294967295*zn y (2^32)))) (2^32))),.dat (zh zd) (zc .u64 (x*y))]) []) .fail) .fail) .fail) .fail) .fail:=by kernel_rfl
end T229
namespace T233
def T(x y:List Int):Tr:=tree IN false 9 233 (Ag ([zx (zh zd),zx (zh zd)]) (x,y))
def L1(v1:List Int)(v5n:Nat)(v20:List Int)(v21 v22:Int)(o0:List Int):Tr:=re ((T [] []).L) (Al 80 [(1,.dat (zx (zh zd)) v1),(5,.sl 0 1 0 v5n none),(20,.dat (zx (zh zd)) v20),(21,.dat i64 v21),(22,.dat i64 v22)] [(0,.arr false 288 (zh zd) o0)] 1)
theorem Ap(x y:List Int):T x y=let a':=(length x:Int)+(length y:Int);let b':=zc .i64 a';.ite (decide (0≤zc .i64 a')&&decide (zc .i64 a'=zc .i64 a')&&decide (8*toNat b'≤281474976710656)&&decide (zc .i64 a'<9223372036854775808)) (L1 y (toNat b') x ((length x:Int)) 0 (replicate (toNat b') 0)) .fail:=by kernel_rfl
def L2(v1:List Int)(v5n:Nat)(v6 v7 v8:Int)(v20:List Int)(v21 v22:Int)(v27:List Int)(v28 v29:Int)(o0:List Int):Tr:=re ((stepT IN (L1 [] 0 [] 0 0 [])).L.L) (Al 80 [(1,.dat (zx (zh zd)) v1),(5,.sl 0 1 0 v5n none),(6,.dat i64 v6),(7,.dat (zh zd) v7),(8,.dat (zh zd) v8),(20,.dat (zx (zh zd)) v20),(21,.dat i64 v21),(22,.dat i64 v22),(27,.dat (zx (zh zd)) v27),(28,.dat i64 v28),(29,.dat i64 v29)] [(0,.arr false 288 (zh zd) o0)] 1)
theorem Ai(v1:List Int)(v5n:Nat)(v20:List Int)(v21 v22:Int)(o0:List Int):stepT IN (L1 v1 v5n v20 v21 v22 o0)=.ite (decide (v22<v21)) (.ite (decide (0≤v22)&&decide (v22<(length v20:Int))) (L2 v1 v5n v22 (getD v20 (toNat v22) 0) 0 v20 v21 v22 v1 ((length v1:Int)) 0 o0) .fail) (.ite (decide (0+v5n≤length o0)&&true&&Cs (take v5n o0)) (.leaf (.dat (zx (zh zd)) (Az (take v5n o0))) ([(0,.arr true 288 (zh zd) o0)])) .fail):=by kernel_rfl
theorem AN(v1:List Int)(v5n:Nat)(v6 v7 v8:Int)(v20:List Int)(v21 v22:Int)(v27:List Int)(v28 v29:Int)(o0:List Int):stepT IN (L2 v1 v5n v6 v7 v8 v20 v21 v22 v27 v28 v29 o0)=let b':=zc .i64 (v6+v29);let c':=getD v27 (toNat v29) 0;let d':=decide (0≤zc .i64 (v6+v29))&&decide (zc .i64 (v6+v29)<(↑v5n:Int));let e':=v6+(length v1:Int);let g':=decide ((0:Sh.T (Bi [u64]))≤0);let h':=decide (0≤(1:Sh.T (Bi [u64])));let f':=getD o0 (toNat b') 0;let i':=decide (toNat b'<length o0);let j':=G5 v7 c';let a':=GO j' f' 0;.ite (decide (v29<v28)) (.ite (decide (0≤v29)&&decide (v29<(length v27:Int))) (.ite (zq v7&&zq c') (.ite d' (.ite i' (.ite (zq j'&&zq f'&&g'&&h') (.ite (zq a'&&zq v8&&g'&&h') (.ite d' (.ite i' (L2 v1 v5n v6 v7 (zc .u64 (zc .u64 (OL v7 c'+Nr j' f' 0)+Nr a' v8 0)) v20 v21 v22 v27 v28 (zc .i64 (v29+1)) (set o0 (toNat b') (GO a' v8 0))) .fail) .fail) .fail) .fail) .fail) .fail) .fail) .fail) (.ite (decide (0≤zc .i64 e')&&decide (zc .i64 e'<(↑v5n:Int))) (.ite (decide (toNat (zc .i64 e')<length o0)) (L1 v1 v5n v20 v21 (zc .i64 (v22+1)) (set o0 (toNat (zc .i64 e')) v8)) .fail) .fail):=by kernel_rfl
end T233
end
end Go.Pe
end
section
namespace Go.Pe
open Sp
open Go.Det
theorem HJ:∀g sp,Ro.sp g=some sp→Ad AR g sp:=fun g sp h=>by cases h
theorem wu(x:Int)(h1:0≤x)(h2:x≤18446744073709551615):zc .u64 x=x:=IntWalk.u64_in x ⟨h1,h2⟩
theorem E6{n:Int}(h:GG n=true): -9223372036854775808≤n∧n<9223372036854775808:=by
 unfold GG at h;rw[zf,decide_eq_true_eq,decide_eq_true_eq]at h;exact h
namespace T230
theorem ok:Ad AR 230 Sl:=by
 refine Av (X:=Ro) rfl HJ (d:=9) (by kernel_rfl) (by kernel_rfl) (by kernel_rfl) (fun(n:Int) hn=>?_) (Ab (by kernel_rfl));have hn:=E6 (n:=n) hn;refine zM (Ap n) (zk (fun c=>?_) (fun c=>?_))
 ·have c:=of_decide_eq_true c;refine zi (zy rfl rfl ?_);show zc .u64 (zc .i64 (0-n))=Ah n;simp only[Ar];rcases zz (-9223372036854775808) n with h|h
  ·rw[wr _ (by omega) (by omega),wu _ (by omega) (by omega)];omega
  ·have:n= -9223372036854775808:=by omega
   subst this;decide+kernel
 ·have c:=of_decide_eq_false c;refine zi (zy rfl rfl ?_);show zc .u64 n=Ah n;simp only[Ar];rw[wu _ (by omega) (by omega)];omega
end T230
namespace T295
theorem Aj{Q:PV→Ob→Prop}(w:List Int)(hw:w.length≤20000)(hq:∀ob,Q (.dat CS (Az w)) ob):∀(i:Nat),i≤w.length→Az w=Az (w.take i)→Ends Ro (L1 w i) Q
 |0,hi,he=>by
  have he:Az w=[]:=he;rw[he]at hq;refine zQ (Ai ..) (zO (by simp) (ze (by simp) (zi (hq _))))
 |i+1,hi,he=>by
  have e1:zc .i64 (((i+1:Nat):Int)-1)=(i:Int):=by rw[wr _ (by omega) (by omega)];omega
  have ht:w.take (i+1)=w.take i++[w.getD i 0]:=by
   rw[List.take_add_one];congr 1;rw[zo,zE (by omega)];rfl
  refine zQ (Ai ..) (ze (by simp<;>omega) ?_);rw[e1,zl];refine ze (by simp<;>omega) (zk (fun c=>?_) (fun c=>?_))
  ·have c:w.getD i 0=0:=by simpa using c
   refine Aj w hw hq i (by omega) ?_;rw[he,ht,c,Ht]
  ·have c:w.getD i 0≠0:=by simpa using c
   refine ze (by simp;omega) (zi ?_);have:Az w=w.take (i+1):=by rw[he,ht,Hg (Ue c)]
   rw[this]at hq;exact hq _
theorem ok:Ad AR 295 Tl:=by
 refine Av (X:=Ro) rfl HJ (d:=9) (by kernel_rfl) (by kernel_rfl) (by kernel_rfl) (fun(w:List Int) hw=>?_) (Ab (by kernel_rfl));obtain⟨h1,h2⟩:=HD (l:=w) hw;refine zM (Ap w) (Aj w h1 (fun ob=>zy rfl rfl rfl) w.length (Nat.le_refl _) (by rw[zT]))
end T295
theorem Ed{l:List Int}(h:BV l=true):l.length≤20000∧At An l∧Sp.nz l:=by
 unfold BV at h;rw[zf]at h;have:=HD h.1;exact⟨this.1,this.2,by
  have:=h.2;unfold fT at this;have:l.getLast?≠some 0:=of_decide_eq_true this;exact this⟩
namespace T292
theorem Aj{Q:PV→Ob→Prop}(a b:List Int)(ha:At An a)(hb:At An b)(hl:a.length=b.length)(h2:b.length≤20000)(hq:∀ob,Q (.dat i64 (BB (Ao a) (Ao b))) ob):∀(i:Nat),i≤a.length→a.drop i=b.drop i→Ends Ro (L1 a b ((i:Int)-1)) Q
 |0,hi,he=>by
  have he:a=b:=he;have:BB (Ao a) (Ao b)=0:=by rw[he];unfold BB;simp
  rw[this]at hq;exact zQ (Ai ..) (zO (by simp) (zi (hq _)))
 |i+1,hi,he=>by
  have e1:(((i+1:Nat):Int)-1)=(i:Int):=by omega
  have da:a.drop i=a.getD i 0::a.drop (i+1):=by
   rw[zo,zE (by omega)];exact zU (by omega)
  have db:b.drop i=b.getD i 0::a.drop (i+1):=by
   rw[he,zo,zE (by omega)];exact zU (by omega)
  have ga:=Sp.AV (AO ha i);have gb:=Sp.AV (AO hb i);rw[e1];refine zQ (Ai ..) (ze (by simp) ?_);rw[zl];refine ze (by simp;omega) (ze (by simp;omega) (zk (fun c=>ze (by simp;omega) (ze (by simp;omega) (zk (fun d=>?_) (fun d=>?_)))) (fun c=>?_)))
  ·have d:=of_decide_eq_true d;have:=HZ (b:=An) (by decide) ha hb da db d;have e:BB (Ao a) (Ao b)= -1:=by unfold BB;exact if_pos this
   rw[e]at hq;exact zi (hq _)
  ·have d:=of_decide_eq_false d;have c:a.getD i 0≠b.getD i 0:=by simpa using c
   have:=HZ (b:=An) (by decide) hb ha db da (by omega);have e:BB (Ao a) (Ao b)=1:=by
    unfold BB Ao;rw[if_neg (by omega),if_pos (by omega)]
   rw[e]at hq;exact zi (hq _)
  ·have c:a.getD i 0=b.getD i 0:=by simpa using c
   rw[wr ((i:Int)-1) (by omega) (by omega)];exact Aj a b ha hb hl h2 hq i (by omega) (by rw[da,db,c])
theorem ok:Ad AR 292 Un:=by
 refine Av (X:=Ro) rfl HJ (d:=9) (by kernel_rfl) (by kernel_rfl) (by kernel_rfl) (fun(i:List Int×List Int) hi=>?_) (Ab (by kernel_rfl));obtain⟨a,b⟩:=i;have hi:(BV a&&BV b)=true:=hi;rw[zf]at hi;obtain⟨a1,a2,a3⟩:=Ed hi.1;obtain⟨b1,b2,b3⟩:=Ed hi.2;have hq:∀ob,Ae Un (a,b) (.dat i64 (BB (Ao a) (Ao b))) ob:=fun ob=>zy rfl rfl rfl
 refine zM (Ap a b) (zk (fun c=>zk (fun d=>?_) (fun d=>?_)) (fun c=>?_))
 ·have d:=of_decide_eq_true d;have e:BB (Ao a) (Ao b)= -1:=by unfold BB;exact if_pos (DU (by decide) a2 b2 b3 (by omega))
  rw[e]at hq;exact zi (hq _)
 ·have d:=of_decide_eq_false d;have c:(a.length:Int)≠b.length:=by simpa using c
  have:=DU (b:=An) (by decide) b2 a2 a3 (by omega);have e:BB (Ao a) (Ao b)=1:=by
   unfold BB Ao;rw[if_neg (by omega),if_pos (by omega)]
  rw[e]at hq;exact zi (hq _)
 ·have c:(a.length:Int)=b.length:=by simpa using c
  rw[wr _ (by omega) (by omega)];exact Aj a b a2 b2 (by omega) b1 hq a.length (Nat.le_refl _) (by rw[List.drop_length,show a.length=b.length by omega,List.drop_length])
end T292
end Go.Pe
end
section
namespace Go.Pe
open Sp
open Go.Det
theorem Em{a:Bl}(h:EY a=true):(-9223372036854775808≤a.1∧a.1<9223372036854775808)∧(a.2=[]∨(BV a.2=true∧(a.1=1∨a.1= -1)∧9223372036854775808≤Ao a.2)):=by
 unfold EY at h;rw[zf,yo,zf,zf,yo,decide_eq_true_eq,decide_eq_true_eq,decide_eq_true_eq,decide_eq_true_eq]at h;exact⟨E6 h.1,h.2.imp id fun h=>⟨h.1.1,h.1.2,h.2⟩⟩
theorem val_one(d:Int):zC An [d]=d:=by simp[zC]
theorem fR{d:Int}(h1:0<d)(h2:d<18446744073709551616):[d]=BL d:=by
 have:=KT (b:=An) (l:=[d]) (by decide) (fun x hx=>by rw[List.mem_singleton]at hx;subst hx;exact⟨by omega,h2⟩) (by unfold Sp.nz;simp;omega);rw[val_one]at this;exact this
theorem En{s:Int}:zg (s,[])=s:=by unfold zg;exact if_pos rfl
namespace T231
theorem ok(hall:∀g sp,IN.sp g=some sp→Ad AR g sp):Ad AR 231 SK:=by
 refine Av (X:=IN) rfl hall (d:=9) (by kernel_rfl) (by kernel_rfl) (by kernel_rfl) (fun(a:Int×List Int) ha=>?_) (Ab (by kernel_rfl));obtain⟨hr,hw⟩:=Em (a:=a) ha;obtain⟨s,w⟩:=a;have hr: -9223372036854775808≤s∧s<9223372036854775808:=hr;refine zM (Ap (s,w)) (zk (fun c=>?_) (fun c=>zk (fun d=>?_) (fun d=>ze ?_ ?_)))
 ·have c:0<w.length:=of_decide_eq_true c;have hne:w≠[]:=by rintro rfl;simp at c
  rcases hw with hw|⟨h1,h2,h3⟩
  ·exact absurd hw hne
  ·obtain⟨n1,n2,n3⟩:=Ed h1;have h2:s=1∨s= -1:=h2;have h3:9223372036854775808≤Ao w:=h3;have ev:zg (s,w)=if s<0 then -Ao w else Ao w:=by unfold zg;exact if_neg hne
   have e1:Ah (zg (s,w))=Ao w:=by rw[ev];simp only[Ar];split<;>omega
   have e2:decide (zg (s,w)<0)=decide (s<0):=by
    rw[ev];rcases h2 with rfl|rfl<;>simp<;>omega
   refine zi (zy rfl rfl ?_);show(decide (s<0),w)=(decide (zg (s,w)<0),BL (Ah (zg (s,w))));rw[e1,e2,show w=BL (Ao w)from KT (by decide) n2 n3];congr 2;exact(Dv (b:=An) (by decide) (Aw (b:=An) (by decide) n2)).symm
 all_goals
  have c:¬0<w.length:=of_decide_eq_false c;have hn:w=[]:=List.length_eq_zero_iff.1 (by omega);subst hn
 ·have d:s=0:=by simpa using d
  subst d;exact zi (zy rfl rfl rfl)
 ·show GG s=true;unfold GG;rw[zf,decide_eq_true_eq,decide_eq_true_eq];exact hr
 ·have d:s≠0:=by simpa using d
  refine zi (zy rfl rfl ?_);show(decide (s<0),[Ah s])=(decide (zg (s,[])<0),BL (Ah (zg (s,[]))));rw[En,fR (d:=Ah s) (by simp only[Ar];omega) (by simp only[Ar];omega)]
end T231
theorem BP{n:Int}(h: -9223372036854775808<n∧n<9223372036854775808):Cr n=(n,[]):=if_pos h
theorem P0{w:List Int}(neg:Bool)(h1:At An w)(h2:Sp.nz w)(h3:9223372036854775808≤Ao w):Cr (if neg=true then -Ao w else Ao w)=(if neg=true then -1 else 1,w):=by
 have e:BL (Ao w)=w:=(KT (by decide) h1 h2).symm;cases neg with
 |true=>
  simp only[if_true];unfold Cr;rw[if_neg (by omega),if_pos (by omega)];rw[show Ah (-Ao w)=Ao w by simp only[Ar];omega,e]
 |false=>
  show Cr (Ao w)=(1,w);unfold Cr;rw[if_neg (by omega),if_neg (by omega)];rw[show Ah (Ao w)=Ao w by simp only[Ar];omega,e]
namespace T232
theorem ok(hall:∀g sp,IN.sp g=some sp→Ad AR g sp):Ad AR 232 Wx:=by
 refine Av (X:=IN) rfl hall (d:=9) (by kernel_rfl) (by kernel_rfl) (by kernel_rfl) (fun(i:Bool×List Int) hi=>?_) (Ab (by kernel_rfl));obtain⟨neg,w⟩:=i;obtain⟨n1,n2,n3⟩:=Ed (l:=w) hi;refine zM (Ap neg w) ?_;conv=>zeta
 cases w with
 |nil=>
  refine ze rfl (zi (zy rfl rfl ?_));show _=Cr (if neg=true then -0 else 0);rw[show(if neg=true then(-0:Int)else 0)=0 by split<;>rfl,BP (by omega)]
 |cons d t=>
  cases t with
  |nil=>
   have hd:=n2 d (by simp);have hz:d≠0:=by intro h;subst h;exact n3 rfl
   have hd1:0≤d:=hd.1;have hd2:d<18446744073709551616:=hd.2;have ev:Ao [d]=d:=val_one d;refine zO rfl (ze rfl (ze rfl (zk (fun c=>?_) (fun c=>?_))))
   ·have c:d≤9223372036854775807:=of_decide_eq_true c;have e1:zc .i64 d=d:=wr _ (by omega) (by omega);have e2:zc .i64 (0-d)= -d:=by rw[wr _ (by omega) (by omega)];omega
    refine zk (fun n=>ze rfl (zi (zy rfl rfl ?_))) (fun n=>ze rfl (ze rfl (ze (decide_eq_true c) (ze rfl (zi (zy rfl rfl ?_))))))
    ·show(zc .i64 (0-zc .i64 d),[])=Cr (if neg=true then -Ao [d]else Ao [d]);rw[e1,e2,if_pos n,ev,BP (by omega)]
    ·show(zc .i64 d,[])=Cr (if neg=true then -Ao [d]else Ao [d]);subst n;rw[e1,if_neg (by decide),ev,BP (by omega)]
   ·have c':¬d≤9223372036854775807:=of_decide_eq_false c;have hb:=P0 neg n2 n3 (by rw[ev];omega);refine ze rfl (ze rfl (zO c (zk (fun n=>zi (zy rfl rfl ?_)) (fun n=>zi (zy rfl rfl ?_)))))
    ·show(-1,[d])=Cr (if neg=true then -Ao [d]else Ao [d]);rw[hb,if_pos n]
    ·show(1,[d])=Cr (if neg=true then -Ao [d]else Ao [d]);rw[hb,n];rfl
  |cons e t=>
   have hv:9223372036854775808≤Ao (d::e::t):=by
    have h:=CU (b:=An) (by decide) n2 n3 (by simp);have h2:=AT (b:=An) (by decide) (show 1≤(d::e::t).length-1 by simp);rw[Int.pow_one]at h2;have:(9223372036854775808:Int)≤(An:Int):=by decide
    exact Int.le_trans this (Int.le_trans h2 h)
   have hb:=P0 neg n2 n3 hv;have z0:(((d::e::t).length:Int)==0)=false:=by simp;omega
   have z1:(((d::e::t).length:Int)==1)=false:=by simp;omega
   refine zO z0 (zO z1 (zO z1 (zk (fun n=>zi (zy rfl rfl ?_)) (fun n=>zi (zy rfl rfl ?_)))))
   ·show(-1,d::e::t)=Cr (if neg=true then -Ao (d::e::t)else Ao (d::e::t));rw[hb,if_pos n]
   ·show(1,d::e::t)=Cr (if neg=true then -Ao (d::e::t)else Ao (d::e::t));rw[hb,n];rfl
end T232
namespace T291
variable {Q:PV→Ob→Prop}
theorem Aj(x y:List Int)(hx:At An x)(hy:At An y)(hl:y.length≤x.length)(hm:x.length≤9000)(hq:∀ob,Q (.dat CS (BL (Ao x+Ao y))) ob):∀(k i:Nat) (p:List Int) (c:Int),i+k=x.length→p.length=i→At An p→(0≤c∧c≤1)→zC An p+(An:Int)^i*c=zC An (x.take i)+zC An (y.take i)→
  Ends IN (L1 x y (x.length+1) c x.length i (p++zm (x.length+1-i) 0)) Q
 |0,i,p,c,hi,hp,hd,hc,he=>by
  have hi:i=x.length:=by omega
  subst hi;have er:x.length+1-x.length=1:=by omega
  have es:(p++zm (x.length+1-x.length) (0:Int)).set x.length c=p++[c]:=by
   rw[er];exact Pe.Cw p [] 0 c hp
  have ht:(p++[c]).take (x.length+1)=p++[c]:=zw (by simp;omega);have hd':At An (p++[c]):=Dz hd (Cm hc.1 (by omega));have hv:Ao (p++[c])=Ao x+Ao y:=by
   unfold Ao;rw[Ef,hp,he,zT,zw hl]
  refine zQ (Ai ..) (zO (by simp) ?_);rw[zl,es,ht];refine ze (by simp<;>omega) (ze (by simp;omega) (ze ?_ (zi ?_)))
  ·rw[DQ (by simp;omega) hd'];simp;omega
  ·rw[IM hd',hv];exact hq _
 |k+1,i,p,c,hi,hp,hd,hc,he=>by
  have gx:=AO hx i;have gy:=AO hy i;have lo:(p++zm (x.length+1-i) (0:Int)).length=x.length+1:=by simp;omega
  have step:∀z,zq z=true→z=y.getD i 0→Ends IN (L1 x y (x.length+1) (Nr (x.getD i 0) z c) x.length (zc .i64 ((i:Int)+1)) ((p++zm (x.length+1-i) 0).set i (GO (x.getD i 0) z c))) Q:=by
   intro z hz ez;obtain⟨a1,a2,a3⟩:=IW gx hz hc;rw[wr ((i:Int)+1) (by omega) (by omega),HY p (x.length+1) i _ hp (by omega)];refine Aj x y hx hy hl hm hq k (i+1) (p++[GO (x.getD i 0) z c]) _ (by omega) (by simp;omega) (Dz hd a1) a2 ?_;rw[Ef,hp,JB,Ax _ x i,Ax _ y i, ←ez,yg, ←zF,a3,zF,zF];omega
  refine zQ (Ai ..) (ze (by simp;omega) ?_);rw[zl];refine zk (fun d=>?_) (fun d=>?_)
  ·have d:=of_decide_eq_true d;refine ze (by simp;omega) (ze (by simp;omega) (ze ?_ (ze (by simp;omega) (ze (decide_eq_true (by rw[lo];omega)) (step _ gy rfl)))));rw[gx,gy,zI,zI,zf];exact⟨decide_eq_true hc.1,decide_eq_true hc.2⟩
  ·have d:=of_decide_eq_false d;have hz:y.getD i 0=0:=by rw[zo,z5 (by omega)];rfl
   refine ze (by simp;omega) (ze ?_ (ze (by simp;omega) (ze (decide_eq_true (by rw[lo];omega)) (step _ rfl hz.symm))));rw[gx,show zq 0=true from rfl,zI,zI,zf];exact⟨decide_eq_true hc.1,decide_eq_true hc.2⟩
theorem start(x y:List Int)(hx:At An x)(hy:At An y)(hl:y.length≤x.length)(hm:x.length≤9000)(hq:∀ob,Q (.dat CS (BL (Ao x+Ao y))) ob){t:Tr}:
  Ends IN (.ite (decide ((0:Int)≤zc zS ((x.length:Int)+(1:Int)))&&decide (zc zS ((x.length:Int)+(1:Int))=zc zS ((x.length:Int)+(1:Int)))&&decide ((8:Nat)*yu (zc zS ((x.length:Int)+(1:Int)))≤(281474976710656:Nat))&&decide (zc zS ((x.length:Int)+(1:Int))<(9223372036854775808:Int)))
   (L1 x y (yu (zc zS ((x.length:Int)+(1:Int)))) ((0:Int)) ((x.length:Int)) ((0:Int)) (zm (yu (zc zS ((x.length:Int)+(1:Int)))) (0:Int))) t) Q:=by
 have e1:zc .i64 ((x.length:Int)+1)=((x.length+1:Nat):Int):=by rw[wr _ (by omega) (by omega)];omega
 rw[e1,zl];refine ze (by simp;omega) ?_;exact Aj x y hx hy hl hm hq x.length 0 [] 0 (by omega) rfl (fun _ h=>by cases h) (by omega) (by simp[zC])
theorem ok(hall:∀g sp,IN.sp g=some sp→Ad AR g sp):Ad AR 291 YK:=by
 refine Av (X:=IN) rfl hall (d:=9) (by kernel_rfl) (by kernel_rfl) (by kernel_rfl) (fun(i:List Int×List Int) hi=>?_) (Ab (by kernel_rfl));obtain⟨x,y⟩:=i;have hi:(yw x&&yw y)=true:=hi;rw[zf]at hi;obtain⟨x1,x2⟩:=TX hi.1;obtain⟨y1,y2⟩:=TX hi.2;have hq:∀ob,Ae YK (x,y) (.dat CS (BL (Ao x+Ao y))) ob:=fun ob=>zy rfl rfl rfl
 refine zM (Ap x y) (zk (fun c=>?_) (fun c=>?_))
 ·have c:=of_decide_eq_true c;exact start y x y2 x2 (by omega) y1 (by rw[Int.add_comm];exact hq)
 ·have c:=of_decide_eq_false c;exact start x y x2 y2 (by omega) x1 hq
end T291
namespace T293
variable {Q:PV→Ob→Prop}
theorem X3{b:Int}(hb:0<b){l:List Int}{n:Nat}(h:At b l)(hv:zC b l<b^n):zC b (l.take n)=zC b l:=by
 rcases Nat.lt_or_ge n l.length with hn|hn
 ·have h1:=Ca b l n (by omega);have h2:=Aw (by omega) (AH h n);have h3:=Aw (by omega) (FF h n);rcases zz 0 (zC b (l.drop n))with h4|h4
  ·have:=zG (show 1≤zC b (l.drop n)by omega) (zN (AP hb n));rw[Int.mul_one]at this;omega
  ·have:zC b (l.drop n)=0:=by omega
   rw[this,yk]at h1;omega
 ·rw[zw hn]
theorem Aj(x y:List Int)(hx:At An x)(hy:At An y)(hl:Ao y≤Ao x)(hm:x.length≤20000)(hq:∀ob,Q (.dat CS (BL (Ao x-Ao y))) ob):∀(k i:Nat) (p:List Int) (c:Int),i+k=x.length→p.length=i→At An p→(0≤c∧c≤1)→zC An p-(An:Int)^i*c=zC An (x.take i)-zC An (y.take i)→
  Ends IN (L1 x y x.length c x.length i (p++zm (x.length-i) 0)) Q
 |0,i,p,c,hi,hp,hd,hc,he=>by
  have hi:i=x.length:=by omega
  subst hi;have er:p++zm (x.length-x.length) (0:Int)=p:=by rw[Nat.sub_self];simp
  have ht:p.take x.length=p:=zw (by omega);have hX:Ao x<(An:Int)^x.length:=Bv (by decide) hx;have hP:Ao p<(An:Int)^p.length:=Bv (by decide) hd;have hv:Ao p=Ao x-Ao y:=by
   rw[zT,X3 (by decide) hy (show zC An y<_ from zK hl hX)]at he;have he:Ao p-(An:Int)^x.length*c=Ao x-Ao y:=he;rw[hp]at hP;rcases zz 0 c with h|h
   ·have:c=1:=by omega
    subst this;rw[Int.mul_one]at he;omega
   ·have:c=0:=by omega
    subst this;rw[yk]at he;omega
  rw[er];refine zQ (Ai ..) (zO (by simp) ?_);rw[ht];refine ze ?_ (zi ?_)
  ·rw[DQ (by omega) hd];simp;omega
  ·rw[IM hd,hv];exact hq _
 |k+1,i,p,c,hi,hp,hd,hc,he=>by
  have gx:=AO hx i;have gy:=AO hy i;have lo:(p++zm (x.length-i) (0:Int)).length=x.length:=by simp;omega
  have step:∀z,zq z=true→z=y.getD i 0→Ends IN (L1 x y x.length (NR (x.getD i 0) z c) x.length (zc .i64 ((i:Int)+1)) ((p++zm (x.length-i) 0).set i (QG (x.getD i 0) z c))) Q:=by
   intro z hz ez;obtain⟨a1,a2,a3⟩:=MZ gx hz hc;rw[wr ((i:Int)+1) (by omega) (by omega),HY p x.length i _ hp (by omega)];refine Aj x y hx hy hl hm hq k (i+1) (p++[QG (x.getD i 0) z c]) _ (by omega) (by simp;omega) (Dz hd a1) a2 ?_;have e:(An:Int)^i*QG (x.getD i 0) z c-(An:Int)^i*(18446744073709551616*NR (x.getD i 0) z c)=(An:Int)^i*x.getD i 0-(An:Int)^i*z-(An:Int)^i*c:=by
    rw[←yr,a3,yr,yr]
   rw[Ef,hp,JB,Ax _ x i,Ax _ y i, ←ez];omega
  refine zQ (Ai ..) (ze (by simp;omega) ?_);rw[zl];refine zk (fun d=>?_) (fun d=>?_)
  ·have d:=of_decide_eq_true d;refine ze (by simp;omega) (ze (by simp;omega) (ze ?_ (ze (by simp;omega) (ze (decide_eq_true (by rw[lo];omega)) (step _ gy rfl)))));rw[gx,gy,zI,zI,zf];exact⟨decide_eq_true hc.1,decide_eq_true hc.2⟩
  ·have d:=of_decide_eq_false d;have hz:y.getD i 0=0:=by rw[zo,z5 (by omega)];rfl
   refine ze (by simp;omega) (ze ?_ (ze (by simp;omega) (ze (decide_eq_true (by rw[lo];omega)) (step _ rfl hz.symm))));rw[gx,show zq 0=true from rfl,zI,zI,zf];exact⟨decide_eq_true hc.1,decide_eq_true hc.2⟩
theorem ok(hall:∀g sp,IN.sp g=some sp→Ad AR g sp):Ad AR 293 XR:=by
 refine Av (X:=IN) rfl hall (d:=9) (by kernel_rfl) (by kernel_rfl) (by kernel_rfl) (fun(i:List Int×List Int) hi=>?_) (Ab (by kernel_rfl));obtain⟨x,y⟩:=i;have hi:(Cs x&&Cs y&&decide (Ao y≤Ao x))=true:=hi;rw[zf,zf,decide_eq_true_eq]at hi;obtain⟨x1,x2⟩:=HD hi.1.1;obtain⟨y1,y2⟩:=HD hi.1.2;have hq:∀ob,Ae XR (x,y) (.dat CS (BL (Ao x-Ao y))) ob:=fun ob=>zy rfl rfl rfl
 refine zM (Ap x y) ?_;conv=>zeta
 rw[zl];refine ze (by simp;omega) ?_;exact Aj x y x2 y2 hi.2 x1 hq x.length 0 [] 0 (by omega) rfl (fun _ h=>by cases h) (by omega) (by simp[zC])
end T293
end Go.Pe
end
section
namespace Go.Pe
open Sp
open Go.Det
theorem Jo(n:Int):zc .u64 n=n % 18446744073709551616:=by simp[zc,IntKind.bits,IntKind.signed]
theorem Vp(n:Nat):zn (n:Int) ((2:Int)^(32:Nat))=((n/4294967296:Nat):Int):=by
 rw[zL _ (by decide)];rfl
theorem Y1(n:Nat)(h:n<18446744073709551616):zc .u64 (n:Int)=n:=wu _ (by omega) (by omega)
theorem Nm(n:Nat)(h:n<18446744073709551616):EK .u64 (n:Int) 4294967295=((n % 4294967296:Nat):Int):=by
 have e:(zH 64 (n:Int)&&&zH 64 4294967295).toNat=n % 4294967296:=by
  rw[BitVec.toNat_and];have h1:(zH 64 (n:Int)).toNat=n:=by rw[z7,ya];exact yh h
  have h2:(zH 64 4294967295).toNat=2^32-1:=by decide
  rw[h1,h2,Nat.and_two_pow_sub_one_eq_mod]
 show zc .u64 (((zH 64 (n:Int)&&&zH 64 4294967295).toNat:Nat):Int)=_;rw[e];exact Y1 _ (by omega)
namespace T229
theorem ok:Ad AR 229 Pz:=by
 refine Av (X:=Ro) rfl HJ (d:=9) (by kernel_rfl) (by kernel_rfl) (by kernel_rfl) (fun(i:Int×Int) hi=>?_) (Ab (by kernel_rfl));obtain⟨x,y⟩:=i;have hi:(zq x&&zq y)=true:=hi;rw[zf]at hi;have hx:=Sp.AV hi.1;have hy:=Sp.AV hi.2;obtain⟨x,rfl⟩:=zp hx.1;obtain⟨y,rfl⟩:=zp hy.1;have hx:x<18446744073709551616:=by omega
 have hy:y<18446744073709551616:=by omega
 obtain⟨m1,m2,m3,m4⟩:=Go.Lib.mul64_hi x y hx hy;have k1:=yb (a:=x/4294967296) (b:=y/4294967296) (by omega) (by omega);have k2:=yb (a:=x/4294967296) (b:=y % 4294967296) (by omega) (by omega);have k3:=yb (a:=x % 4294967296) (b:=y/4294967296) (by omega) (by omega);refine zM (Ap (x:Int) (y:Int)) (ze rfl (ze rfl (ze rfl (ze rfl (ze rfl (zi (zy rfl rfl ?_)))))));refine Prod.ext ?_ ?_
 ·show zc zd (zc zd (zc zd (zn (x:Int) ((2:Int)^(32:Nat))*zn (y:Int) ((2:Int)^(32:Nat)))+zn (zc zd (zc zd (zn (x:Int) ((2:Int)^(32:Nat))*EK zd (y:Int) (4294967295:Int))+zn (zc zd (EK zd (x:Int) (4294967295:Int)*EK zd (y:Int) (4294967295:Int))) ((2:Int)^(32:Nat)))) ((2:Int)^(32:Nat)))+zn (zc zd (EK zd (zc zd (zc zd (zn (x:Int) ((2:Int)^(32:Nat))*EK zd (y:Int) (4294967295:Int))+zn (zc zd (EK zd (x:Int) (4294967295:Int)*EK zd (y:Int) (4294967295:Int))) ((2:Int)^(32:Nat)))) (4294967295:Int)+zc zd (EK zd (x:Int) (4294967295:Int)*zn (y:Int) ((2:Int)^(32:Nat))))) ((2:Int)^(32:Nat)))=OL x y;have em:OL x y=((x*y/18446744073709551616:Nat):Int):=by unfold OL;omega
  rw[em, ←m4];have hlt:x*y/18446744073709551616<18446744073709551616:=Nat.div_lt_of_lt_mul (Nat.mul_lt_mul'' hx hy);rw[←m4]at hlt;simp only[Vp,Nm x hx,Nm y hy];simp only[←zW];generalize (x/4294967296)*(y/4294967296)=a at*;generalize (x/4294967296)*(y % 4294967296)=b at*;generalize (x % 4294967296)*(y/4294967296)=c at*;generalize (x % 4294967296)*(y % 4294967296)=d at*;rw[Y1 d (by omega),Y1 a (by omega),Y1 b (by omega),Y1 c (by omega),Vp, ←z8,Y1 _ m2,Vp,Nm _ m2, ←z8, ←z8,Y1 _ m3,Vp,Y1 (a+_) (by omega), ←z8,Y1 _ hlt]
 ·show zc .u64 ((x:Int)*y)=G5 x y;unfold G5;exact Jo _
end T229
theorem YS{x y o c:Int}(hx:zq x=true)(hy:zq y=true)(ho:zq o=true)(hc:zq c=true):
  zq (G5 x y)=true∧zq (GO (G5 x y) o 0)=true∧zq (GO (GO (G5 x y) o 0) c 0)=true∧
  zc .u64 (zc .u64 (OL x y+Nr (G5 x y) o 0)+Nr (GO (G5 x y) o 0) c 0)=(x*y+o+c)/18446744073709551616∧
  zq ((x*y+o+c)/18446744073709551616)=true∧
  GO (GO (G5 x y) o 0) c 0+18446744073709551616*((x*y+o+c)/18446744073709551616)=x*y+o+c:=by
 have hx:=Sp.AV hx;have hy:=Sp.AV hy;have ho:=Sp.AV ho;have hc:=Sp.AV hc;have h0:0≤x*y:=zt hx.1 hy.1;have h1:x*y≤18446744073709551615*18446744073709551615:=by
  have a:=zG (show y≤18446744073709551615 by omega) hx.1;have b:=zj (show x≤18446744073709551615 by omega) (show(0:Int)≤18446744073709551615 by omega);omega
 unfold G5 OL GO Nr;generalize x*y=P at*;refine⟨Cm (by omega) (by omega),Cm (by omega) (by omega),Cm (by omega) (by omega),?_,Cm (by omega) (by omega),by omega⟩;rw[Jo,Jo];omega
namespace T233
variable {Q:PV→Ob→Prop}
theorem AL(x y:List Int)(n i:Nat)(hi:i<x.length)(hn:n=x.length+y.length)(hx9:x.length≤9000)(hy9:y.length≤9000)(hx:At An x)(hy:At An y)(p:List Int)(hp:p.length=i+y.length)(hdp:At An p)
  (hq:∀q c,q.length=i+y.length→At An q→zq c=true→zC An q+(An:Int)^(i+y.length)*c=zC An p+(An:Int)^i*(x.getD i 0*zC An y)→Ends IN (L1 y n x x.length ((i+1:Nat):Int) ((q++[c])++zm (n-(i+y.length+1)) 0)) Q):∀(k j:Nat) (q:List Int) (c:Int),j+k=y.length→q.length=i+j→At An q→zq c=true→zC An q+(An:Int)^(i+j)*c=zC An (p.take (i+j))+(An:Int)^i*(x.getD i 0*zC An (y.take j))→
  Ends IN (L2 y n i (x.getD i 0) c x x.length i y y.length j (q++(p.drop (i+j)++zm (n-(i+y.length)) 0))) Q
 |0,j,q,c,hj,hl,hd,hc,he=>by
  have hj:j=y.length:=by omega
  subst hj;have e1:zc .i64 ((i:Int)+(y.length:Int))=((i+y.length:Nat):Int):=by rw[wr _ (by omega) (by omega)];omega
  have e2:zc .i64 ((i:Int)+1)=((i+1:Nat):Int):=by rw[wr _ (by omega) (by omega)];omega
  have ed:p.drop (i+y.length)=[]:=List.drop_eq_nil_of_le (by omega);refine zQ (AN ..) (zO (by simp) ?_);rw[e1,e2,zl,ed,List.nil_append,HY q n _ c hl (by omega)];refine ze (by simp;omega) (ze (by simp;omega) (hq q c hl hd hc ?_));rw[he,zw (by omega),zT]
 |k+1,j,q,c,hj,hl,hd,hc,he=>by
  have gx:=AO hx i;have gy:=AO hy j;have gp:=AO hdp (i+j);have ep:p.drop (i+j)=p.getD (i+j) 0::p.drop (i+j+1):=by
   rw[zo,zE (by omega)];exact zU (by omega)
  have e1:zc .i64 ((i:Int)+(j:Int))=((i+j:Nat):Int):=by rw[wr _ (by omega) (by omega)];omega
  have e2:zc .i64 ((j:Int)+1)=((j+1:Nat):Int):=by rw[wr _ (by omega) (by omega)];omega
  have lo:(q++(p.drop (i+j)++zm (n-(i+y.length)) (0:Int))).length=n:=by simp;omega
  have g1:(q++(p.drop (i+j)++zm (n-(i+y.length)) (0:Int))).getD (i+j) 0=p.getD (i+j) 0:=by
   rw[ep,yi];exact Cp _ _ _ _ hl
  have s1:∀z,(q++(p.drop (i+j)++zm (n-(i+y.length)) (0:Int))).set (i+j) z=(q++[z])++(p.drop (i+(j+1))++zm (n-(i+y.length)) 0):=by
   intro z;rw[ep,yi,Cw _ _ _ _ hl,yf];rfl
  obtain⟨m1,m2,m3,m4,m5,m6⟩:=YS gx gy gp hc;refine zQ (AN ..) (ze (by simp;omega) ?_);rw[e1,e2,zl,zl,g1,s1,m4];have t1:(decide ((0:Int)≤((i+j:Nat):Int))&&decide (((i+j:Nat):Int)<(n:Int)))=true:=by simp;omega
  refine ze (by simp;omega) (ze (by rw[gx,gy];rfl) (ze t1 (ze (decide_eq_true (by rw[lo];omega)) (ze (by rw[m1,gp];rfl) (ze (by rw[m2,hc];rfl) (ze t1 (ze (decide_eq_true (by rw[lo];omega)) ?_)))))));refine AL x y n i hi hn hx9 hy9 hx hy p hp hdp hq k (j+1) _ _ (by omega) (by simp;omega) (Dz hd m3) m5 ?_;have ea:i+(j+1)=(i+j)+1:=by omega
  have eb:(An:Int)^i*(x.getD i 0*((An:Int)^j*y.getD j 0))=(An:Int)^(i+j)*(x.getD i 0*y.getD j 0):=by
   rw[Int.pow_add,zr,Int.mul_left_comm (x.getD i 0)]
  rw[ea,Ef,hl,JB,yg, ←zF,m6,Ax _ p (i+j),Ax _ y j,zF,zF,zF (x.getD i 0),zF,eb];omega
theorem Aj(x y:List Int)(n:Nat)(hn:n=x.length+y.length)(hx9:x.length≤9000)(hy9:y.length≤9000)(hx:At An x)(hy:At An y)(hq:∀ob,Q (.dat CS (BL (Ao x*Ao y))) ob):∀(k i:Nat) (p:List Int),i+k=x.length→p.length=i+y.length→At An p→zC An p=zC An (x.take i)*zC An y→
  Ends IN (L1 y n x x.length i (p++zm (n-(i+y.length)) 0)) Q
 |0,i,p,hi,hp,hd,he=>by
  have hi:i=x.length:=by omega
  subst hi;have ez:p++zm (n-(x.length+y.length)) (0:Int)=p:=by rw[hn,Nat.sub_self];simp
  have hv:Ao p=Ao x*Ao y:=by
   rw[zT]at he;exact he
  rw[ez];refine zQ (Ai ..) (zO (by simp) ?_);rw[zw (by omega)];refine ze ?_ (zi ?_)
  ·rw[DQ (by omega) hd];simp;omega
  ·rw[IM hd,hv];exact hq _
 |k+1,i,p,hi,hp,hd,he=>by
  refine zQ (Ai ..) (ze (by simp;omega) ?_);rw[zl];refine ze (by simp;omega) ?_;have h0:zC An (p.take (i+y.length))=zC An p:=by rw[zw (by omega)]
  have:=AL (Q:=Q) x y n i (by omega) hn hx9 hy9 hx hy p hp hd (fun q c hl hdq hc hv=>by
   have:=Aj x y n hn hx9 hy9 hx hy hq k (i+1) (q++[c]) (by omega) (by simp;omega) (Dz hdq hc) (by
    rw[Ef,hl,hv,he,Ax,zA,zr])
   rw[show i+1+y.length=i+y.length+1 by omega]at this;exact this) y.length 0 (p.take i) 0 (by omega) (by simp;omega) (AH hd i) rfl (by simp[zC])
  rw[Nat.add_zero, ←yf,List.take_append_drop]at this;exact this
theorem ok(hall:∀g sp,IN.sp g=some sp→Ad AR g sp):Ad AR 233 Xa:=by
 refine Av (X:=IN) rfl hall (d:=9) (by kernel_rfl) (by kernel_rfl) (by kernel_rfl) (fun(i:List Int×List Int) hi=>?_) (Ab (by kernel_rfl));obtain⟨x,y⟩:=i;have hi:(yw x&&yw y)=true:=hi;rw[zf]at hi;obtain⟨x1,x2⟩:=TX hi.1;obtain⟨y1,y2⟩:=TX hi.2;have hq:∀ob,Ae Xa (x,y) (.dat CS (BL (Ao x*Ao y))) ob:=fun ob=>zy rfl rfl rfl
 have e1:zc .i64 ((x.length:Int)+(y.length:Int))=((x.length+y.length:Nat):Int):=by rw[wr _ (by omega) (by omega)];omega
 refine zM (Ap x y) ?_;conv=>zeta
 rw[e1,zl];refine ze (by simp;omega) ?_;have:=Aj x y (x.length+y.length) rfl x1 y1 x2 y2 hq x.length 0 (zm y.length 0) (by omega) (by simp) (fun d hd=>by
  obtain⟨_,rfl⟩:=List.mem_replicate.1 hd;exact⟨by decide,by decide⟩) (by rw[J3];simp[zC])
 rw[Nat.zero_add,List.replicate_append_replicate,show y.length+(x.length+y.length-y.length)=x.length+y.length by omega]at this;exact this
end T233
theorem Gn:∀g sp,IN.sp g=some sp→Ad AR g sp:=
 Ac T230.ok (Ac T294.ok (Ac T326.ok (Ac T295.ok (Ac T229.ok (fun g sp h=>by cases h)))))
theorem PI:∀g sp,jK.sp g=some sp→Ad AR g sp:=
 Ac (T231.ok Gn) (Ac (T232.ok Gn) (Ac (T291.ok Gn) (Ac (T293.ok Gn) (Ac T292.ok (Ac (T233.ok Gn) (Ac T229.ok (Ac T230.ok (fun g sp h=>by cases h))))))))
end Go.Pe
end
section
namespace Go.Sp
def BR(a:Bl):Bool:=EY a&&decide (a.2.length≤9000)
def VA(a b:Bl):Int:=BB (vI a) (vI b)
def LD(a:Bl):Int:=Y5 (vI a)
end Go.Sp
namespace Go.Pe
open Sp
open Go.Det
noncomputable section
noncomputable def Xu:As:=⟨[B0],fun a=>EY a,[B0],fun a=>(Hs a,HC a),false⟩
noncomputable def dU:As:=⟨[B0],fun a=>EY a,[B0],fun a=>(MW a,Mu a),false⟩
noncomputable def QE:As:=⟨[B0],fun a=>EY a,[i64],fun a=>LD a,false⟩
noncomputable def RY:As:=⟨[B0,B0],fun i=>BR i.1&&BR i.2,[B0],fun i=>(Kq i.1 i.2,Kx i.1 i.2),false⟩
noncomputable def Yi:As:=⟨[B0,B0],fun i=>BR i.1&&BR i.2,[B0],fun i=>(Xn i.1 i.2,Yf i.1 i.2),false⟩
noncomputable def RZ:As:=⟨[B0,B0],fun i=>BR i.1&&BR i.2,[B0],fun i=>(GL i.1 i.2,GI i.1 i.2),false⟩
noncomputable def XC:As:=⟨[B0,B0],fun i=>BR i.1&&BR i.2,[i64],fun i=>VA i.1 i.2,false⟩
noncomputable def mP:AW:=X7 [(227,Xu),(226,RY)]
noncomputable def oA:AW:=X7 [(228,Yi),(220,QE)]
end
end Go.Pe
end
section
namespace Go.Pe
open Sp
open Go.Det
noncomputable section
open List Int Prod
namespace T227
def T(a:Int×List Int):Tr:=tree jK false 9 227 (Ag ([zY i64 (zB (zh zd))]) a)
theorem Ap(a:Int×List Int):T a=let c':=zB (zh zd);let d':=BL (Ah (zg (fst a,snd a)));let e':=zc .i64 (0-fst a);let b':=yc (!decide (zg (fst a,snd a)<0)) (Ao d');let a':Tr:=.ite (EY (fst a,snd a)) (.ite (BV d') (.leaf (zV [.dat i64 (Ch b'),.dat c' (Cf b')]) ([(zu 0 1,.box [.dat i64 (Ch b'),.dat c' (Cf b')]),(0,.box [.dat i64 (fst a),.dat c' (snd a)])])) .fail) .fail;.ite (!decide (0<length (snd a))) (.ite (fst a !=(-9223372036854775808)) (.leaf (zV [.dat i64 e',.nil]) ([(zu 0 1,.box [.dat i64 e',.nil]),(0,.box [.dat i64 (fst a),.dat c' (snd a)])])) a') a':=by kernel_rfl
end T227
namespace T226
def T(a b:Int×List Int):Tr:=tree jK false 9 226 (Ag ([zY i64 (zB (zh zd)),zY i64 (zB (zh zd))]) (a,b))
theorem Ap(a b:Int×List Int):T a b=let b':=BL (Ah (zg (fst a,snd a)));let c':=BL (Ah (zg (fst b,snd b)));let d':=zB (zh zd);let h':=decide (zg (fst a,snd a)<0);let i':=zc .i64 (fst a+fst b);let m':=decide (zg (fst b,snd b)<0);let j':=BL (Ao b'+Ao c');let k':=BL (Ao b'-Ao c');let l':=BL (Ao c'-Ao b');let e':=yc (h') (Ao j');let f':=yc (h') (Ao k');let g':=yc (m') (Ao l');let a':Tr:=.ite (EY (fst a,snd a)) (.ite (EY (fst b,snd b)) (.ite (h'==m') (.ite (yw b'&&yw c') (.ite (BV j') (.leaf (zV [.dat i64 (Ch e'),.dat d' (Cf e')]) ([(zu (zu 0 1) 1,.box [.dat i64 (Ch e'),.dat d' (Cf e')]),(zu 0 1,.box [.dat i64 (fst b),.dat d' (snd b)]),(0,.box [.dat i64 (fst a),.dat d' (snd a)])])) .fail) .fail) (.ite (BV b'&&BV c') (.ite (decide (BB (Ao b') (Ao c')≥0)) (.ite (Cs b'&&Cs c'&&decide (Ao c'≤Ao b')) (.ite (BV k') (.leaf (zV [.dat i64 (Ch f'),.dat d' (Cf f')]) ([(zu (zu 0 1) 1,.box [.dat i64 (Ch f'),.dat d' (Cf f')]),(zu 0 1,.box [.dat i64 (fst b),.dat d' (snd b)]),(0,.box [.dat i64 (fst a),.dat d' (snd a)])])) .fail) .fail) (.ite (Cs c'&&Cs b'&&decide (Ao b'≤Ao c')) (.ite (BV l') (.leaf (zV [.dat i64 (Ch g'),.dat d' (Cf g')]) ([(zu (zu 0 1) 1,.box [.dat i64 (Ch g'),.dat d' (Cf g')]),(zu 0 1,.box [.dat i64 (fst b),.dat d' (snd b)]),(0,.box [.dat i64 (fst a),.dat d' (snd a)])])) .fail) .fail)) .fail)) .fail) .fail;.ite (!decide (0<length (snd a))) (.ite (!decide (0<length (snd b))) (.ite (decide (zc .i64 (fst a+fst b)>fst a)==decide (fst b>0)) (.leaf (zV [.dat i64 i',.nil]) ([(zu (zu 0 1) 1,.box [.dat i64 i',.nil]),(zu 0 1,.box [.dat i64 (fst b),.dat d' (snd b)]),(0,.box [.dat i64 (fst a),.dat d' (snd a)])])) a') a') a':=by kernel_rfl
end T226
namespace T186
def T(a b:Int×List Int):Tr:=tree jK false 9 186 (Ag ([zY i64 (zB (zh zd)),zY i64 (zB (zh zd))]) (a,b))
theorem Ap(a b:Int×List Int):T a b=let c':=zB (zh zd);let f':=Ah (fst a);let g':=Ah (fst b);let i':=BL (Ah (zg (fst a,snd a)));let j':=BL (Ah (zg (fst b,snd b)));let d':=G5 f' g';let e':=BL (Ao i'*Ao j');let b':=yc (!decide (zg (fst a,snd a)<0)==decide (zg (fst b,snd b)<0)) (Ao e');let h':=zc .i64 (0-zc .i64 d');let a':Tr:=.ite (EY (fst a,snd a)) (.ite (EY (fst b,snd b)) (.ite (yw i'&&yw j') (.ite (BV e') (.leaf (zV [.dat i64 (Ch b'),.dat c' (Cf b')]) ([(zu (zu 0 1) 1,.box [.dat i64 (Ch b'),.dat c' (Cf b')]),(zu 0 1,.box [.dat i64 (fst b),.dat c' (snd b)]),(0,.box [.dat i64 (fst a),.dat c' (snd a)])])) .fail) .fail) .fail) .fail;.ite (!decide (0<length (snd a))) (.ite (!decide (0<length (snd b))) (.ite (GG (fst a)) (.ite (GG (fst b)) (.ite (zq f'&&zq g') (.ite (OL f' g'==0) (.ite (decide (G5 f' g'≤9223372036854775807)) (.ite (!decide (fst a<0)==decide (fst b<0)) (.leaf (zV [.dat i64 h',.nil]) ([(zu (zu 0 1) 1,.box [.dat i64 h',.nil]),(zu 0 1,.box [.dat i64 (fst b),.dat c' (snd b)]),(0,.box [.dat i64 (fst a),.dat c' (snd a)])])) (.leaf (zV [.dat i64 (zc .i64 d'),.nil]) ([(zu (zu 0 1) 1,.box [.dat i64 (zc .i64 d'),.nil]),(zu 0 1,.box [.dat i64 (fst b),.dat c' (snd b)]),(0,.box [.dat i64 (fst a),.dat c' (snd a)])]))) a') a') .fail) .fail) .fail) a') a':=by kernel_rfl
end T186
namespace T219
def T(a:Int×List Int):Tr:=tree mP false 9 219 (Ag ([zY i64 (zB (zh zd))]) a)
theorem Ap(a:Int×List Int):T a=let a':=zB (zh zd);let b':=Hs (fst a,snd a);let c':=HC (fst a,snd a);.ite (decide (fst a<0)) (.ite (EY (fst a,snd a)) (.leaf (zV [.dat i64 b',.dat a' c']) ([(zu 0 1,.box [.dat i64 b',.dat a' c']),(0,.box [.dat i64 (fst a),.dat a' (snd a)])])) .fail) (.leaf (zV [.dat i64 (fst a),.dat a' (snd a)]) ([(zu 0 1,.box [.dat i64 (fst a),.dat a' (snd a)]),(0,.box [.dat i64 (fst a),.dat a' (snd a)])])):=by kernel_rfl
end T219
namespace T220
def T(a:Int×List Int):Tr:=tree Ro false 9 220 (Ag ([zY i64 (zB (zh zd))]) a)
theorem Ap(a:Int×List Int):T a=.leaf (.dat i64 (imax (-1) (BE 1 (fst a)))) ([(0,.box [.dat i64 (fst a),.dat (zB (zh zd)) (snd a)])]):=by kernel_rfl
end T220
namespace T228
def T(a b:Int×List Int):Tr:=tree mP false 9 228 (Ag ([zY i64 (zB (zh zd)),zY i64 (zB (zh zd))]) (a,b))
theorem Ap(a b:Int×List Int):T a b=let a':=(Hs (fst b,snd b),HC (fst b,snd b));let b':=zB (zh zd);let c':=Kq (fst a,snd a) a';let d':=Kx (fst a,snd a) a';.ite (EY (fst b,snd b)) (.ite (BR (fst a,snd a)&&BR a') (.leaf (zV [.dat i64 c',.dat b' d']) ([(zu (zu 0 1) 1,.box [.dat i64 c',.dat b' d']),(zu 0 1,.box [.dat i64 (fst b),.dat b' (snd b)]),(0,.box [.dat i64 (fst a),.dat b' (snd a)])])) .fail) .fail:=by kernel_rfl
end T228
namespace T183
def T(a b:Int×List Int):Tr:=tree oA false 9 183 (Ag ([zY i64 (zB (zh zd)),zY i64 (zB (zh zd))]) (a,b))
theorem Ap(a b:Int×List Int):T a b=let c':=(Xn (fst a,snd a) (fst b,snd b),Yf (fst a,snd a) (fst b,snd b));let d':=zB (zh zd);let a':=[(zu 0 1,.box [.dat i64 (fst b),.dat d' (snd b)]),(0,.box [.dat i64 (fst a),.dat d' (snd a)])];let b':Tr:=.ite (BR (fst a,snd a)&&BR (fst b,snd b)) (.ite (EY c') (.leaf (.dat i64 (LD c')) a') .fail) .fail;.ite (!decide (0<length (snd a))) (.ite (!decide (0<length (snd b))) (.ite (decide (fst a<fst b)) (.leaf (.dat i64 (-1:Int)) a') (.ite (decide (fst a>fst b)) (.leaf (.dat i64 (1:Int)) a') (.leaf (.dat i64 (0:Int)) a'))) b') b':=by kernel_rfl
end T183
end
end Go.Pe
end
section
namespace Go.Pe
open Sp
open Go.Det
theorem cE(k:Nat):((An^k:Nat):Int)=(An:Int)^k:=zR ..
theorem MK{n:Int}{k:Nat}(h0:0≤n)(h:n<(An:Int)^k):(BL n).length≤k:=by
 refine Pq An (by decide) k n.toNat n.toNat ?_;rw[←cE]at h;generalize An^k=P at*;omega
theorem CZ{n:Int}{k:Nat}(h0:0≤n)(h:n<(An:Int)^k)(hk:k≤20000):BV (BL n)=true∧Cs (BL n)=true∧Ao (BL n)=n:=by
 have h1:=MK h0 h;have h2:Cs (BL n)=true:=DQ (by omega) (HT (by decide) n);have h3:fT (BL n)=true:=by
  unfold fT;exact decide_eq_true (UW (by decide) n)
 exact⟨by unfold BV;rw[h2,h3];rfl,h2,Dv (by decide) h0⟩
theorem Hy{a:Bl}(h:BR a=true):EY a=true∧a.2.length≤9000:=by
 unfold BR at h;rw[zf,decide_eq_true_eq]at h;exact h
theorem Yb{s:Int}{w:List Int}(hw:w≠[]):zg (s,w)=if s<0 then -Ao w else Ao w:=by unfold zg;exact if_neg hw
theorem RW{a:Bl}(h:EY a=true):(a.2=[]∧Ah (zg a)≤9223372036854775808)∨(BL (Ah (zg a))=a.2):=by
 obtain⟨hr,hw⟩:=Em h;obtain⟨s,w⟩:=a;have hr: -9223372036854775808≤s∧s<9223372036854775808:=hr;rcases hw with hw|⟨h1,h2,h3⟩
 ·have hw:w=[]:=hw;subst hw;refine .inl ⟨rfl,?_⟩;rw[En];simp only[Ar];omega
 ·obtain⟨n1,n2,n3⟩:=Ed (l:=w) h1;have h2:s=1∨s= -1:=h2;have h3:9223372036854775808≤Ao w:=h3;have hne:w≠[]:=by rintro rfl;exact absurd h3 (by decide)
  refine .inr ?_;have e1:Ah (zg (s,w))=Ao w:=by rw[Yb hne];simp only[Ar];split<;>omega
  rw[e1];exact(KT (by decide) n2 n3).symm
theorem AD(n:Int):0≤Ah n:=by simp only[Ar];omega
theorem Hv{a:Bl}(h:EY a=true){k:Nat}(hk:a.2.length≤k)(h1:1≤k):Ah (zg a)<(An:Int)^k:=by
 rcases RW h with⟨_,hb⟩|he
 ·have:=AT (b:=An) (by decide) h1;rw[Int.pow_one]at this;have h3:(9223372036854775808:Int)<(An:Int):=by decide
  exact zK hb (Int.lt_of_lt_of_le h3 this)
 ·have hv:=Dv (b:=An) (by decide) (AD (zg a));have:=Bv (b:=An) (by decide) (HT (b:=An) (by decide) (Ah (zg a)));rw[hv,show Sp.dg An (Ah (zg a))=a.2 from he]at this;exact Int.lt_of_lt_of_le this (AT (by decide) hk)
theorem Ka{x y:Int}(hx:0≤x)(h1:x<(An:Int)^9000)(h2:y<(An:Int)^9000):x+y<(An:Int)^9001∧x*y<(An:Int)^18000:=by
 have e1:(An:Int)^9001=(An:Int)^9000*An:=z9 ..;have e2:(An:Int)^18000=(An:Int)^9000*(An:Int)^9000:=Int.pow_add _ 9000 9000;rw[e1,e2];generalize (An:Int)^9000=P at*;refine⟨?_,?_⟩
 ·show x+y<P*18446744073709551616;omega
 ·have a:=zG (show y≤P-1 by omega) hx;have b:=zj (show x≤P-1 by omega) (show 0≤P-1 by omega);have c:(P-1)*(P-1)=P*P-P-P+1:=by
   rw[Int.sub_mul,yr];omega
  omega
theorem C4(n:Bool)(v:Int):yc n v=if n=true then -v else v:=rfl
theorem Cx(n:Int):zg (Cr n)=n:=by
 unfold Cr;split
 ·exact En
 ·have hv:=Dv (b:=An) (by decide) (AD n);have hne:BL (Ah n)≠[]:=by
   intro h;rw[show Sp.dg An (Ah n)=[]from h]at hv;have:(0:Int)=Ah n:=hv;simp only[Ar]at this;omega
  rw[Yb hne,show Ao (BL (Ah n))=Ah n from hv];simp only[Ar];split<;>split<;>omega
theorem UG{a:Bl}{c:Bool}(h:(!decide (0<a.2.length))=c):(c=true→a.2=[])∧(c=false→a.2≠[]):=by
 subst h;rcases a with⟨s,w⟩
 cases w<;>simp
theorem Mn{a:Bl}(h:(!decide (0<a.2.length))=true):a.2=[]:=(UG h).1 rfl
theorem XQ{a:Bl}(h:(!decide (0<a.2.length))=false):a.2≠[]:=(UG h).2 rfl
theorem BI{a:Bl}(h:a.2=[]):zg a=a.1:=by unfold zg;exact if_pos h
theorem words{a:Bl}(h:BR a=true):EY a=true∧yw (BL (Ah (zg a)))=true∧BV (BL (Ah (zg a)))=true∧Cs (BL (Ah (zg a)))=true∧Ao (BL (Ah (zg a)))=Ah (zg a)∧Ah (zg a)<(An:Int)^9000:=by
 obtain⟨h1,h2⟩:=Hy h;have hb:=Hv h1 h2 (by omega);obtain⟨n,d,v⟩:=CZ (AD _) hb (by omega);have hl:=MK (AD _) hb;refine⟨h1,?_,n,d,v,hb⟩;unfold yw;rw[d,zI];exact decide_eq_true hl
theorem Ak{a b:Bool}(h1:a=true)(h2:b=true):(a&&b)=true:=by rw[h1,h2];rfl
theorem IS(n:Int):Y5 n=if n<0 then -1 else if n>0 then 1 else 0:=rfl
theorem gX{a:Bl}(h:EY a=true):imax (-1) (BE 1 a.1)=Y5 (zg a):=by
 obtain⟨hr,hw⟩:=Em h;obtain⟨s,w⟩:=a;rcases hw with hw|⟨h1,h2,h3⟩
 ·have hw:w=[]:=hw;subst hw;rw[En,IS,Xq];show imax (-1) (if (1:Int)≤s then 1 else s)=_;unfold imax;split<;>split<;>split<;>(try split)<;>omega
 ·have h2:s=1∨s= -1:=h2;have h3:9223372036854775808≤Ao w:=h3;have hne:w≠[]:=by rintro rfl;exact absurd h3 (by decide)
  rw[Yb hne,IS];rcases h2 with rfl|rfl
  ·have e:(if (1:Int)<0 then -Ao w else Ao w)=Ao w:=if_neg (by decide);rw[e,if_neg (show ¬Ao w<0 by omega),if_pos (show Ao w>0 by omega)];show imax (-1) (BE 1 1)=1;decide
  ·have e:(if (-1:Int)<0 then -Ao w else Ao w)= -Ao w:=if_pos (by decide);rw[e,if_pos (show -Ao w<0 by omega)];show imax (-1) (BE 1 (-1))= -1;decide
namespace T227
theorem ok:Ad AR 227 Xu:=by
 refine Av (X:=jK) rfl PI (d:=9) (by kernel_rfl) (by kernel_rfl) (by kernel_rfl) (fun(a:Int×List Int) ha=>?_) (Ab (by kernel_rfl));have ha:EY a=true:=ha;have hn:BV (BL (Ah (zg a)))=true∧Ao (BL (Ah (zg a)))=Ah (zg a):=by
  refine⟨?_,Dv (by decide) (AD _)⟩;rcases RW ha with⟨_,hb⟩|he
  ·have:(9223372036854775808:Int)<(An:Int)^1:=by decide
   exact(CZ (AD _) (zK hb this) (by omega)).1
  ·obtain⟨_,hw⟩:=Em ha;rw[he];rcases hw with hw|⟨h1,_⟩
   ·rw[hw];decide+kernel
   ·exact h1
 have hv:yc (!decide (zg a<0)) (Ao (BL (Ah (zg a))))= -zg a:=by
  rw[hn.2,C4,Ar];rcases zz (zg a) 0 with h|h
  ·rw[decide_eq_true h];simp;omega
  ·rw[decide_eq_false (by omega)];simp;omega
 have hr:=(Em ha).1;refine zM (Ap a) (zk (fun c=>zk (fun d=>zi (zy rfl rfl ?_)) (fun d=>ze ha (ze hn.1 (zi (zy rfl rfl ?_))))) (fun c=>ze ha (ze hn.1 (zi (zy rfl rfl ?_)))))
 ·have c:=Mn c;have d:a.1≠ -9223372036854775808:=by simpa using d
  show(zc .i64 (0-a.1),[])=E3 a;unfold E3;rw[if_pos ⟨c,d⟩,wr _ (by omega) (by omega),Int.zero_sub]
 ·have d:a.1= -9223372036854775808:=by simpa using d
  show Cr (yc (!decide (zg a<0)) (Ao (BL (Ah (zg a)))))=E3 a;unfold E3;rw[if_neg (fun h=>h.2 d),hv]
 ·have c:=XQ c;show Cr (yc (!decide (zg a<0)) (Ao (BL (Ah (zg a)))))=E3 a;unfold E3;rw[if_neg (fun h=>c h.1),hv]
end T227
namespace T226
theorem ok:Ad AR 226 RY:=by
 refine Av (X:=jK) rfl PI (d:=9) (by kernel_rfl) (by kernel_rfl) (by kernel_rfl) (fun(i:(Int×List Int)×(Int×List Int)) hi=>?_) (Ab (by kernel_rfl));obtain⟨a,b⟩:=i;have hi:(BR a&&BR b)=true:=hi;rw[zf]at hi;obtain⟨a1,a2,a3,a4,a5,a6⟩:=words hi.1;obtain⟨b1,b2,b3,b4,b5,b6⟩:=words hi.2;have hra:=(Em a1).1;have hrb:=(Em b1).1;have na:=AD (zg a);have nb:=AD (zg b);obtain⟨t1,_⟩:=Ka na a6 b6;have hq:∀v ob,Gz a b=Cr v→Ae RY (a,b) (.agg [.dat i64 (Ch v),.dat (.nlist (.int .u64)) (Cf v)]) ob:=fun v ob h=>zy rfl rfl (by
  show Cr v=Gz a b;rw[h])
 have mono:(An:Int)^9000≤(An:Int)^9001:=AT (by decide) (by omega);have slow1:decide (zg a<0)=decide (zg b<0)→yc (decide (zg a<0)) (Ao (BL (Ao (BL (Ah (zg a)))+Ao (BL (Ah (zg b))))))=zg a+zg b:=by
  intro e;rw[a5,b5,show Ao (BL (Ah (zg a)+Ah (zg b)))=_ from Dv (by decide) (by omega),C4,Ar,Ar];rcases zz (zg a) 0 with h|h
  ·rw[decide_eq_true h]at e ⊢;have:=of_decide_eq_true e.symm;simp only[if_true];omega
  ·rw[decide_eq_false (by omega)]at e ⊢;have:=of_decide_eq_false e.symm;simp only[yd,if_false];omega
 have slow2:decide (zg a<0)≠decide (zg b<0)→Ah (zg b)≤Ah (zg a)→yc (decide (zg a<0)) (Ao (BL (Ao (BL (Ah (zg a)))-Ao (BL (Ah (zg b))))))=zg a+zg b:=by
  intro e hle;rw[a5,b5,show Ao (BL (Ah (zg a)-Ah (zg b)))=_ from Dv (by decide) (by omega),C4,Ar,Ar];rcases zz (zg a) 0 with h|h
  ·rw[decide_eq_true h]at e ⊢;have:¬zg b<0:=fun h=>e (decide_eq_true h).symm
   simp only[if_true];omega
  ·rw[decide_eq_false (by omega)]at e ⊢;have:zg b<0:=by
    rcases zz (zg b) 0 with h|h
    ·exact h
    ·exact absurd (decide_eq_false (by omega)).symm e
   simp only[yd,if_false];omega
 have slow3:decide (zg a<0)≠decide (zg b<0)→Ah (zg a)≤Ah (zg b)→yc (decide (zg b<0)) (Ao (BL (Ao (BL (Ah (zg b)))-Ao (BL (Ah (zg a))))))=zg a+zg b:=by
  intro e hle;rw[a5,b5,show Ao (BL (Ah (zg b)-Ah (zg a)))=_ from Dv (by decide) (by omega),C4,Ar,Ar];rcases zz (zg b) 0 with h|h
  ·rw[decide_eq_true h]at e ⊢;have:¬zg a<0:=fun h=>e (decide_eq_true h)
   simp only[if_true];omega
  ·rw[decide_eq_false (show ¬zg b<0 by omega)]at e ⊢;have:zg a<0:=by
    rcases zz (zg a) 0 with h|h
    ·exact h
    ·exact absurd (decide_eq_false (by omega)) e
   simp only[yd,if_false];omega
 have n1:BV (BL (Ao (BL (Ah (zg a)))+Ao (BL (Ah (zg b)))))=true:=by
  rw[a5,b5];exact(CZ (by omega) t1 (by omega)).1
 have n2:Ah (zg b)≤Ah (zg a)→BV (BL (Ao (BL (Ah (zg a)))-Ao (BL (Ah (zg b)))))=true:=by
  intro h;rw[a5,b5];exact(CZ (by omega) (zK (by omega) a6) (by omega)).1
 have n3:Ah (zg a)≤Ah (zg b)→BV (BL (Ao (BL (Ah (zg b)))-Ao (BL (Ah (zg a)))))=true:=by
  intro h;rw[a5,b5];exact(CZ (by omega) (zK (by omega) b6) (by omega)).1
 have cge:∀ {c:Bool},decide (BB (Ao (BL (Ah (zg a)))) (Ao (BL (Ah (zg b))))≥0)=c→(c=true→Ah (zg b)≤Ah (zg a))∧(c=false→Ah (zg a)≤Ah (zg b)):=by
  intro c h;subst h;rw[a5,b5,decide_eq_true_eq,decide_eq_false_iff_not];unfold BB;constructor
  ·intro h;split at h<;>omega
  ·intro h;split at h
   ·omega
   ·split at h<;>omega
 refine zM (Ap a b) (zk (fun c1=>zk (fun c2=>zk (fun c3=>zi (zy rfl rfl ?_)) (fun c3=>?_)) (fun c2=>?_)) (fun c1=>?_))
 ·have c1:=Mn c1;have c2:=Mn c2;have hs:zc .i64 (a.1+b.1)=a.1+b.1:=by
   rw[beq_iff_eq]at c3;rcases zz (a.1+b.1) (-9223372036854775808)with h|h
   ·exfalso;have e:zc .i64 (a.1+b.1)=a.1+b.1+18446744073709551616:=by rw[yj];omega
    rw[e,decide_eq_true (by omega),decide_eq_false (by omega)]at c3;cases c3
   ·rcases zz (a.1+b.1) 9223372036854775808 with h2|h2
    ·exact wr _ (by omega) (by omega)
    ·exfalso;have e:zc .i64 (a.1+b.1)=a.1+b.1-18446744073709551616:=by rw[yj];omega
     rw[e,decide_eq_false (by omega),decide_eq_true (by omega)]at c3;cases c3
  have hr:GG (a.1+b.1)=true:=by
   have: -9223372036854775808≤zc .i64 (a.1+b.1)∧zc .i64 (a.1+b.1)<9223372036854775808:=by rw[yj];omega
   rw[hs]at this;unfold GG;rw[zf,decide_eq_true_eq,decide_eq_true_eq];exact this
  show(zc .i64 (a.1+b.1),[])=Gz a b;unfold Gz;rw[if_pos ⟨c1,c2,hr⟩,hs]
 all_goals
  have hm:Gz a b=Cr (zg a+zg b):=by
   unfold Gz;refine if_neg (fun h=>?_);obtain⟨h1,h2,h3⟩:=h;first
    |exact XQ c1 h1
    |exact XQ c2 h2
    |(have h3:=E6 h3
      have hs:zc .i64 (a.1+b.1)=a.1+b.1:=wr _ (by omega) (by omega);rw[hs,beq_eq_false_iff_ne]at c3;refine c3 ?_;rcases zz 0 b.1 with h|h
      ·rw[decide_eq_true (show a.1+b.1>a.1 by omega),decide_eq_true h]
      ·rw[decide_eq_false (show ¬a.1+b.1>a.1 by omega),decide_eq_false (show ¬b.1>0 by omega)])
  refine ze a1 (ze b1 (zk (fun e=>ze (Ak a2 b2) (ze n1 (zi (hq _ _ ?_)))) (fun e=>ze (Ak a3 b3) (zk (fun d=>ze ?_ (ze (n2 ((cge d).1 rfl)) (zi (hq _ _ ?_)))) (fun d=>ze ?_ (ze (n3 ((cge d).2 rfl)) (zi (hq _ _ ?_))))))))
  ·rw[hm];exact congrArg _ (slow1 (by simpa using e)).symm
  ·refine Ak (Ak a4 b4) (decide_eq_true ?_);rw[a5,b5];exact(cge d).1 rfl
  ·rw[hm];exact congrArg _ (slow2 (by simpa using e) ((cge d).1 rfl)).symm
  ·refine Ak (Ak b4 a4) (decide_eq_true ?_);rw[a5,b5];exact(cge d).2 rfl
  ·rw[hm];exact congrArg _ (slow3 (by simpa using e) ((cge d).2 rfl)).symm
end T226
end Go.Pe
end
section
namespace Go.Pe
open Sp
open Go.Det
theorem Fl{n:Int}(h1: -9223372036854775808≤n)(h2:n<9223372036854775808):GG n=true:=by
 unfold GG;rw[zf,decide_eq_true_eq,decide_eq_true_eq];exact⟨h1,h2⟩
theorem Lw{n:Int}(h:GG n=true):EY (n,[])=true:=by
 unfold EY;rw[h];rfl
theorem Qx{n:Int}{k:Nat}(h:Ah n<(An:Int)^k)(hk:k≤20000):EY (Cr n)=true∧(Cr n).2.length≤k:=by
 unfold Cr;split
 ·next c=>exact⟨Lw (Fl (by omega) (by omega)),Nat.zero_le _⟩
 ·next c=>
  obtain⟨n1,n2,n3⟩:=CZ (AD n) h hk;refine⟨?_,MK (AD n) h⟩;have hb:9223372036854775808≤Ah n:=by rw[Ar];omega
  unfold EY;refine Ak (Fl ?_ ?_) ?_
  ·show -9223372036854775808≤(if n<0 then -1 else 1);split<;>decide
  ·show(if n<0 then -1 else 1)<9223372036854775808;split<;>decide
  ·rw[yo];refine .inr (Ak (Ak n1 ?_) (decide_eq_true (by show _≤Ao (BL (Ah n));rw[n3];exact hb)));show(decide ((if n<0 then(-1:Int)else 1)=1)||decide ((if n<0 then(-1:Int)else 1)= -1))=true;split<;>rfl
theorem jT(a:Bl):zg (E3 a)= -zg a:=by
 unfold E3;split
 ·next h=>rw[En,BI h.1]
 ·exact Cx _
theorem Ys(n:Int):Ah (-n)=Ah n:=by rw[Ar,Ar];omega
theorem iQ{a:Bl}(h:EY a=true){k:Nat}(h1:1≤k)(hk:k≤20000)(hl:a.2.length≤k):EY (E3 a)=true∧(E3 a).2.length≤k:=by
 have hr:=(Em h).1;unfold E3;split
 ·next c=>exact⟨Lw (Fl (by omega) (by omega)),Nat.zero_le _⟩
 ·exact Qx (by rw[Ys];exact Hv h hl h1) hk
theorem kR{a:Bl}(h:BR a=true):BR (E3 a)=true:=by
 obtain⟨h1,h2⟩:=Hy h;obtain⟨h3,h4⟩:=iQ h1 (k:=9000) (by omega) (by omega) h2;unfold BR;exact Ak h3 (decide_eq_true h4)
theorem cR{a:Bl}(h:EY a=true):a.1<0↔zg a<0:=by
 obtain⟨_,hw⟩:=Em h;obtain⟨s,w⟩:=a;rcases hw with hw|⟨_,h2,h3⟩
 ·have hw:w=[]:=hw;subst hw;rw[En]
 ·have h2:s=1∨s= -1:=h2;have h3:9223372036854775808≤Ao w:=h3;have hne:w≠[]:=by rintro rfl;exact absurd h3 (by decide)
  rw[Yb hne];show s<0↔_;split<;>omega
theorem iC(a b:Bl):zg (Gz a b)=zg a+zg b:=by
 unfold Gz;split
 ·next h=>rw[En,BI h.1,BI h.2.1]
 ·exact Cx _
theorem ZO(x y:Int):Ah (x+y)≤Ah x+Ah y:=by
 rw[Ar,Ar,Ar];omega
theorem I8(x y:Int):Ah (x*y)=Ah x*Ah y:=by
 rw[Ar,Ar,Ar,Int.natAbs_mul,zW]
theorem bounds{a:Bl}(h:BR a=true):Ah (zg a)<(An:Int)^9000:=(words h).2.2.2.2.2
theorem jM{a b:Bl}(ha:BR a=true)(hb:BR b=true):EY (Gz a b)=true:=by
 unfold Gz;split
 ·next h=>exact Lw h.2.2
 ·exact(Qx (zK (ZO _ _) (Ka (AD _) (bounds ha) (bounds hb)).1) (by omega)).1
theorem gB(a b:Bl):zg (K3 a b)=zg a-zg b:=by
 unfold K3;rw[iC,jT];omega
theorem SX(a b:Bl):zg (Tv a b)=zg a*zg b:=Cx _
theorem UQ:∀g sp,mP.sp g=some sp→Ad AR g sp:=
 Ac T227.ok (Ac T226.ok (fun g sp h=>by cases h))
namespace T220
theorem ok:Ad AR 220 QE:=by
 refine Av (X:=Ro) rfl HJ (d:=9) (by kernel_rfl) (by kernel_rfl) (by kernel_rfl) (fun(a:Int×List Int) ha=>?_) (Ab (by kernel_rfl));have ha:EY a=true:=ha;exact zM (Ap a) (zi (zy rfl rfl (gX ha)))
end T220
namespace T219
theorem ok:Ad AR 219 dU:=by
 refine Av (X:=mP) rfl UQ (d:=9) (by kernel_rfl) (by kernel_rfl) (by kernel_rfl) (fun(a:Int×List Int) ha=>?_) (Ab (by kernel_rfl));have ha:EY a=true:=ha;refine zM (Ap a) (zk (fun c=>ze ha (zi (zy rfl rfl ?_))) (fun c=>zi (zy rfl rfl ?_)))
 ·show E3 a=Q5 a;unfold Q5;rw[if_pos (of_decide_eq_true c)]
 ·show a=Q5 a;unfold Q5;rw[if_neg (of_decide_eq_false c)]
end T219
namespace T228
theorem ok:Ad AR 228 Yi:=by
 refine Av (X:=mP) rfl UQ (d:=9) (by kernel_rfl) (by kernel_rfl) (by kernel_rfl) (fun(i:(Int×List Int)×(Int×List Int)) hi=>?_) (Ab (by kernel_rfl));obtain⟨a,b⟩:=i;have hi:(BR a&&BR b)=true:=hi;rw[zf]at hi;exact zM (Ap a b) (ze (Hy hi.2).1 (ze (Ak hi.1 (kR hi.2)) (zi (zy rfl rfl rfl))))
end T228
theorem ZL:∀g sp,oA.sp g=some sp→Ad AR g sp:=
 Ac T228.ok (Ac T220.ok (fun g sp h=>by cases h))
theorem dF(x y:Int):Y5 (x-y)=BB x y:=by
 unfold Y5 BB;split
 ·rw[if_pos (by omega)]
 ·split
  ·rw[if_neg (by omega),if_pos (by omega)]
  ·rw[if_neg (by omega),if_neg (by omega)]
namespace T183
theorem ok:Ad AR 183 XC:=by
 refine Av (X:=oA) rfl ZL (d:=9) (by kernel_rfl) (by kernel_rfl) (by kernel_rfl) (fun(i:(Int×List Int)×(Int×List Int)) hi=>?_) (Ab (by kernel_rfl));obtain⟨a,b⟩:=i;have hi:(BR a&&BR b)=true:=hi;have hi2:=hi;rw[zf]at hi2;have hs:EY (K3 a b)=true:=by
  unfold K3;exact jM hi2.1 (kR hi2.2)
 have hv:LD (K3 a b)=VA a b:=by
  show Y5 (zg (K3 a b))=BB (zg a) (zg b);rw[gB,dF]
 refine zM (Ap a b) (zk (fun c1=>zk (fun c2=>zk (fun d=>zi (zy rfl rfl ?_)) (fun d=>zk (fun e=>zi (zy rfl rfl ?_)) (fun e=>zi (zy rfl rfl ?_)))) (fun c2=>ze hi (ze hs (zi (zy rfl rfl hv))))) (fun c1=>ze hi (ze hs (zi (zy rfl rfl hv)))));all_goals
  have e1:=BI (Mn c1);have e2:=BI (Mn c2);show _=BB (zg a) (zg b);rw[e1,e2];unfold BB
 ·rw[if_pos (of_decide_eq_true d)]
 ·rw[if_neg (of_decide_eq_false d),if_pos (of_decide_eq_true e)]
 ·rw[if_neg (of_decide_eq_false d),if_neg (of_decide_eq_false e)]
end T183
theorem Pa(x y:Int):x*y=yc (!(decide (x<0)==decide (y<0))) (Ah x*Ah y):=by
 unfold Ah;rw[C4];by_cases h1:x<0<;>by_cases h2:y<0<;>simp[h1,h2,Int.neg_mul,Int.mul_neg]
namespace T186
theorem ok:Ad AR 186 RZ:=by
 refine Av (X:=jK) rfl PI (d:=9) (by kernel_rfl) (by kernel_rfl) (by kernel_rfl) (fun(i:(Int×List Int)×(Int×List Int)) hi=>?_) (Ab (by kernel_rfl));obtain⟨a,b⟩:=i;have hi:(BR a&&BR b)=true:=hi;rw[zf]at hi;obtain⟨a1,a2,a3,a4,a5,a6⟩:=words hi.1;obtain⟨b1,b2,b3,b4,b5,b6⟩:=words hi.2;have hra:=(Em a1).1;have hrb:=(Em b1).1;have na:=AD (zg a);have nb:=AD (zg b);obtain⟨_,t2⟩:=Ka na a6 b6;have np:0≤Ah (zg a)*Ah (zg b):=zt na nb;have n1:BV (BL (Ao (BL (Ah (zg a)))*Ao (BL (Ah (zg b)))))=true:=by
  rw[a5,b5];exact(CZ np t2 (by omega)).1
 have hv:yc (!(decide (zg a<0)==decide (zg b<0))) (Ao (BL (Ao (BL (Ah (zg a)))*Ao (BL (Ah (zg b))))))=zg a*zg b:=by
  rw[a5,b5,show Ao (BL (Ah (zg a)*Ah (zg b)))=_ from Dv (by decide) np, ←Pa]
 have hq:∀ob,Ae RZ (a,b) (.agg [.dat i64 (Ch (yc (!(decide (zg a<0)==decide (zg b<0))) (Ao (BL (Ao (BL (Ah (zg a)))*Ao (BL (Ah (zg b)))))))),.dat (.nlist (.int .u64)) (Cf (yc (!(decide (zg a<0)==decide (zg b<0))) (Ao (BL (Ao (BL (Ah (zg a)))*Ao (BL (Ah (zg b))))))))]) ob:=fun ob=>zy rfl rfl (by
  show Cr _=Cr (zg a*zg b);rw[hv])
 have ua:zq (Ah a.1)=true:=Cm (AD _) (by rw[Ar];omega);have ub:zq (Ah b.1)=true:=Cm (AD _) (by rw[Ar];omega);refine zM (Ap a b) (zk (fun c1=>zk (fun c2=>ze (Fl hra.1 hra.2) (ze (Fl hrb.1 hrb.2) (ze (Ak ua ub) (zk (fun c3=>zk (fun c4=>zk (fun c5=>zi (zy rfl rfl ?_)) (fun c5=>zi (zy rfl rfl ?_))) (fun c4=>?_)) (fun c3=>?_))))) (fun c2=>?_)) (fun c1=>?_))
 ·have e1:=BI (Mn c1);have e2:=BI (Mn c2);have c3:(Ah a.1*Ah b.1)/18446744073709551616=0:=by simpa [OL]using c3
  have c4:(Ah a.1*Ah b.1) % 18446744073709551616≤9223372036854775807:=of_decide_eq_true c4;have p0:0≤Ah a.1*Ah b.1:=zt (AD _) (AD _);have hm:=Pa a.1 b.1;have c5:(!(decide (a.1<0)==decide (b.1<0)))=true:=c5;rw[c5,C4,if_pos rfl]at hm;show(zc .i64 (0-zc .i64 ((Ah a.1*Ah b.1) % 18446744073709551616)),[])=Cr (zg a*zg b);rw[e1,e2,hm,BP (by omega),wr ((Ah a.1*Ah b.1) % 18446744073709551616) (by omega) (by omega),wr _ (by omega) (by omega)];congr 1;omega
 ·have e1:=BI (Mn c1);have e2:=BI (Mn c2);have c3:(Ah a.1*Ah b.1)/18446744073709551616=0:=by simpa [OL]using c3
  have c4:(Ah a.1*Ah b.1) % 18446744073709551616≤9223372036854775807:=of_decide_eq_true c4;have p0:0≤Ah a.1*Ah b.1:=zt (AD _) (AD _);have hm:=Pa a.1 b.1;have c5:(!(decide (a.1<0)==decide (b.1<0)))=false:=c5;rw[c5,C4,if_neg (by decide)]at hm;show(zc .i64 ((Ah a.1*Ah b.1) % 18446744073709551616),[])=Cr (zg a*zg b);rw[e1,e2,hm,BP (by omega),wr ((Ah a.1*Ah b.1) % 18446744073709551616) (by omega) (by omega)];congr 1;omega
 all_goals exact ze a1 (ze b1 (ze (Ak a2 b2) (ze n1 (zi (hq _)))))
end T186
end Go.Pe
end
section
namespace Go.Sp
def Fx(n:Int):Int:=if n≤0 then 0 else(n.toNat.log2:Int)+1
def lz(n:Int):Int:=64-Fx n
def dq(h l y:Int):Int:=(h*18446744073709551616+l)/y
def dr(h l y:Int):Int:=(h*18446744073709551616+l) % y
end Go.Sp
namespace Go.Pe
open Go.Det
noncomputable section
noncomputable def Wo:As:=⟨[u64],fun n=>zq n,[i64],fun n=>Sp.Fx n,false⟩
noncomputable def lT:As:=⟨[u64],fun n=>zq n,[i64],fun n=>Sp.lz n,false⟩
noncomputable def PB:As:=⟨[u64,u64,u64],fun i=>zq i.1&&zq i.2.1&&zq i.2.2&&decide ((i.1:Int)<i.2.2),[u64,u64],fun i=>(Sp.dq i.1 i.2.1 i.2.2,Sp.dr i.1 i.2.1 i.2.2),false⟩
noncomputable def oJ:AW:=X7 [(246,Wo)]
noncomputable def WY:AW:=X7 [(318,lT)]
end
noncomputable section
open List Int Prod
namespace T246
def T(x:Int):Tr:=tree Ro false 9 246 (Ag ([zh zd]) x)
theorem Ap(x:Int):T x=let a':=([0,1,2,2,3,3,3,3,4,4,4,4,4,4,4,4,5,5,5,5,5,5,5,5,5,5,5,5,5,5,5,5,6,6,6,6,6,6,6,6,6,6,6,6,6,6,6,6,6,6,6,6,6,6,6,6,6,6,6,6,6,6,6,6,7,7,7,7,7,7,7,7,7,7,7,7,7,7,7,7,7,7,7,7,7,7,7,7,7,7,7,7,7,7,7,7,7,7,7,7,7,7,7,7,7,7,7,7,7,7,7,7,7,7,7,7,7,7,7,7,7,7,7,7,7,7,7,7,8,8,8,8,8,8,8,8,8,8,8,8,8,8,8,8,8,8,8,8,8,8,8,8,8,8,8,8,8,8,8,8,8,8,8,8,8,8,8,8,8,8,8,8,8,8,8,8,8,8,8,8,8,8,8,8,8,8,8,8,8,8,8,8,8,8,8,8,8,8,8,8,8,8,8,8,8,8,8,8,8,8,8,8,8,8,8,8,8,8,8,8,8,8,8,8,8,8,8,8,8,8,8,8,8,8,8,8,8,8,8,8,8,8,8,8,8,8,8,8,8,8,8,8,8,8,8,8]:List UInt8);let b':=zn x (2^32);let c':=(0:Sh.T (zh yv));let e':=zn x (2^16);let i':=zn x (2^8);let d':=zn b' (2^16);let g':=zn b' (2^8);let h':=zn e' (2^8);let f':=zn d' (2^8);.ite (decide (x≥4294967296)) (.ite true (.ite (decide (zn x (2^32)≥65536)) (.ite true (.ite (decide (zn b' (2^16)≥256)) (.ite true (.ite (decide (c'≤zc .u8 f')&&decide (zc .u8 f'<(↑256:Int))) (.leaf (.dat i64 (zc .i64 (zc .i64 (zc .i64 (32+16)+8)+zc .i64 (↑(zJ (getD a' (toNat (zc .u8 f')) (0:UInt8))):Int)))) []) .fail) .fail) (.ite (decide (c'≤zc .u8 d')&&decide (zc .u8 d'<(↑256:Int))) (.leaf (.dat i64 (zc .i64 (zc .i64 (32+16)+zc .i64 (↑(zJ (getD a' (toNat (zc .u8 d')) (0:UInt8))):Int)))) []) .fail)) .fail) (.ite (decide (zn x (2^32)≥256)) (.ite true (.ite (decide (c'≤zc .u8 g')&&decide (zc .u8 g'<(↑256:Int))) (.leaf (.dat i64 (zc .i64 (zc .i64 (32+8)+zc .i64 (↑(zJ (getD a' (toNat (zc .u8 g')) (0:UInt8))):Int)))) []) .fail) .fail) (.ite (decide (c'≤zc .u8 b')&&decide (zc .u8 b'<(↑256:Int))) (.leaf (.dat i64 (zc .i64 (32+zc .i64 (↑(zJ (getD a' (toNat (zc .u8 b')) (0:UInt8))):Int)))) []) .fail))) .fail) (.ite (decide (x≥65536)) (.ite true (.ite (decide (zn x (2^16)≥256)) (.ite true (.ite (decide (c'≤zc .u8 h')&&decide (zc .u8 h'<(↑256:Int))) (.leaf (.dat i64 (zc .i64 (zc .i64 (zc .i64 (0+16)+8)+zc .i64 (↑(zJ (getD a' (toNat (zc .u8 h')) (0:UInt8))):Int)))) []) .fail) .fail) (.ite (decide (c'≤zc .u8 e')&&decide (zc .u8 e'<(↑256:Int))) (.leaf (.dat i64 (zc .i64 (zc .i64 (0+16)+zc .i64 (↑(zJ (getD a' (toNat (zc .u8 e')) (0:UInt8))):Int)))) []) .fail)) .fail) (.ite (decide (x≥256)) (.ite true (.ite (decide (c'≤zc .u8 i')&&decide (zc .u8 i'<(↑256:Int))) (.leaf (.dat i64 (zc .i64 (zc .i64 (0+8)+zc .i64 (↑(zJ (getD a' (toNat (zc .u8 i')) (0:UInt8))):Int)))) []) .fail) .fail) (.ite (decide (c'≤zc .u8 x)&&decide (zc .u8 x<(↑256:Int))) (.leaf (.dat i64 (zc .i64 (0+zc .i64 (↑(zJ (getD a' (toNat (zc .u8 x)) (0:UInt8))):Int)))) []) .fail))):=by kernel_rfl
end T246
namespace T318
def T(x:Int):Tr:=tree oJ false 9 318 (Ag ([zh zd]) x)
theorem Ap(x:Int):T x=.ite (zq x) (.leaf (.dat i64 (zc .i64 (64-Sp.Fx x))) []) .fail:=by kernel_rfl
end T318
namespace T317
def T(hi lo y:Int):Tr:=tree WY false 9 317 (Ag ([zh zd,zh zd,zh zd]) (hi,lo,y))
def L1(v2 v8 v9 v10 v11 v13 v14 v15 v16:Int):Tr:=re ((T 0 0 0).R.R.R.L.L.L.L.L.L.L.L) (Al 135 [(2,.dat (zh zd) v2),(8,.dat (zh zd) v8),(9,.dat (zh zd) v9),(10,.dat (zh zd) v10),(11,.dat (zh zd) v11),(13,.dat (zh zd) v13),(14,.dat (zh zd) v14),(15,.dat (zh zd) v15),(16,.dat (zh zd) v16)] [] 0)
theorem Ap(hi lo y:Int):T hi lo y=let e':=decide (0≤zc .u64 (Sp.lz y));let i':=64-zc .u64 (Sp.lz y);let j':=zc .u64 (Sp.lz y);let c':=toNat j';let d':=zn lo (2^ym (toNat (zc .u64 i')) 64);let a':=zc .u64 (y*2^ym c' 64);let f':=zc .u64 (lo*2^ym c' 64);let g':=zc .u64 (hi*2^ym c' 64);let b':=Vn zd g' d';let h':=zn a' (2^32);.ite (y==0) .fail (.ite (decide (y≤hi)) .fail (.ite (hi==0) (.ite (decide (y≠0)) (.ite (decide (y≠0)) (.leaf (.tup [.dat (zh zd) (zc .u64 (zZ lo y)),.dat (zh zd) (Int.tmod lo y)]) []) .fail) .fail) (.ite (zq y) (.ite e' (.ite true (.ite e' (.ite (decide (0≤zc .u64 i')) (.ite e' (.ite true (.ite (decide (zn a' (2^32)≠0)) (L1 a' j' h' (EK zd a' 4294967295) b' (zn f' (2^32)) (EK zd f' 4294967295) (zc .u64 (zZ b' h')) (zc .u64 (Vn zd g' d'-zc .u64 (zc .u64 (zZ b' h')*zn a' (2^32))))) .fail) .fail) .fail) .fail) .fail) .fail) .fail) .fail))):=by kernel_rfl
def L2(v2 v8 v9 v10 v14 v15 v16 v17 v18:Int):Tr:=re ((stepT WY (L1 0 0 0 0 0 0 0 0 0)).L.L.L) (Al 135 [(2,.dat (zh zd) v2),(8,.dat (zh zd) v8),(9,.dat (zh zd) v9),(10,.dat (zh zd) v10),(14,.dat (zh zd) v14),(15,.dat (zh zd) v15),(16,.dat (zh zd) v16),(17,.dat (zh zd) v17),(18,.dat (zh zd) v18)] [] 0)
theorem Ai(v2 v8 v9 v10 v11 v13 v14 v15 v16:Int):stepT WY (L1 v2 v8 v9 v10 v11 v13 v14 v15 v16)=let f':=zc .u64 (v11*4294967296)+v13;let g':=zc .u64 (v15-1);let b':=zc .u64 f'-zc .u64 (zc .u64 (v15-1)*v2);let c':=zc .u64 f'-zc .u64 (v15*v2);let d':=zc .u64 c';let e':=zc .u64 b';let a':Tr:=.ite (decide (zc .u64 (v16+v9)≥4294967296)) (.ite (decide (v9≠0)) (L2 v2 v8 v9 v10 v14 g' (zc .u64 (zc .u64 b'-zc .u64 (zc .u64 (zZ e' v9)*v9))) e' (zc .u64 (zZ e' v9))) .fail) (L1 v2 v8 v9 v10 v11 v13 v14 g' (zc .u64 (v16+v9)));.ite (decide (v15≥4294967296)) a' (.ite (decide (zc .u64 (v15*v10)>zc .u64 (zc .u64 (4294967296*v16)+v13))) a' (.ite (decide (v9≠0)) (L2 v2 v8 v9 v10 v14 v15 (zc .u64 (zc .u64 c'-zc .u64 (zc .u64 (zZ d' v9)*v9))) d' (zc .u64 (zZ d' v9))) .fail)):=by kernel_rfl
theorem AN(v2 v8 v9 v10 v14 v15 v16 v17 v18:Int):stepT WY (L2 v2 v8 v9 v10 v14 v15 v16 v17 v18)=let b':=zh zd;let c':=zc .u64 (v17*4294967296)+v14;let d':=2^ym (toNat v8) 64;let a':Tr:=.ite (decide (zc .u64 (v16+v9)≥4294967296)) (.ite (decide (0≤v8)) (.leaf (.tup [.dat b' (zc .u64 (zc .u64 (v15*4294967296)+zc .u64 (v18-1))),.dat b' (zn (zc .u64 (zc .u64 c'-zc .u64 (zc .u64 (v18-1)*v2))) d')]) []) .fail) (L2 v2 v8 v9 v10 v14 v15 (zc .u64 (v16+v9)) v17 (zc .u64 (v18-1)));.ite (decide (v18≥4294967296)) a' (.ite (decide (zc .u64 (v18*v10)>zc .u64 (zc .u64 (4294967296*v16)+v14))) a' (.ite (decide (0≤v8)) (.leaf (.tup [.dat b' (zc .u64 (zc .u64 (v15*4294967296)+v18)),.dat b' (zn (zc .u64 (zc .u64 c'-zc .u64 (v18*v2))) d')]) []) .fail)):=by kernel_rfl
end T317
end
namespace T317
variable {Q:PV→Ob→Prop}
def Exact(Y u w q:Int):Prop:=q*Y≤u*4294967296+w∧u*4294967296+w<(q+1)*Y
theorem TO{Y y1 y0 u w q r:Int}(hY:Y=y1*4294967296+y0)(he:q*y1+r=u)(h:q*y0>4294967296*r+w):u*4294967296+w<q*Y:=by
 subst hY;rw[zF, ←zr];generalize q*y1=A at*;generalize q*y0=C at*;omega
theorem I5{Y y1 y0 u w q r:Int}(hY:Y=y1*4294967296+y0)(he:q*y1+r=u)(h:q*y0≤4294967296*r+w):q*Y≤u*4294967296+w:=by
 subst hY;rw[zF, ←zr];generalize q*y1=A at*;generalize q*y0=C at*;omega
theorem QU{Y u w q:Int}(hu:u<Y)(hY:0≤Y)(hw:w<4294967296)(hq:4294967296≤q):u*4294967296+w<q*Y:=by
 have:=zj hq hY;omega
theorem QQ{y1 y0 u w r:Int}{n:Nat}{Y:Int}(hY:Y=y1*4294967296+y0)(h1:0≤y1)(h0:0≤y0∧y0<4294967296)(hu:u<Y)(hw:0≤w)(he:(n:Int)*y1+r=u)(hr:4294967296≤r):(n:Int)*Y≤u*4294967296+w:=by
 have hn:(n:Int)<4294967296:=by
  rcases zz (n:Int) 4294967296 with h|h
  ·exact h
  ·have:=zj h h1;omega
 refine I5 hY he ?_;have a:=zj (show(n:Int)≤4294967295 by omega) h0.1;omega
theorem Aj(Y s y1 y0 u w z:Int)(hY:Y=y1*4294967296+y0)(h1:0<y1∧y1<4294967296)(h0:0≤y0∧y0<4294967296)(hu:u<Y)(hw:0≤w∧w<4294967296)
  (hx:∀q:Int,0≤q→Exact Y u w q→Ends WY (L2 Y s y1 y0 z q (zc zd (zc zd (zc zd (zc zd (u*(4294967296:Int))+w)-zc zd (q*Y))-zc zd (zc zd (zZ (zc zd (zc zd (zc zd (u*(4294967296:Int))+w)-zc zd (q*Y))) y1)*y1))) (zc zd (zc zd (zc zd (u*(4294967296:Int))+w)-zc zd (q*Y))) (zc zd (zZ (zc zd (zc zd (zc zd (u*(4294967296:Int))+w)-zc zd (q*Y))) y1))) Q):
  ∀(n:Nat) (r:Int),(n:Int)<18446744073709551616→(n:Int)*y1+r=u→0≤r→r<4294967296→u*4294967296+w<((n:Int)+1)*Y→Ends WY (L1 Y s y1 y0 u w z n r) Q:=by
 intro n;induction n with
 |zero=>
  intro r hn he r0 r1 hup;have hz:decide (y1≠0)=true:=decide_eq_true (by omega);refine zQ (Ai ..) (zO (by simp) (zO (decide_eq_false ?_) (ze hz (hx _ (by omega) ⟨?_,hup⟩))))
  ·rw[show((0:Nat):Int)*y0=0 by simp,wu 0 (by omega) (by omega),wu (4294967296*r) (by omega) (by omega),wu _ (by omega) (by omega)];omega
  ·exact I5 hY he (by rw[show((0:Nat):Int)*y0=0 by simp];omega)
 |succ n ih=>
  intro r hn he r0 r1 hup;have hz:decide (y1≠0)=true:=decide_eq_true (by omega);have e1:zc .u64 (((n+1:Nat):Int)-1)=(n:Int):=by rw[wu _ (by omega) (by omega)];omega
  have e2:zc .u64 (r+y1)=r+y1:=wu _ (by omega) (by omega);have hY0:0≤Y:=by omega
  have he':(n:Int)*y1+(r+y1)=u:=by
   rw[show((n+1:Nat):Int)=(n:Int)+1 by omega,zA,zP]at he;omega
  have ec:((n+1:Nat):Int)=(n:Int)+1:=by omega
  have dec:u*4294967296+w<((n:Int)+1)*Y→r+y1<4294967296→Ends WY (L1 Y s y1 y0 u w z n (r+y1)) Q:=fun h1' h2'=>
   ih (r+y1) (by omega) he' (by omega) h2' h1'
  have cut:u*4294967296+w<((n:Int)+1)*Y→4294967296≤r+y1→Exact Y u w n:=fun h1' h2'=>
   ⟨QQ hY (by omega) h0 hu hw.1 he' h2',h1'⟩
  refine zQ (Ai ..) ?_;conv=>zeta
  rw[e1,e2];refine zk (fun c=>?_) (fun c=>zk (fun d=>?_) (fun d=>?_))
  ·have c:=of_decide_eq_true c;have hb:u*4294967296+w<((n:Int)+1)*Y:=by rw[←ec];exact QU hu hY0 hw.2 c
   exact zk (fun e=>ze hz (hx _ (by omega) (cut hb (of_decide_eq_true e)))) (fun e=>dec hb (by have:=of_decide_eq_false e;omega))
  ·have c:=of_decide_eq_false c;have d:=of_decide_eq_true d;have a:=zj (show((n+1:Nat):Int)≤4294967295 by omega) h0.1;have b:=zt (show 0≤((n+1:Nat):Int)by omega) h0.1;rw[wu (((n+1:Nat):Int)*y0) (by omega) (by omega),wu (4294967296*r) (by omega) (by omega),wu _ (by omega) (by omega)]at d;have hb:u*4294967296+w<((n:Int)+1)*Y:=by rw[←ec];exact TO hY he d
   exact zk (fun e=>ze hz (hx _ (by omega) (cut hb (of_decide_eq_true e)))) (fun e=>dec hb (by have:=of_decide_eq_false e;omega))
  ·have c:=of_decide_eq_false c;have d:=of_decide_eq_false d;have a:=zj (show((n+1:Nat):Int)≤4294967295 by omega) h0.1;have b:=zt (show 0≤((n+1:Nat):Int)by omega) h0.1;rw[wu (((n+1:Nat):Int)*y0) (by omega) (by omega),wu (4294967296*r) (by omega) (by omega),wu _ (by omega) (by omega)]at d;exact ze hz (hx _ (by omega) ⟨I5 hY he (by omega),hup⟩)
theorem AL(Y s y1 y0 u w p:Int)(hY:Y=y1*4294967296+y0)(h1:0<y1∧y1<4294967296)(h0:0≤y0∧y0<4294967296)(hu:u<Y)(hw:0≤w∧w<4294967296)(hs:0≤s)
  (hx:∀q:Int,0≤q→Exact Y u w q→∀ob,Q (PV.tup [PV.dat (zh zd) (zc zd (zc zd (p*(4294967296:Int))+q)),PV.dat (zh zd) (zn (zc zd (zc zd (zc zd (u*(4294967296:Int))+w)-zc zd (q*Y))) ((2:Int)^ym (yu s) (64:Nat)))]) ob):
  ∀(n:Nat) (r:Int),(n:Int)<18446744073709551616→(n:Int)*y1+r=u→0≤r→r<4294967296→u*4294967296+w<((n:Int)+1)*Y→Ends WY (L2 Y s y1 y0 w p r u n) Q:=by
 intro n;induction n with
 |zero=>
  intro r hn he r0 r1 hup;have hz:decide (0≤s)=true:=decide_eq_true hs;refine zQ (AN ..) (zO (by simp) (zO (decide_eq_false ?_) (ze hz (zi (hx _ (by omega) ⟨?_,hup⟩ _)))))
  ·rw[show((0:Nat):Int)*y0=0 by simp,wu 0 (by omega) (by omega),wu (4294967296*r) (by omega) (by omega),wu _ (by omega) (by omega)];omega
  ·exact I5 hY he (by rw[show((0:Nat):Int)*y0=0 by simp];omega)
 |succ n ih=>
  intro r hn he r0 r1 hup;have hz:decide (0≤s)=true:=decide_eq_true hs;have e1:zc .u64 (((n+1:Nat):Int)-1)=(n:Int):=by rw[wu _ (by omega) (by omega)];omega
  have e2:zc .u64 (r+y1)=r+y1:=wu _ (by omega) (by omega);have hY0:0≤Y:=by omega
  have he':(n:Int)*y1+(r+y1)=u:=by
   rw[show((n+1:Nat):Int)=(n:Int)+1 by omega,zA,zP]at he;omega
  have ec:((n+1:Nat):Int)=(n:Int)+1:=by omega
  have dec:u*4294967296+w<((n:Int)+1)*Y→r+y1<4294967296→Ends WY (L2 Y s y1 y0 w p (r+y1) u n) Q:=fun h1' h2'=>
   ih (r+y1) (by omega) he' (by omega) h2' h1'
  have cut:u*4294967296+w<((n:Int)+1)*Y→4294967296≤r+y1→Exact Y u w n:=fun h1' h2'=>
   ⟨QQ hY (by omega) h0 hu hw.1 he' h2',h1'⟩
  refine zQ (AN ..) ?_;conv=>zeta
  rw[e1,e2];refine zk (fun c=>?_) (fun c=>zk (fun d=>?_) (fun d=>?_))
  ·have c:=of_decide_eq_true c;have hb:u*4294967296+w<((n:Int)+1)*Y:=by rw[←ec];exact QU hu hY0 hw.2 c
   exact zk (fun e=>ze hz (zi (hx _ (by omega) (cut hb (of_decide_eq_true e)) _))) (fun e=>dec hb (by have:=of_decide_eq_false e;omega))
  ·have c:=of_decide_eq_false c;have d:=of_decide_eq_true d;have a:=zj (show((n+1:Nat):Int)≤4294967295 by omega) h0.1;have b:=zt (show 0≤((n+1:Nat):Int)by omega) h0.1;rw[wu (((n+1:Nat):Int)*y0) (by omega) (by omega),wu (4294967296*r) (by omega) (by omega),wu _ (by omega) (by omega)]at d;have hb:u*4294967296+w<((n:Int)+1)*Y:=by rw[←ec];exact TO hY he d
   exact zk (fun e=>ze hz (zi (hx _ (by omega) (cut hb (of_decide_eq_true e)) _))) (fun e=>dec hb (by have:=of_decide_eq_false e;omega))
  ·have c:=of_decide_eq_false c;have d:=of_decide_eq_false d;have a:=zj (show((n+1:Nat):Int)≤4294967295 by omega) h0.1;have b:=zt (show 0≤((n+1:Nat):Int)by omega) h0.1;rw[wu (((n+1:Nat):Int)*y0) (by omega) (by omega),wu (4294967296*r) (by omega) (by omega),wu _ (by omega) (by omega)]at d;exact ze hz (zi (hx _ (by omega) ⟨I5 hY he (by omega),hup⟩ _))
end T317
theorem R8{y:Int}(h1:0<y)(h2:y<18446744073709551616):∃s:Nat,Sp.lz y=(s:Int)∧s≤63∧y*2^s<18446744073709551616∧9223372036854775808≤y*2^s:=by
 obtain⟨n,rfl⟩:=zp (zN h1);have hn:n≠0:=by omega
 have hk:n.log2<64:=(Nat.log2_lt hn).2 (by omega);have a:=Nat.log2_self_le hn;have b:=Nat.lt_log2_self (n:=n);have e1:2^n.log2*2^(63-n.log2)=2^63:=by rw[←yt];congr 1;omega
 have e2:2^(n.log2+1)*2^(63-n.log2)=2^64:=by rw[←yt];congr 1;omega
 have c1:2^63≤n*2^(63-n.log2):=by rw[←e1];exact Nat.mul_le_mul_right _ a
 have c2:n*2^(63-n.log2)<2^64:=by rw[←e2];exact Nat.mul_lt_mul_of_pos_right b (yp _)
 refine⟨63-n.log2,?_,by omega,?_,?_⟩
 ·unfold Sp.lz Sp.Fx;rw[if_neg (by omega),zl];omega
 ·have:((n*2^(63-n.log2):Nat):Int)<18446744073709551616:=by omega
  rw[zW,zR]at this;exact this
 ·have:(9223372036854775808:Int)≤((n*2^(63-n.log2):Nat):Int):=by omega
  rw[zW,zR]at this;exact this
theorem UO{a b:Int}{s:Nat}(ha:0≤a)(hb:0≤b)(h:b<2^s)(hm:a*2^s+b<18446744073709551616):Vn .u64 (a*2^s) b=a*2^s+b:=by
 obtain⟨m,rfl⟩:=zp ha;obtain⟨k,rfl⟩:=zp hb;have ep:((m:Int)*2^s)=((m*2^s:Nat):Int):=by rw[zW,zR];rfl
 have hk:k<2^s:=by
  have e:((2:Int)^s)=((2^s:Nat):Int):=by rw[zR];rfl
  rw[e]at h;omega
 rw[ep]at hm ⊢;have e:(zH 64 ((m*2^s:Nat):Int)|||zH 64 (k:Int)).toNat=m*2^s+k:=by
  rw[BitVec.toNat_or,z7,z7,ya,ya,yh (by omega),yh (by omega),Nat.mul_comm m,Nat.two_pow_add_eq_or_of_lt hk]
 show zc .u64 (((zH 64 ((m*2^s:Nat):Int)|||zH 64 (k:Int)).toNat:Nat):Int)=_;rw[e,Y1 _ (by omega)];omega
namespace T317
theorem start{u y1 y0 Y w:Int}(hY:Y=y1*4294967296+y0)(h1:0<y1∧y1<4294967296)(h0:0≤y0)(hu:0≤u∧u<18446744073709551616)(hw:w<4294967296):
  ∃(n:Nat) (r:Int),zc .u64 (zZ u y1)=(n:Int)∧zc .u64 (u-zc .u64 ((n:Int)*y1))=r∧(n:Int)<18446744073709551616∧(n:Int)*y1+r=u∧0≤r∧r<4294967296∧u*4294967296+w<((n:Int)+1)*Y:=by
 have q0:0≤u/y1:=yq hu.1 (by omega);have q1:u/y1≤u:=Int.ediv_le_self _ hu.1;have ed:=Int.mul_ediv_add_emod u y1;have r0:=Int.emod_nonneg u (show y1≠0 by omega);have r1:=Int.emod_lt_of_pos u h1.1;rw[zD]at ed;obtain⟨n,hn⟩:=zp q0;have hp:0≤(n:Int)*y1:=zt (by omega) (by omega);rw[hn]at ed;refine⟨n,u % y1,?_,?_,by omega,ed,r0,by omega,?_⟩
 ·rw[ye hu.1,hn,wu _ (by omega) (by omega)]
 ·rw[wu ((n:Int)*y1) (by omega) (by omega),wu _ (by omega) (by omega)];omega
 ·subst hY;have a:((n:Int)+1)*(y1*4294967296+y0)=((n:Int)*y1+y1)*4294967296+((n:Int)+1)*y0:=by
   rw[zF, ←zr,zA,zP]
  have b:0≤((n:Int)+1)*y0:=zt (by omega) h0;rw[a];omega
theorem OD{u w q Y:Int}(hE:Exact Y u w q)(hY:Y<18446744073709551616):zc .u64 (zc .u64 (zc .u64 (u*(4294967296:Int))+w)-zc .u64 (q*Y))=u*4294967296+w-q*Y:=by
 obtain⟨a,b⟩:=hE;rw[zA,zP]at b;rw[Jo,Jo,Jo,Jo];generalize q*Y=A at*;omega
theorem bI(h:Ad AR 318 lT):∀g sp,WY.sp g=some sp→Ad AR g sp:=Ac h (fun g sp h=>by cases h)
set_option maxHeartbeats 1000000 in
theorem ok(hlz:Ad AR 318 lT):Ad AR 317 PB:=by
 refine Av (X:=WY) rfl (bI hlz) (d:=9) (by kernel_rfl) (by kernel_rfl) (by kernel_rfl) (fun(i:Int×Int×Int) hi=>?_) (Ab (by kernel_rfl));obtain⟨hi',lo,y⟩:=i;have hi:(zq hi'&&zq lo&&zq y&&decide (hi'<y))=true:=hi;rw[zf,zf,zf,decide_eq_true_eq]at hi;obtain⟨⟨⟨h1,h2⟩,h3⟩,h4⟩:=hi;have uy:=h3;have h1:=Sp.AV h1;have h2:=Sp.AV h2;have h3:=Sp.AV h3;have hg:∀q r ob,q=Sp.dq hi' lo y→r=Sp.dr hi' lo y→Ae PB (hi',lo,y) (PV.tup [PV.dat (zh zd) q,PV.dat (zh zd) r]) ob:=fun q r ob e1 e2=>zy rfl rfl (Prod.ext e1 e2)
 refine zM (Ap hi' lo y) (zO (by simp;omega) (zO (decide_eq_false (by omega)) (zk (fun c=>?_) (fun c=>?_))))
 ·have c:hi'=0:=by simpa using c
  subst c;have q0:0≤lo/y:=yq h2.1 (by omega);have q1:lo/y≤lo:=Int.ediv_le_self _ h2.1;refine ze (decide_eq_true (by omega)) (ze (decide_eq_true (by omega)) (zi (hg _ _ _ ?_ ?_)))
  ·unfold Sp.dq;rw[ye h2.1,wu _ (by omega) (by omega),Int.zero_mul,yn]
  ·unfold Sp.dr;rw[Int.tmod_eq_emod_of_nonneg h2.1,Int.zero_mul,yn]
 ·have c:hi'≠0:=by simpa using c
  obtain⟨s,hs,hs63,hlt,hge⟩:=R8 (y:=y) (by omega) h3.2;have es:zc .u64 (s:Int)=(s:Int):=Y1 s (by omega);have em:ym s 64=s:=by omega
  have es2:zc .u64 ((64:Int)-(s:Int))=((64-s:Nat):Int):=by rw[wu _ (by omega) (by omega)];omega
  have em2:ym (64-s) 64=64-s:=by omega
  have hPR:(2:Int)^s*2^(64-s)=18446744073709551616:=by rw[←Int.pow_add,show s+(64-s)=64 by omega];rfl
  have hP:(0:Int)<2^s:=Int.pow_pos (by decide);have hR:(0:Int)<2^(64-s):=Int.pow_pos (by decide);have a0:0≤lo/2^(64-s):=yq h2.1 (by omega);have led:=Int.mul_ediv_add_emod lo (2^(64-s));have c0:=Int.emod_nonneg lo (show(2:Int)^(64-s)≠0 by omega);have c1:=Int.emod_lt_of_pos lo hR;have aP:lo/2^(64-s)<2^s:=Int.ediv_lt_of_lt_mul hR (by rw[hPR];exact h2.2);have hiP:hi'*2^s+2^s≤y*2^s:=by
   have:=zj (show hi'+1≤y by omega) (zN hP);rw[zA,zP]at this;exact this
  have hi0:0≤hi'*2^s:=zt h1.1 (zN hP);have efd:zn lo ((2:Int)^(64-s))=lo/2^(64-s):=zL _ (by omega);have eio:Vn .u64 (hi'*2^s) (lo/2^(64-s))=hi'*2^s+lo/2^(64-s):=UO h1.1 a0 aP (by omega);have cP0:0≤(lo % 2^(64-s))*2^s:=zt c0 (zN hP);have cP1:(lo % 2^(64-s))*2^s<18446744073709551616:=by
   have:=Int.mul_lt_mul_of_pos_right c1 hP;rw[zD (2^(64-s)),hPR]at this;exact this
  have loP:lo*2^s=(lo/2^(64-s))*18446744073709551616+(lo % 2^(64-s))*2^s:=by
   conv=>lhs;rw[←led]
   rw[zA, ←hPR,zD (2^(64-s)) (lo/2^(64-s)),zr,zD (2^(64-s)) (2^s)]
  have elo:zc .u64 (lo*2^s)=(lo % 2^(64-s))*2^s:=by rw[loP,Jo];omega
  have hN:(hi'*2^s+lo/2^(64-s))*18446744073709551616+(lo % 2^(64-s))*2^s=(hi'*18446744073709551616+lo)*2^s:=by
   rw[zA (hi'*18446744073709551616) lo (2^s),loP,zr hi' 18446744073709551616 (2^s),zD 18446744073709551616 ((2:Int)^s), ←zr];omega
  have ewy:zc .u64 (y*2^s)=y*2^s:=wu _ (by omega) (by omega);have ewh:zc .u64 (hi'*2^s)=hi'*2^s:=wu _ hi0 (by omega);have z0:decide ((0:Int)≤(s:Int))=true:=decide_eq_true (by omega);have fin:∀q:Int,q*(y*2^s)≤(hi'*18446744073709551616+lo)*2^s→(hi'*18446744073709551616+lo)*2^s<(q+1)*(y*2^s)→q=Sp.dq hi' lo y∧zn ((hi'*18446744073709551616+lo)*2^s-q*(y*2^s)) (2^s)=Sp.dr hi' lo y:=by
   intro q f1 f2;unfold Sp.dq Sp.dr;generalize hi'*18446744073709551616+lo=M at*;rw[←zr]at f1 f2;have g1:q*y≤M:=Int.le_of_mul_le_mul_right f1 hP;have g2:M<(q+1)*y:=Int.lt_of_mul_lt_mul_right f2 (zN hP);rw[zA,zP]at g2;obtain⟨u1,u2⟩:=(Int.ediv_emod_unique (a:=M) (b:=y) (r:=M-q*y) (q:=q) (by omega)).2 ⟨by rw[zD y q];omega,by omega,by omega⟩;refine⟨u1.symm,?_⟩;rw[u2, ←zr, ←Int.sub_mul,zL _ (zN hP)];exact Int.mul_ediv_cancel _ (by omega)
  obtain⟨Y,eY⟩:=zp (show 0≤y*2^s by omega);obtain⟨C,eC⟩:=zp cP0;have hU0:0≤hi'*2^s+lo/2^(64-s):=by omega
  have hUY:hi'*2^s+lo/2^(64-s)<y*2^s:=by omega
  rw[hs,es,es2,zl,zl,em,em2,ewy,ewh,efd,eio,elo];rw[eC]at hN cP1 ⊢;rw[eY]at hlt hge hUY fin ⊢;generalize hU:hi'*2^s+lo/2^(64-s)=U at*;generalize hM:(hi'*18446744073709551616+lo)*2^s=M at*;rw[Vp,Vp,Nm Y (by omega),Nm C (by omega)];have hY:(Y:Int)=((Y/4294967296:Nat):Int)*4294967296+((Y % 4294967296:Nat):Int):=by omega
  have b1:0<((Y/4294967296:Nat):Int)∧((Y/4294967296:Nat):Int)<4294967296:=by omega
  have b0:0≤((Y % 4294967296:Nat):Int)∧((Y % 4294967296:Nat):Int)<4294967296:=by omega
  have w1:0≤((C/4294967296:Nat):Int)∧((C/4294967296:Nat):Int)<4294967296:=by omega
  have w0:0≤((C % 4294967296:Nat):Int)∧((C % 4294967296:Nat):Int)<4294967296:=by omega
  have hC:(C:Int)=((C/4294967296:Nat):Int)*4294967296+((C % 4294967296:Nat):Int):=by omega
  generalize ((Y/4294967296:Nat):Int)=y1 at*;generalize ((Y % 4294967296:Nat):Int)=y0 at*;generalize ((C/4294967296:Nat):Int)=w at*;generalize ((C % 4294967296:Nat):Int)=z at*;refine ze uy (ze z0 (ze rfl (ze z0 (ze (decide_eq_true (by omega)) (ze z0 (ze rfl (ze (decide_eq_true (by omega)) ?_)))))));obtain⟨n,r,e1,e2,n1,n2,n3,n4,n5⟩:=start (u:=U) (w:=w) hY b1 b0.1 (by omega) w1.2;rw[e1,e2];refine Aj (Y:Int) s y1 y0 U w z hY b1 b0 hUY w1 (fun p p0 hp=>?_) n r n1 n2 n3 n4 n5;have er:=OD hp (by omega);rw[er];have hp1:=hp.1;have hp2:=hp.2;rw[zA,zP]at hp2;obtain⟨m,t,k1,k2,m1,m2,m3,m4,m5⟩:=start (u:=U*4294967296+w-p*Y) (w:=z) hY b1 b0.1 (by omega) w0.2;rw[k1,k2];refine AL (Y:Int) s y1 y0 _ z p hY b1 b0 (by omega) w0 (by omega) (fun q q0 hq ob=>?_) m t m1 m2 m3 m4 m5;rw[OD hq (by omega),zl,em];obtain⟨hq1,hq2⟩:=hq;have ez:(p*4294967296+q)*(Y:Int)=p*Y*4294967296+q*Y:=by
   rw[zA,zr,zD 4294967296 (Y:Int), ←zr]
  have ez1:(p*4294967296+q+1)*(Y:Int)=p*Y*4294967296+q*Y+Y:=by
   rw[zA,ez,zP]
  rw[zA,zP]at hq2;obtain⟨f1,f2⟩:=fin (p*4294967296+q) (by rw[ez];omega) (by rw[ez1];omega);refine hg _ _ _ ?_ ?_
  ·have hb:Sp.dq hi' lo y<18446744073709551616:=by
    unfold Sp.dq;refine Int.ediv_lt_of_lt_mul (by omega) ?_;have:=zG (show hi'+1≤y by omega) (show(0:Int)≤18446744073709551616 by decide);omega
   rw[←f1]at hb ⊢;rw[Jo,Jo];omega
  ·rw[←f2,ez];congr 1;omega
end T317
end Go.Pe
end
section
namespace Go.Pe
open Sp
open Go.Det
theorem WQ(x k:Nat)(h:2^k≤x):x.log2=k+(x/2^k).log2:=by
 have hk:=yp k;have hz:x/2^k≠0:=by
  have:=Nat.div_pos h hk;omega
 have hx:x≠0:=by omega
 refine(Nat.log2_eq_iff hx).2 ⟨?_,?_⟩
 ·rw[yt];exact Nat.le_trans (Nat.mul_le_mul_left _ (Nat.log2_self_le hz)) (Nat.mul_div_le x (2^k))
 ·rw[Nat.add_assoc,yt];have a:x/2^k+1≤2^((x/2^k).log2+1):=Nat.lt_log2_self;have b:=Nat.mul_le_mul_left (2^k) a;have c:=Nat.lt_mul_div_succ x hk;exact Nat.lt_of_lt_of_le c b
theorem Nn(x k:Nat)(h:2^k≤x):Fx (x:Int)=(k:Int)+Fx ((x/2^k:Nat):Int):=by
 have hk:=yp k;have hz:=Nat.div_pos h hk;have e:=WQ x k h;unfold Fx;rw[if_neg (by omega),if_neg (by omega),zl,zl,e];omega
theorem iW(n k:Nat):zn (n:Int) ((2:Int)^k)=((n/2^k:Nat):Int):=by
 have:(0:Int)<2^k:=Int.pow_pos (by decide);rw[zL _ (by omega),Int.natCast_ediv,zR];rfl
def jG:List UInt8:=[(0:UInt8),(1:UInt8),(2:UInt8),(2:UInt8),(3:UInt8),(3:UInt8),(3:UInt8),(3:UInt8),(4:UInt8),(4:UInt8),(4:UInt8),(4:UInt8),(4:UInt8),(4:UInt8),(4:UInt8),(4:UInt8),(5:UInt8),(5:UInt8),(5:UInt8),(5:UInt8),(5:UInt8),(5:UInt8),(5:UInt8),(5:UInt8),(5:UInt8),(5:UInt8),(5:UInt8),(5:UInt8),(5:UInt8),(5:UInt8),(5:UInt8),(5:UInt8),(6:UInt8),(6:UInt8),(6:UInt8),(6:UInt8),(6:UInt8),(6:UInt8),(6:UInt8),(6:UInt8),(6:UInt8),(6:UInt8),(6:UInt8),(6:UInt8),(6:UInt8),(6:UInt8),(6:UInt8),(6:UInt8),(6:UInt8),(6:UInt8),(6:UInt8),(6:UInt8),(6:UInt8),(6:UInt8),(6:UInt8),(6:UInt8),(6:UInt8),(6:UInt8),(6:UInt8),(6:UInt8),(6:UInt8),(6:UInt8),(6:UInt8),(6:UInt8),(7:UInt8),(7:UInt8),(7:UInt8),(7:UInt8),(7:UInt8),(7:UInt8),(7:UInt8),(7:UInt8),(7:UInt8),(7:UInt8),(7:UInt8),(7:UInt8),(7:UInt8),(7:UInt8),(7:UInt8),(7:UInt8),(7:UInt8),(7:UInt8),(7:UInt8),(7:UInt8),(7:UInt8),(7:UInt8),(7:UInt8),(7:UInt8),(7:UInt8),(7:UInt8),(7:UInt8),(7:UInt8),(7:UInt8),(7:UInt8),(7:UInt8),(7:UInt8),(7:UInt8),(7:UInt8),(7:UInt8),(7:UInt8),(7:UInt8),(7:UInt8),(7:UInt8),(7:UInt8),(7:UInt8),(7:UInt8),(7:UInt8),(7:UInt8),(7:UInt8),(7:UInt8),(7:UInt8),(7:UInt8),(7:UInt8),(7:UInt8),(7:UInt8),(7:UInt8),(7:UInt8),(7:UInt8),(7:UInt8),(7:UInt8),(7:UInt8),(7:UInt8),(7:UInt8),(7:UInt8),(7:UInt8),(7:UInt8),(7:UInt8),(7:UInt8),(8:UInt8),(8:UInt8),(8:UInt8),(8:UInt8),(8:UInt8),(8:UInt8),(8:UInt8),(8:UInt8),(8:UInt8),(8:UInt8),(8:UInt8),(8:UInt8),(8:UInt8),(8:UInt8),(8:UInt8),(8:UInt8),(8:UInt8),(8:UInt8),(8:UInt8),(8:UInt8),(8:UInt8),(8:UInt8),(8:UInt8),(8:UInt8),(8:UInt8),(8:UInt8),(8:UInt8),(8:UInt8),(8:UInt8),(8:UInt8),(8:UInt8),(8:UInt8),(8:UInt8),(8:UInt8),(8:UInt8),(8:UInt8),(8:UInt8),(8:UInt8),(8:UInt8),(8:UInt8),(8:UInt8),(8:UInt8),(8:UInt8),(8:UInt8),(8:UInt8),(8:UInt8),(8:UInt8),(8:UInt8),(8:UInt8),(8:UInt8),(8:UInt8),(8:UInt8),(8:UInt8),(8:UInt8),(8:UInt8),(8:UInt8),(8:UInt8),(8:UInt8),(8:UInt8),(8:UInt8),(8:UInt8),(8:UInt8),(8:UInt8),(8:UInt8),(8:UInt8),(8:UInt8),(8:UInt8),(8:UInt8),(8:UInt8),(8:UInt8),(8:UInt8),(8:UInt8),(8:UInt8),(8:UInt8),(8:UInt8),(8:UInt8),(8:UInt8),(8:UInt8),(8:UInt8),(8:UInt8),(8:UInt8),(8:UInt8),(8:UInt8),(8:UInt8),(8:UInt8),(8:UInt8),(8:UInt8),(8:UInt8),(8:UInt8),(8:UInt8),(8:UInt8),(8:UInt8),(8:UInt8),(8:UInt8),(8:UInt8),(8:UInt8),(8:UInt8),(8:UInt8),(8:UInt8),(8:UInt8),(8:UInt8),(8:UInt8),(8:UInt8),(8:UInt8),(8:UInt8),(8:UInt8),(8:UInt8),(8:UInt8),(8:UInt8),(8:UInt8),(8:UInt8),(8:UInt8),(8:UInt8),(8:UInt8),(8:UInt8),(8:UInt8),(8:UInt8),(8:UInt8),(8:UInt8),(8:UInt8),(8:UInt8),(8:UInt8),(8:UInt8),(8:UInt8),(8:UInt8),(8:UInt8),(8:UInt8),(8:UInt8)]
theorem UX:∀m:Fin 256,((zJ (jG.getD m.val 0):Nat):Int)=Fx (m.val:Int)∧zc .u8 (m.val:Int)=(m.val:Int)∧Fx (m.val:Int)≤8∧0≤Fx (m.val:Int):=by decide+kernel
theorem Ks{ACC:Int}(a z x:Nat)(hA:ACC=a)(ha:a≤64)(hz:z<256)(hx:Fx (x:Int)=(a:Int)+Fx (z:Int)):zc .i64 (ACC+zc .i64 ((zJ (jG.getD (yu (zc .u8 (z:Int))) 0):Nat):Int))=Fx x:=by
 obtain⟨e1,e2,e3,e4⟩:=UX ⟨z,hz⟩;have e1:((zJ (jG.getD z 0):Nat):Int)=Fx (z:Int):=e1;have e2:zc .u8 (z:Int)=(z:Int):=e2;have e3:Fx (z:Int)≤8:=e3;have e4:0≤Fx (z:Int):=e4;rw[e2,zl,e1,hA,hx,wr (Fx (z:Int)) (by omega) (by omega),wr _ (by omega) (by omega)]
theorem eB(z:Nat)(hz:z<256):(decide ((0:Sh.T (zh yv))≤zc yv (z:Int))&&decide (zc yv (z:Int)<(↑(256:Nat):Int)))=true:=by
 obtain⟨_,e2,_,_⟩:=UX ⟨z,hz⟩;have e2:zc .u8 (z:Int)=(z:Int):=e2;rw[e2];exact Ak (decide_eq_true (show(0:Int)≤(z:Int)by omega)) (decide_eq_true (by omega))
namespace T246
set_option maxHeartbeats 1000000 in
set_option maxRecDepth 100000 in
theorem ok:Ad AR 246 Wo:=by
 refine Av (X:=Ro) rfl HJ (d:=9) (by kernel_rfl) (by kernel_rfl) (by kernel_rfl) (fun(x:Int) hx=>?_) (Ab (by kernel_rfl));have hx:=Sp.AV (n:=x) hx;obtain⟨x,rfl⟩:=zp hx.1;refine zM (Ap (x:Int)) ?_;conv=>zeta
 conv=>zeta
 rw[iW x 32,iW x 16,iW x 8,iW (x/2^32) 16,iW (x/2^32) 8,iW (x/2^32/2^16) 8,iW (x/2^16) 8];have l32:=Nn x 32;have l16:=Nn x 16;have l8:=Nn x 8;have l3216:=Nn (x/2^32) 16;have l328:=Nn (x/2^32) 8;have l32168:=Nn (x/2^32/2^16) 8;have l168:=Nn (x/2^16) 8;refine zk (fun c1=>ze rfl (zk (fun c2=>ze rfl (zk (fun c3=>ze rfl (ze (eB _ ?_) (zi (zy rfl rfl (Ks 56 _ x (by decide+kernel) (by decide) ?_ ?_))))) (fun c3=>ze (eB _ ?_) (zi (zy rfl rfl (Ks 48 _ x (by decide+kernel) (by decide) ?_ ?_)))))) (fun c2=>zk (fun c3=>ze rfl (ze (eB _ ?_) (zi (zy rfl rfl (Ks 40 _ x (by decide+kernel) (by decide) ?_ ?_))))) (fun c3=>ze (eB _ ?_) (zi (zy rfl rfl (Ks 32 _ x rfl (by decide) ?_ ?_))))))) (fun c1=>zk (fun c2=>ze rfl (zk (fun c3=>ze rfl (ze (eB _ ?_) (zi (zy rfl rfl (Ks 24 _ x (by decide+kernel) (by decide) ?_ ?_))))) (fun c3=>ze (eB _ ?_) (zi (zy rfl rfl (Ks 16 _ x (by decide+kernel) (by decide) ?_ ?_)))))) (fun c2=>zk (fun c3=>ze rfl (ze (eB _ ?_) (zi (zy rfl rfl (Ks 8 _ x (by decide+kernel) (by decide) ?_ ?_))))) (fun c3=>ze (eB _ ?_) (zi (zy rfl rfl (Ks 0 _ x rfl (by decide) ?_ ?_))))));all_goals
  first
   |replace c1:=of_decide_eq_true c1
   |replace c1:=of_decide_eq_false c1
  first
   |replace c2:=of_decide_eq_true c2
   |replace c2:=of_decide_eq_false c2
  first
   |replace c3:=of_decide_eq_true c3
   |replace c3:=of_decide_eq_false c3
  omega
end T246
theorem ZB:∀g sp,oJ.sp g=some sp→Ad AR g sp:=Ac T246.ok (fun g sp h=>by cases h)
theorem cX{n:Int}(h1:0≤n)(h2:n<18446744073709551616):0≤Sp.Fx n∧Sp.Fx n≤64:=by
 unfold Sp.Fx;split
 ·omega
 ·have:n.toNat.log2<64:=(Nat.log2_lt (by omega)).2 (by omega);omega
namespace T318
theorem ok:Ad AR 318 lT:=by
 refine Av (X:=oJ) rfl ZB (d:=9) (by kernel_rfl) (by kernel_rfl) (by kernel_rfl) (fun(x:Int) hx=>?_) (Ab (by kernel_rfl));have h:=Sp.AV (n:=x) hx;have hl:=cX h.1 h.2;refine zM (Ap x) (ze hx (zi (zy rfl rfl ?_)));show zc .i64 (64-Sp.Fx x)=Sp.lz x;unfold Sp.lz;exact wr _ (by omega) (by omega)
end T318
theorem YF:Ad AR 317 PB:=T317.ok T318.ok
end Go.Pe
end
section
namespace Go.Sp
def Zk(a b:List Int):Bool:=BV a&&BV b&&decide (a.length≤9000)&&decide (b.length≤9000)&&decide (0<Ao b)
end Go.Sp
namespace Go.Pe
open Sp
open Go.Det
noncomputable section
noncomputable def Gq:As:=⟨[CS,CS],fun i=>Zk i.1 i.2,[CS,CS],fun i=>(BL (Ao i.1/Ao i.2),BL (Ao i.1 % Ao i.2)),false⟩
noncomputable def H5:AW:=X7 [(292,Un),(295,Tl),(229,Pz),(294,Sz),(326,SC),(317,PB),(318,lT)]
end
end Go.Pe
end
section
namespace Go.Sp
def NJ(c:UInt8):Int:=(c.toNat:Int)-48
def BK(c:UInt8):Bool:=decide (48≤c.toNat)&&decide (c.toNat≤57)
def AA(n:Int):List UInt8→Int
 |[]=>n
 |c::r=>AA (10*n+NJ c) r
def Am(s:List UInt8):Bool:=s.all BK
theorem Dx:∀(n:Int) (a b:List UInt8),AA n (a++b)=AA (AA n a) b
 |_,[],_=>rfl
 |n,c::a,b=>by rw[yi,AA,AA,Dx]
theorem DZ:∀(s:List UInt8) (n:Int),AA n s=n*10^s.length+AA 0 s
 |[],n=>by simp[AA]
 |c::s,n=>by
  rw[AA,AA,DZ s (10*n+NJ c),DZ s (10*0+NJ c),List.length_cons,z9,zA,yk,yn,zD 10 n,zr,zD 10 (10^s.length),yg]
theorem De{c:UInt8}(h:BK c=true):0≤NJ c∧NJ c≤9:=by
 unfold BK at h;rw[zf,decide_eq_true_eq,decide_eq_true_eq]at h;unfold NJ;omega
theorem Bo:∀ {s:List UInt8},Am s=true→0≤AA 0 s∧AA 0 s<10^s.length
 |[],_=>by simp[AA]
 |c::s,h=>by
  unfold Am at h;rw[List.all_cons,zf]at h;have a:=De h.1;have b:=Bo (s:=s) h.2;have hp:=AP (show(0:Int)<10 by decide) s.length;have c1:=zt a.1 (zN hp);have c2:=zj a.2 (zN hp);rw[AA,DZ,List.length_cons,z9,yk,yn,zD (10^s.length) 10];omega
theorem A4{s:List UInt8}(h:Am s=true)(i:Nat):Am (s.take i)=true:=by
 unfold Am at h ⊢;rw[z6]at h ⊢;exact fun x hx=>h x (List.mem_of_mem_take hx)
theorem BH{s:List UInt8}(h:Am s=true)(i:Nat):Am (s.drop i)=true:=by
 unfold Am at h ⊢;rw[z6]at h ⊢;exact fun x hx=>h x (List.mem_of_mem_drop hx)
def AU(s:List UInt8):Bool:=decide (s≠[])&&Am s&&(decide (s.getD 0 0≠48)||decide (s=[48]))
end Go.Sp
end
section
namespace Go.Sp
def Nz(a b:Bl):Bl:=if vI a<0∧Ah (vI a) % vI b≠0 then K3 (Cr (-(Ah (vI a)/vI b))) (1,[])else Cr (sg (decide (vI a<0)) (Ah (vI a)/vI b))
def mC(a b:Bl):Int:=(Nz a b).1
def mE(a b:Bl):List Int:=(Nz a b).2
def Xc(a b:Bl):Int:=Ch (vI a % vI b)
def Yq(a b:Bl):List Int:=Cf (vI a % vI b)
def gI(a b:Int):Int:=if a<0 then -(-(Int.gcd a b:Int))else(Int.gcd a b:Int)
theorem Iu(a b:Int):gI a b=(Int.gcd a b:Int):=by unfold gI;split<;>omega
def RM(a b:Bl):Int:=Ch (gI (vI a) (vI b))
def Sd(a b:Bl):List Int:=Cf (gI (vI a) (vI b))
def pI(a k:Int):Int:=if k<0 then -(-(a^k.toNat))else a^k.toNat
theorem QD(a k:Int):pI a k=a^k.toNat:=by unfold pI;split<;>omega
def W8(a k:Int):Bool:=decide (0≤k)&&decide (k≤100000)&&decide (Ah (pI a k)<(18446744073709551616:Int)^(4000:Nat))
def R3(a:Bl)(k:Int):Int:=Ch (pI (vI a) k)
def R2(a:Bl)(k:Int):List Int:=Cf (pI (vI a) k)
def DE(n:Int):List Int:=if n<0 then[]else[]
theorem CH(n:Int):DE n=[]:=by unfold DE;split<;>rfl
def CG(s:List UInt8):Int:=if s.getD 0 0=45 then -AA 0 (s.drop 1)else AA 0 s
def DA(s:List UInt8):Bool:=decide (s.length≤1499)&&(if s.getD 0 0=45 then Am (s.drop 1)else Am s)
def CN(s:List UInt8):Int:=Ch (CG s)
def CV(s:List UInt8):List Int:=Cf (CG s)
end Go.Sp
namespace Go.Pe
open Sp
open Go.Det
noncomputable section
noncomputable def Hu:As:=⟨[B0,B0],fun i=>BR i.1&&BR i.2&&decide (0<zg i.2),[B0,B0],fun i=>((mC i.1 i.2,mE i.1 i.2),(Xc i.1 i.2,Yq i.1 i.2)),false⟩
noncomputable def eV:As:=⟨[B0,B0],fun i=>BR i.1&&BR i.2,[B0],fun i=>(RM i.1 i.2,Sd i.1 i.2),false⟩
noncomputable def Yz:As:=⟨[B0,i64],fun i=>BR i.1&&W8 (zg i.1) i.2,[B0],fun i=>(R3 i.1 i.2,R2 i.1 i.2),false⟩
noncomputable def MJ:As:=⟨[.str],fun s=>DA s,[B0],fun s=>(CN s,CV s),false⟩
noncomputable def Q6:As:=⟨[i64],fun _=>true,[B0],fun n=>(n,DE n),false⟩
noncomputable def jC:AW:=eQ [(221,[9,10])] [] [(221,[(9,[3,4,5,8,12,13]),(10,[3,4,5,14,15])])] [(184,Q6),(287,Gq),(231,SK),(232,Wx),(228,Yi),(226,RY),(220,QE)]
noncomputable def nO:AW:=X7 []
noncomputable def kH:AW:=X7 [(221,Hu),(219,dU),(220,QE)]
noncomputable def jW:AW:=X7 [(184,Q6),(186,RZ)]
end
end Go.Pe
end
section
namespace Go.Sp
abbrev B9:Nat:=1000000000
def Ii(l:List Int):Bool:=decide (l.length≤20000)&&l.all fun d=>decide (0≤d)&&decide (d<1000000000)
def hR(l:List Int):Bool:=Ii l&&decide (l.length≤9000)
def Cu(l:List Int):Bool:=Ii l&&fT l
def AY(l:List Int):Int:=val B9 l
def CJ(n:Int):List Int:=dg B9 n
def rN(n:Int):Bool:=decide (n<0)
def rW(n:Int):List Int:=CJ (Ah n)
def Ew(neg:Bool)(w:List Int):Bool:=neg&&decide (Az w≠[])
def Dr(s:List UInt8):Bool:=decide (s.length≤18)&&Am s
def Bh(s:List UInt8):Int:=AA 0 s
def Ep(s:List UInt8):Bool:=rN (CG s)
def Eo(s:List UInt8):List Int:=rW (CG s)
def Ly(a b:List Int):List Int:=CJ (gI (AY a) (AY b))
end Go.Sp
namespace Go.Pe
open Sp
open Go.Det
noncomputable section
abbrev li:Sh:=.list i64
abbrev N6:Sh:=.pair .bool li
noncomputable def Sw:As:=⟨[li],fun l=>decide (zX (α:=Int) l≤20000),[li],fun l=>Az l,false⟩
noncomputable def LG:As:=⟨[.bool,li],fun i=>decide (zX (α:=Int) i.2≤20000),[N6],fun i=>(Ew i.1 i.2,Az i.2),false⟩
noncomputable def XE:As:=⟨[li,li],fun i=>Cu i.1&&Cu i.2,[i64],fun i=>BB (AY i.1) (AY i.2),false⟩
noncomputable def WN:As:=⟨[li,li],fun i=>Sp.hR i.1&&Sp.hR i.2,[li],fun i=>CJ (AY i.1*AY i.2),false⟩
noncomputable def SI:As:=⟨[li,i64],fun i=>Ii i.1&&decide (0<(i.2:Int))&&decide ((i.2:Int)<1000000000),[li,i64],fun i=>(CJ (AY i.1/i.2),AY i.1 % i.2),false⟩
noncomputable def Uf:As:=⟨[li,li],fun i=>Cu i.1&&Cu i.2&&decide (zX (α:=Int) i.1≤9000)&&decide (zX (α:=Int) i.2≤9000)&&decide (0<AY i.2),[li,li],fun i=>(CJ (AY i.1/AY i.2),CJ (AY i.1 % AY i.2)),false⟩
noncomputable def LC:As:=⟨[li,li],fun i=>Cu i.1&&Cu i.2&&decide (zX (α:=Int) i.1≤9000)&&decide (zX (α:=Int) i.2≤9000),[li],fun i=>Ly i.1 i.2,false⟩
noncomputable def PW:As:=⟨[.str],fun s=>Dr s,[i64],fun s=>Bh s,false⟩
noncomputable def Qj:As:=⟨[.str],fun s=>DA s,[N6],fun s=>(Ep s,Eo s),false⟩
noncomputable def VM:AW:=X7 []
noncomputable def SD:AW:=X7 [(267,Sw)]
noncomputable def JO:AW:=X7 [(265,XE),(267,Sw),(266,SI),(268,WN)]
noncomputable def kA:AW:=X7 [(209,Uf)]
noncomputable def VS:AW:=X7 [(263,PW),(264,LG)]
end
end Go.Pe
end
section
namespace Go.Sp
def CY:List UInt8:=[48,49,50,51,52,53,54,55,56,57]
def Ua(o:List Bool):List Bool:=(List.range 256).map fun j=>o.getD j false
def eP:List Bool:=zm 256 false
def LL(s:List UInt8):List UInt8:=((s.reverse.dropWhile BK).reverse).dropWhile BK
def LO(s:List UInt8)(c:Int):Int:=match s.findIdx? (fun x=>x==c.toNat.toUInt8)with
 |some i=>(i:Int)
 |none=> -1
def Ay(s:List UInt8):List UInt8:=match s.findIdx? (fun x=>x==47)with
 |some i=>s.take i
 |none=>s
def AG(s:List UInt8):List UInt8:=match s.findIdx? (fun x=>x==47)with
 |some i=>s.drop (i+1)
 |none=>[]
def Bz(s:List UInt8):Bool:=s.any (fun x=>x==47)
def A3(s:List UInt8):List UInt8:=if s.getD 0 0=45 then s.drop 1 else s
def preB(s:List UInt8):Bool:=decide (s.getD 0 0=45)
def dV(s t:List UInt8):Bool:=decide (t=CY)&&decide (s.length≤1000000)
def fV(s t:List UInt8):Bool:=decide (t=[47])&&decide (s.length≤1000000)
def YJ(s t:List UInt8):Bool:=decide (t=[45])&&decide (s.length≤1000000)
end Go.Sp
namespace Go.Pe
open Sp
open Go.Det
noncomputable section
noncomputable def TN:As:=⟨[.str,.str],fun i=>dV i.1 i.2,[.str],fun i=>LL i.1,false⟩
noncomputable def eE:As:=⟨[.str,.int .u8],fun i=>decide (0≤(i.2:Int))&&decide ((i.2:Int)<256),[i64],fun i=>LO i.1 i.2,false⟩
noncomputable def Y0:As:=⟨[.str,.str],fun i=>fV i.1 i.2,[.str,.str,.bool],fun i=>(Ay i.1,Sp.AG i.1,Bz i.1),false⟩
noncomputable def eH:As:=⟨[.str,.str],fun i=>YJ i.1 i.2,[.str,.bool],fun i=>(A3 i.1,Sp.preB i.1),false⟩
noncomputable def Kd:As:=⟨[.str],fun s=>decide (s.length≤1000000),[.bool],fun s=>AU s,false⟩
noncomputable def Ib:AW:=X7 []
noncomputable def Um:AW:=X7 [(285,⟨[.str,.str],fun _=>false,[.str],fun i=>i.1,false⟩),(286,⟨[.str,.str],fun _=>false,[.str],fun i=>i.1,false⟩),(280,⟨[.str,.int .u8],fun _=>false,[.str],fun i=>i.1,false⟩),(281,⟨[.str,.int .u8],fun _=>false,[.str],fun i=>i.1,false⟩)]
noncomputable def nV:AW:=X7 [(218,TN)]
noncomputable def nF:AW:=X7 [(330,eE)]
noncomputable def NT:AW:=X7 [(184,Q6),(225,Yz),(186,RZ),(226,RY),(227,Xu),(321,⟨[.str,i64,i64],fun _=>false,[i64],fun _=>(0:Int),false⟩),(290,⟨[.str],fun _=>false,[i64],fun _=>(0:Int),false⟩)]
end
end Go.Pe
end
section
namespace Go.Sp
def GP(a:List UInt8):Bool:=AU (Ay (A3 a))&&(!preB a||decide (Ay (A3 a)≠[48]))&&(!Bz (A3 a)||(AU (AG (A3 a))&&decide (AG (A3 a)≠[48])&&decide (AG (A3 a)≠[49])))
def oL(a:List UInt8):Int:=AA 0 (Ay (A3 a))
def nP(a:List UInt8):Int:=AA 0 (AG (A3 a))
def Bm(a:List UInt8):Int:=if GP a=false then 1 else if 600<(Ay (A3 a)).length∨600<(AG (A3 a)).length then 4 else if Bz (A3 a)=true∧gI (oL a) (nP a)≠1 then 1 else 0
def AS(s:List UInt8):Int:=((Ay s).length:Int)
def Jg(a:List UInt8):Bool:=DA (Ay a)&&DA (AG a)&&decide (a.length≤1499)
def Hc(a:List UInt8):Int:=CG (Ay a)
def GH(a:List UInt8):Int:=if Bz a=true then CG (AG a)else 1
def G0(a:List UInt8):Bool:=rN (Hc a)
def FA(a:List UInt8):List Int:=rW (Hc a)
def G3(a:List UInt8):Bool:=rN (GH a)
def Fs(a:List UInt8):List Int:=rW (GH a)
end Go.Sp
namespace Go.Pe
open Sp
open Go.Det
noncomputable section
noncomputable def E5:As:=⟨[.str],fun s=>decide (s.length≤1000000),[i64],fun s=>Bm s,false⟩
noncomputable def LZ:As:=⟨[.str],fun s=>decide (s.length≤1000000),[i64],fun s=>AS s,false⟩
noncomputable def I1:As:=⟨[i64],fun n=>GG n,[N6],fun n=>(Sp.rN n,Sp.rW n),false⟩
noncomputable def Pj:As:=⟨[.str],fun s=>Jg s,[N6,N6],fun s=>((G0 s,FA s),(G3 s,Fs s)),false⟩
noncomputable def JP:AW:=eQ [(136,[4,6,7,9,10])] [] [(136,[(4,[5,6,7,8]),(6,[5,6,7,8]),(7,[5,6,7,9]),(9,[5,6,7]),(10,[10])])] [(179,CD),(180,Ir),(176,eH),(177,Y0),(178,Kd),(181,eV),(182,MJ),(183,XC),(184,Q6)]
noncomputable def bQ:AW:=X7 [(264,LG)]
noncomputable def nG:AW:=X7 [(167,LZ),(207,Qj),(208,I1)]
noncomputable def QH:AW:=eQ [(128,[4,7,9,11,13,14])] [] [(128,[(4,[0,3]),(7,[3,4]),(9,[3,4]),(11,[3,4]),(13,[5,6]),(14,[7])])] [(167,LZ),(168,Kd),(169,Pj),(170,LC)]
end
end Go.Pe
end
section
namespace Go.Sp
abbrev L0:=(Int×List Int)×(Int×List Int)
def NZ(a:Bl):Bool:=EY a&&decide (a.2.length≤4000)
def LN(a:L0):Bool:=NZ a.1&&NZ a.2
def TA(a b:L0):Int:=BB (vI a.1*vI b.2) (vI b.1*vI a.2)
def M8(a:List UInt8):Int:=Ch (Hc a)
def MX(a:List UInt8):List Int:=Cf (Hc a)
def Kf(a:List UInt8):Int:=Ch (GH a)
def Kl(a:List UInt8):List Int:=Cf (GH a)
def SU(a:List UInt8):List UInt8:=if Bz a=true then AG a else[49]
def N1(a:List UInt8)(n:Int):Bool:=decide ((a.length:Int)≤2*n+2)&&decide (Bm a=0)&&decide (((A3 (Ay a)).length:Int)≤n)&&decide (((SU a).length:Int)≤n)
def Br(a:List UInt8)(n:Int):Bool:=decide (a.length≤40)&&(decide (Bm a≠0)||N1 a n)
end Go.Sp
namespace Go.Pe
open Sp
open Go.Det
noncomputable section
abbrev PD:Sh:=.pair B0 B0
noncomputable def Xy:As:=⟨[.str],fun s=>Jg s,[PD],fun s=>((M8 s,MX s),(Kf s,Kl s)),false⟩
noncomputable def Wr:As:=⟨[PD,PD],fun i=>LN (i.1:L0)&&LN (i.2:L0),[i64],fun i=>TA (i.1:L0) (i.2:L0),false⟩
noncomputable def Ya:As:=⟨[.str,i64],fun i=>decide (zX (α:=UInt8) i.1≤1000000)&&decide (0≤(i.2:Int))&&decide ((i.2:Int)≤1000),[.bool],fun i=>N1 i.1 i.2,false⟩
noncomputable def J5:As:=⟨[.str,i64],fun i=>decide (0≤(i.2:Int))&&decide ((i.2:Int)≤1000),[.bool],fun i=>Br i.1 i.2,false⟩
noncomputable def oI:AW:=X7 [(177,Y0),(182,MJ),(184,Q6)]
noncomputable def nJ:AW:=X7 [(186,RZ),(183,XC)]
noncomputable def YX:As:=⟨[.str],fun s=>decide (s.length≤1000000),[.str],fun s=>A3 s,false⟩
noncomputable def eK:As:=⟨[.str],fun s=>decide (s.length≤1000000),[.str],fun s=>Ay s,false⟩
noncomputable def Yv:As:=⟨[.str],fun s=>decide (s.length≤1000000),[.str],fun s=>SU s,false⟩
noncomputable def lJ:AW:=X7 [(167,LZ)]
noncomputable def nZ:AW:=X7 [(128,E5),(203,YX),(204,eK),(205,Yv)]
noncomputable def oN:AW:=X7 [(128,E5),(166,Ya)]
end
end Go.Pe
end
section
namespace Go.Sp
def TG(a:List UInt8):Bool:=decide (a.length≤20)&&decide ((Ay (A3 a)).length≤9)&&decide ((AG (A3 a)).length≤9)
def A0(a:List UInt8):Int:=if preB a=true then -AA 0 (Ay (A3 a))else AA 0 (Ay (A3 a))
def AJ(a:List UInt8):Int:=if Bz (A3 a)=true then AA 0 (AG (A3 a))else 1
def Gy(a:List UInt8):Bool:=TG a&&Am (Ay (A3 a))&&Am (AG (A3 a))
def FR(a:List UInt8):Int:=if a=[48]then 0 else if a.getD 0 0=45 then -1 else 1
def Ju(a:List UInt8):List UInt8:=if a=[48]then a else if a.getD 0 0=45 then a.drop 1 else 45::a
def IY:Nat→Nat→Nat→List UInt8→List UInt8
 |0,_,_,acc=>acc
 |f+1,n,l,acc=>if n=0∧l≤acc.length then acc else IY f (n/10) l (UInt8.ofNat (48+n % 10)::acc)
def B4(n l:Int):List UInt8:=IY 64 n.toNat l.toNat []
def V1(a b:Int):Bool:=decide (0≤a)&&decide (a<9223372036854775808)&&decide (0≤b)&&decide (b<9223372036854775808)
end Go.Sp
namespace Go.Pe
open Sp
open Go.Det
noncomputable section
noncomputable def TH:As:=⟨[.str],fun s=>Gy s,[i64,i64,.bool],fun s=>(A0 s,AJ s,true),false⟩
noncomputable def dJ:As:=⟨[i64,i64],fun i=>V1 i.1 i.2,[i64],fun i=>Sp.gI i.1 i.2,false⟩
noncomputable def PZ:As:=⟨[.str],fun s=>decide (s.length≤1000000),[i64],fun s=>FR s,false⟩
noncomputable def Wu:As:=⟨[.str],fun s=>decide (s.length≤1000000),[.str],fun s=>Ju s,false⟩
noncomputable def RU:As:=⟨[i64,i64],fun i=>decide (0≤(i.1:Int))&&decide ((i.1:Int)<9223372036854775808)&&decide (0≤(i.2:Int))&&decide ((i.2:Int)≤20),[.str],fun i=>B4 i.1 i.2,false⟩
noncomputable def Mf:AW:=eQ [(211,[5,7,11,13])] [] [(211,[(5,[5,6]),(7,[5,6]),(11,[5,6,7,8,9]),(13,[6,8,9])])] [(263,PW),(167,LZ)]
noncomputable def nN:AW:=X7 [(130,PZ)]
end
end Go.Pe
end
