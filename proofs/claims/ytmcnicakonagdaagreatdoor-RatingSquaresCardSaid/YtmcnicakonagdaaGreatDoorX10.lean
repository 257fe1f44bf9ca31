import Derived.Test.YtmcnicakonagdaaGreatDoorX01
import Derived.Test.YtmcnicakonagdaaGreatDoorX09
import Derived.Lib.Mul64
/- A part of a proof (no law is stated here). Made by program out of texts by AI agents. -/
noncomputable section
open Go.IntKind renaming wrap -> zc, u64 -> zd, i64 -> yt, wrap_i64 -> qo, u8 -> q9
open Go.Pe.Ends renaming tt -> ze, leaf -> zi, ite -> zk, eq -> yj, ff -> yo, Aq -> yq
open Bool renaming and_eq_true -> zf, true_and -> yf, false_eq_true -> qi, or_eq_true -> qu
open Go.Sp renaming vI -> zg, u64 -> zq, val -> z8, Dp -> yk, sg -> qh, hW -> jc
open Go.Pe.Sh renaming int -> zh, list -> zx, nlist -> z7, pair -> yy
open Int renaming mul_le_mul_of_nonneg_right -> zj, toNat_natCast -> zl, fdiv -> zn, eq_ofNat_of_zero_le -> zp, mul_assoc -> zr, mul_nonneg -> zt, lt_or_le -> zz, add_mul -> z6, mul_comm -> ya, mul_add -> yc, mul_le_mul_of_nonneg_left -> yd, lt_of_le_of_lt -> yh, fdiv_eq_ediv_of_nonneg -> yi, le_of_lt -> yn, one_mul -> yp, natCast_pow -> yr, natCast_mul -> yx, tdiv -> yz, natCast_add -> qd, pow_succ -> qe, tdiv_eq_ediv_of_nonneg -> qj, add_assoc -> ql, mul_zero -> qp, zero_add -> qt, ediv_nonneg -> qw, mul_sub -> qx, toNat -> qz
open List renaming replicate -> zm, getD_eq_getElem?_getD -> zo, take_of_length_le -> zw, getElem?_eq_getElem -> yb, take_length -> yu, drop_eq_getElem_cons -> yv, getElem?_eq_none -> y7, all_eq_true -> y8, length -> qc, append_assoc -> qk, cons_append -> qn
open Nat renaming add -> zu, mod_eq_of_lt -> qm, two_pow_pos -> qv, pow_add -> qy
open Go.Pe.Ad renaming of -> zy
open BitVec renaming ofInt -> ye, ofInt_natCast -> y9, toNat_ofNat -> qf
open UInt8 renaming toNat -> yg
open Go.Pe.PV renaming agg -> yw
open Go.Lib renaming half_mul_le -> qg
open Min renaming min -> qq
namespace Go.Sp
theorem AE(b:Int):∀(l:List Int) (i:Nat),val b (l.take (i+1))=val b (l.take i)+b^i*l.getD i 0
 |[],i=>by simp[val]
 |x::l,0=>by
  show x+b*val b (l.take 0)=0+b^0*x;simp[val]
 |x::l,i+1=>by
  have:=AE b l i;show x+b*val b (l.take (i+1))=x+b*val b (l.take i)+b^(i+1)*l.getD i 0;rw[this,yc,qe,ya (b^i) b,zr,ql]
theorem IC{l:List Int}(h:CO l=true):l.length<=20000/\Aw Ai l:=by
 unfold CO at h;rw[zf,w5,y8]at h;exact⟨h.1,fun d hd=>by
  have:=h.2 d hd;rw[zf,w5,w5]at this;exact this⟩
theorem Ej{l:List Int}(h1:l.length<=20000)(h2:Aw Ai l):CO l=true:=by
 unfold CO;rw[zf,w5,y8];exact⟨h1,fun d hd=>by
  have:=h2 d hd;rw[zf,w5,w5];exact this⟩
theorem YW{l:List Int}(h:hW l=true):l.length<=9000/\Aw Ai l:=by
 unfold hW at h;rw[zf,w5]at h;exact⟨h.2,(IC h.1).2⟩
theorem AS{l:List Int}(h:Aw Ai l)(i:Nat):u64 (l.getD i 0)=true:=by
 unfold u64;rw[zf,w5,w5];rcases Nat.lt_or_ge i l.length with hi|hi
 ·have:l.getD i 0∈l:=by rw[zo,yb hi];exact List.getElem_mem hi
  exact h _ this
 ·rw[zo,y7 hi];exact⟨by decide,by decide⟩
theorem A2{n:Int}(h:u64 n=true):0<=n/\n<18446744073709551616:=by
 unfold u64 at h;rw[zf,w5,w5]at h;exact h
theorem CJ{n:Int}(h1:0<=n)(h2:n<18446744073709551616):u64 n=true:=by
 unfold u64;rw[zf,w5,w5];exact⟨h1,h2⟩
theorem D5{l:List Int}{x:Int}(h:Aw Ai l)(hx:u64 x=true):Aw Ai (l++[x]):=by
 intro d hd;rw[List.mem_append,List.mem_singleton]at hd;rcases hd with hd|rfl
 ·exact h d hd
 ·exact A2 hx
theorem LM{x y c:Int}(hx:u64 x=true)(hy:u64 y=true)(hc:0<=c/\c<=1):u64 (HW x y c)=true/\(0<=NX x y c/\NX x y c<=1)/\HW x y c+18446744073709551616*NX x y c=x+y+c:=by
 have:=A2 hx;have:=A2 hy;unfold HW NX;exact⟨CJ (by omega) (by omega),⟨by omega,by omega⟩,by omega⟩
theorem GQ{x y c:Int}(hx:u64 x=true)(hy:u64 y=true)(hc:0<=c/\c<=1):u64 (Tl x y c)=true/\(0<=Qj x y c/\Qj x y c<=1)/\Tl x y c-18446744073709551616*Qj x y c=x-y-c:=by
 have:=A2 hx;have:=A2 hy;unfold Tl Qj;refine⟨CJ (by omega) (by omega),?_,?_⟩<;>split<;>omega
theorem E6(l:List Int)(x:Int):val Ai (l++[x])=val Ai l+(Ai:Int)^l.length*x:=by
 rw[CX];simp[val]
theorem K8(i:Nat)(c:Int):(Ai:Int)^(i+1)*c=(Ai:Int)^i*(18446744073709551616*c):=by
 rw[qe,zr];rfl
theorem I4(p:List Int)(n i:Nat)(x:Int)(h:p.length=i)(hi:i<n):(p++zm (n-i) (0:Int)).set i x=(p++[x])++zm (n-(i+1)) 0:=by
 have:n-i=(n-(i+1))+1:=by omega
 rw[this,List.replicate_succ,Pe.Dx p _ 0 x h,qk];rfl
theorem Km{l:List Int}(h:Aw Ai l):Av l=Bw (Am l):=XO (by decide) h
end Go.Sp
namespace Go.Pe
open Sp
open Go.Det
section
open List Int Prod
namespace T188
def T(n:Int):Tr:=tree cS false 9 188 (Af ([zh yt]) n)
theorem An(n:Int):T n=.ite (decide (n<0)) (.leaf (.dat (zh zd) (zc .u64 (zc .i64 (0-n)))) []) (.leaf (.dat (zh zd) (zc .u64 n)) []):=by kernel_rfl
end T188
namespace T189
def T(a:Int×List Int):Tr:=tree Lt false 9 189 (Af ([yy i64 (z7 (zh zd))]) a)
theorem An(a:Int×List Int):T a=let a':=z7 (zh zd);let b':=[(0,.box [.dat i64 (fst a),.dat a' (snd a)])];.ite (decide (0<length (snd a))) (.leaf (.tup [.dat Sh.bool (decide (fst a<0)),.dat a' (snd a)]) b') (.ite (fst a==0) (.leaf (.tup [.bl false,.nil]) b') (.ite (CM (fst a)) (.leaf (.tup [.dat Sh.bool (decide (fst a<0)),.sl (zu 0 1) 1 0 1 none]) ([(zu 0 1,.arr false 215 (zh zd) [Ae (fst a)]),(0,.box [.dat i64 (fst a),.dat a' (snd a)])])) .fail)):=by kernel_rfl
end T189
namespace T190
def T(neg:Bool)(w:List Int):Tr:=tree Lt false 9 190 (Af ([Sh.bool,zx (zh zd)]) (neg,w))
theorem An(neg:Bool)(w:List Int):T neg w=let c':=zx (zh zd);let e':=zc .i64 (0-zc .i64 (getD w 0 0));let f':=decide (getD w 0 0<=9223372036854775807);let g':=(length w:Int);let h':=zc .i64 (getD w 0 0);let b':Tr:=.ite neg (.leaf (yw [.dat i64 (-1:Int),.dat c' w]) ([(0,.box [.dat i64 (-1:Int),.dat c' w])])) (.leaf (yw [.dat i64 (1:Int),.dat c' w]) ([(0,.box [.dat i64 (1:Int),.dat c' w])]));let d':=decide (0<g');let a':Tr:=.ite (g'==1) (.ite d' (.ite f' (.ite d' (.leaf (yw [.dat i64 h',.nil]) ([(0,.box [.dat i64 h',.nil])])) .fail) b') .fail) b';.ite (g'==0) (.leaf (yw [.dat i64 (0:Int),.nil]) ([(0,.box [.dat i64 (0:Int),.nil])])) (.ite (g'==1) (.ite d' (.ite f' (.ite neg (.ite d' (.leaf (yw [.dat i64 e',.nil]) ([(0,.box [.dat i64 e',.nil])])) .fail) a') a') .fail) a'):=by kernel_rfl
end T190
namespace T218
def T(w:List Int):Tr:=tree cS false 9 218 (Af ([zx (zh zd)]) w)
def L1(v0:List Int)(v3:Int):Tr:=re ((T [])) (AF 21 [(0,.dat (zx (zh zd)) v0),(3,.dat i64 v3)] [] 0)
theorem An(w:List Int):T w=L1 w ((length w:Int)):=by kernel_rfl
theorem Au(v0:List Int)(v3:Int):stepT cS (L1 v0 v3)=let a':Tr:=.ite (decide (0<=v3)&&decide (0<=toNat v3)&&decide (toNat v3<=length v0)) (.leaf (.dat (zx (zh zd)) (take (toNat v3) v0)) []) .fail;let b':=zc .i64 (v3-1);.ite (decide (v3>0)) (.ite (decide (0<=zc .i64 (v3-1))&&decide (zc .i64 (v3-1)<(length v0:Int))) (.ite (getD v0 (toNat b') 0==0) (L1 v0 b') a') .fail) a':=by kernel_rfl
end T218
namespace T199
def T(a b:List Int):Tr:=tree cS false 9 199 (Af ([zx (zh zd),zx (zh zd)]) (a,b))
def L1(v0 v1:List Int)(v5:Int):Tr:=re ((T [] []).R) (AF 41 [(0,.dat (zx (zh zd)) v0),(1,.dat (zx (zh zd)) v1),(5,.dat i64 v5)] [] 0)
theorem An(a b:List Int):T a b=let a':=(length a:Int);.ite (a' !=(length b:Int)) (.ite (decide (a'<(length b:Int))) (.leaf (.dat i64 (-1:Int)) []) (.leaf (.dat i64 (1:Int)) [])) (L1 a b (zc .i64 (a'-1))):=by kernel_rfl
theorem Au(v0 v1:List Int)(v5:Int):stepT cS (L1 v0 v1 v5)=let a':=decide (0<=v5)&&decide (v5<(length v0:Int));let b':=decide (0<=v5)&&decide (v5<(length v1:Int));.ite (decide (v5>=0)) (.ite a' (.ite b' (.ite (getD v0 (toNat v5) 0 !=getD v1 (toNat v5) 0) (.ite a' (.ite b' (.ite (decide (getD v0 (toNat v5) 0<getD v1 (toNat v5) 0)) (.leaf (.dat i64 (-1:Int)) []) (.leaf (.dat i64 (1:Int)) [])) .fail) .fail) (L1 v0 v1 (zc .i64 (v5-1)))) .fail) .fail) (.leaf (.dat i64 (0:Int)) []):=by kernel_rfl
end T199
namespace T198
def T(x y:List Int):Tr:=tree Lt false 9 198 (Af ([zx (zh zd),zx (zh zd)]) (x,y))
def L1(v0 v1:List Int)(v5n:Nat)(v6 v21 v22:Int)(o0:List Int):Tr:=re ((T [] []).L.L) (AF 54 [(0,.dat (zx (zh zd)) v0),(1,.dat (zx (zh zd)) v1),(5,.sl 0 1 0 v5n none),(6,.dat (zh zd) v6),(21,.dat i64 v21),(22,.dat i64 v22)] [(0,.arr false 215 (zh zd) o0)] 1)
theorem An(x y:List Int):T x y=let a':=(length x:Int);let b':=(length y:Int);let c':=zc .i64 (b'+1);let d':=zc .i64 (a'+1);.ite (decide (a'<b')) (.ite (decide (0<=zc .i64 (b'+1))&&decide (zc .i64 (b'+1)=zc .i64 (b'+1))&&decide (8*toNat c'<=281474976710656)&&decide (zc .i64 (b'+1)<9223372036854775808)) (L1 y x (toNat c') 0 (b') 0 (replicate (toNat c') 0)) .fail) (.ite (decide (0<=zc .i64 (a'+1))&&decide (zc .i64 (a'+1)=zc .i64 (a'+1))&&decide (8*toNat d'<=281474976710656)&&decide (zc .i64 (a'+1)<9223372036854775808)) (L1 x y (toNat d') 0 (a') 0 (replicate (toNat d') 0)) .fail):=by kernel_rfl
theorem Au(v0 v1:List Int)(v5n:Nat)(v6 v21 v22:Int)(o0:List Int):stepT Lt (L1 v0 v1 v5n v6 v21 v22 o0)=let a':=getD v0 (toNat v22) 0;let b':=(length v0:Int);let d':=getD v1 (toNat v22) 0;let e':=decide (0<=v22)&&decide (v22<(↑v5n:Int));let f':=decide ((0:Sh.T (BG [u64]))<=v6);let g':=decide (v6<=(1:Sh.T (BG [u64])));let i':=decide (toNat v22<length o0);let j':=decide (v22<(length v1:Int));let k':=zc .i64 (v22+1);let c':=set o0 (toNat b') v6;let h':=decide (0<=v22)&&decide (v22<b');.ite (decide (v22<v21)) (.ite (j') (.ite (decide (0<=v22)&&j') (.ite h' (.ite (zq a'&&zq d'&&f'&&g') (.ite e' (.ite i' (L1 v0 v1 v5n (NX a' d' v6) v21 k' (set o0 (toNat v22) (HW a' d' v6))) .fail) .fail) .fail) .fail) .fail) (.ite h' (.ite (zq a'&&zq 0&&f'&&g') (.ite e' (.ite i' (L1 v0 v1 v5n (NX a' 0 v6) v21 k' (set o0 (toNat v22) (HW a' 0 v6))) .fail) .fail) .fail) .fail)) (.ite (decide (0<=b')&&decide (b'<(↑v5n:Int))) (.ite (decide (toNat b'<length o0)) (.ite (decide (0+v5n<=length c')&&true&&CO (take v5n c')) (.leaf (.dat (zx (zh zd)) (Av (take v5n c'))) ([(0,.arr true 215 (zh zd) c')])) .fail) .fail) .fail):=by kernel_rfl
end T198
namespace T200
def T(x y:List Int):Tr:=tree Lt false 9 200 (Af ([zx (zh zd),zx (zh zd)]) (x,y))
def L1(v0 v1:List Int)(v5n:Nat)(v6 v13 v14:Int)(o0:List Int):Tr:=re ((T [] []).L) (AF 41 [(0,.dat (zx (zh zd)) v0),(1,.dat (zx (zh zd)) v1),(5,.sl 0 1 0 v5n none),(6,.dat (zh zd) v6),(13,.dat i64 v13),(14,.dat i64 v14)] [(0,.arr false 215 (zh zd) o0)] 1)
theorem An(x y:List Int):T x y=let a':=(length x:Int);.ite (decide (0<=a')&&decide (a'=a')&&decide (8*toNat a'<=281474976710656)&&decide (a'<9223372036854775808)) (L1 x y (toNat a') 0 (a') 0 (replicate (toNat a') 0)) .fail:=by kernel_rfl
theorem Au(v0 v1:List Int)(v5n:Nat)(v6 v13 v14:Int)(o0:List Int):stepT Lt (L1 v0 v1 v5n v6 v13 v14 o0)=let a':=getD v0 (toNat v14) 0;let b':=decide (0<=v14)&&decide (v14<(length v0:Int));let c':=getD v1 (toNat v14) 0;let d':=decide (0<=v14)&&decide (v14<(↑v5n:Int));let e':=decide ((0:Sh.T (BG [u64]))<=v6);let f':=decide (v6<=(1:Sh.T (BG [u64])));let g':=decide (toNat v14<length o0);let h':=decide (v14<(length v1:Int));let i':=zc .i64 (v14+1);.ite (decide (v14<v13)) (.ite (h') (.ite (decide (0<=v14)&&h') (.ite b' (.ite (zq a'&&zq c'&&e'&&f') (.ite d' (.ite g' (L1 v0 v1 v5n (Qj a' c' v6) v13 i' (set o0 (toNat v14) (Tl a' c' v6))) .fail) .fail) .fail) .fail) .fail) (.ite b' (.ite (zq a'&&zq 0&&e'&&f') (.ite d' (.ite g' (L1 v0 v1 v5n (Qj a' 0 v6) v13 i' (set o0 (toNat v14) (Tl a' 0 v6))) .fail) .fail) .fail) .fail)) (.ite (decide (0+v5n<=length o0)&&true&&CO (take v5n o0)) (.leaf (.dat (zx (zh zd)) (Av (take v5n o0))) ([(0,.arr true 215 (zh zd) o0)])) .fail):=by kernel_rfl
end T200
namespace T187
def T(x y:Int):Tr:=tree cS false 9 187 (Af ([zh zd,zh zd]) (x,y))
theorem An(x y:Int):T x y=let a':=zc .u64 (zc .u64 (zn x (2^32)*Hq zd y 4294967295)+zn (zc .u64 (Hq zd x 4294967295*Hq zd y 4294967295)) (2^32));.ite true (.ite true (.ite true (.ite true (.ite true (.leaf (.tup [.dat (zh zd) (zc .u64 (zc .u64 (zc .u64 (zn x (2^32)*zn y (2^32))+zn a' (2^32))+zn (zc .u64 (Hq zd a' 4294967295+zc .u64 (Hq zd x 4294967295*zn y (2^32)))) (2^32))),.dat (zh zd) (zc .u64 (x*y))]) []) .fail) .fail) .fail) .fail) .fail:=by kernel_rfl
end T187
namespace T191
def T(x y:List Int):Tr:=tree Lt false 9 191 (Af ([zx (zh zd),zx (zh zd)]) (x,y))
def L1(v1:List Int)(v5n:Nat)(v20:List Int)(v21 v22:Int)(o0:List Int):Tr:=re ((T [] []).L) (AF 80 [(1,.dat (zx (zh zd)) v1),(5,.sl 0 1 0 v5n none),(20,.dat (zx (zh zd)) v20),(21,.dat i64 v21),(22,.dat i64 v22)] [(0,.arr false 215 (zh zd) o0)] 1)
theorem An(x y:List Int):T x y=let a':=(length x:Int)+(length y:Int);let b':=zc .i64 a';.ite (decide (0<=zc .i64 a')&&decide (zc .i64 a'=zc .i64 a')&&decide (8*toNat b'<=281474976710656)&&decide (zc .i64 a'<9223372036854775808)) (L1 y (toNat b') x ((length x:Int)) 0 (replicate (toNat b') 0)) .fail:=by kernel_rfl
def L2(v1:List Int)(v5n:Nat)(v6 v7 v8:Int)(v20:List Int)(v21 v22:Int)(v27:List Int)(v28 v29:Int)(o0:List Int):Tr:=re ((stepT Lt (L1 [] 0 [] 0 0 [])).L.L) (AF 80 [(1,.dat (zx (zh zd)) v1),(5,.sl 0 1 0 v5n none),(6,.dat i64 v6),(7,.dat (zh zd) v7),(8,.dat (zh zd) v8),(20,.dat (zx (zh zd)) v20),(21,.dat i64 v21),(22,.dat i64 v22),(27,.dat (zx (zh zd)) v27),(28,.dat i64 v28),(29,.dat i64 v29)] [(0,.arr false 215 (zh zd) o0)] 1)
theorem Au(v1:List Int)(v5n:Nat)(v20:List Int)(v21 v22:Int)(o0:List Int):stepT Lt (L1 v1 v5n v20 v21 v22 o0)=.ite (decide (v22<v21)) (.ite (decide (0<=v22)&&decide (v22<(length v20:Int))) (L2 v1 v5n v22 (getD v20 (toNat v22) 0) 0 v20 v21 v22 v1 ((length v1:Int)) 0 o0) .fail) (.ite (decide (0+v5n<=length o0)&&true&&CO (take v5n o0)) (.leaf (.dat (zx (zh zd)) (Av (take v5n o0))) ([(0,.arr true 215 (zh zd) o0)])) .fail):=by kernel_rfl
theorem AV(v1:List Int)(v5n:Nat)(v6 v7 v8:Int)(v20:List Int)(v21 v22:Int)(v27:List Int)(v28 v29:Int)(o0:List Int):stepT Lt (L2 v1 v5n v6 v7 v8 v20 v21 v22 v27 v28 v29 o0)=let b':=zc .i64 (v6+v29);let c':=getD v27 (toNat v29) 0;let d':=decide (0<=zc .i64 (v6+v29))&&decide (zc .i64 (v6+v29)<(↑v5n:Int));let e':=v6+(length v1:Int);let g':=decide ((0:Sh.T (BG [u64]))<=0);let h':=decide (0<=(1:Sh.T (BG [u64])));let f':=getD o0 (toNat b') 0;let i':=decide (toNat b'<length o0);let j':=Ih v7 c';let a':=HW j' f' 0;.ite (decide (v29<v28)) (.ite (decide (0<=v29)&&decide (v29<(length v27:Int))) (.ite (zq v7&&zq c') (.ite d' (.ite i' (.ite (zq j'&&zq f'&&g'&&h') (.ite (zq a'&&zq v8&&g'&&h') (.ite d' (.ite i' (L2 v1 v5n v6 v7 (zc .u64 (zc .u64 (QH v7 c'+NX j' f' 0)+NX a' v8 0)) v20 v21 v22 v27 v28 (zc .i64 (v29+1)) (set o0 (toNat b') (HW a' v8 0))) .fail) .fail) .fail) .fail) .fail) .fail) .fail) .fail) (.ite (decide (0<=zc .i64 e')&&decide (zc .i64 e'<(↑v5n:Int))) (.ite (decide (toNat (zc .i64 e')<length o0)) (L1 v1 v5n v20 v21 (zc .i64 (v22+1)) (set o0 (toNat (zc .i64 e')) v8)) .fail) .fail):=by kernel_rfl
end T191
end
theorem Jf:Ey cS:=fun g sp h=>by cases h
theorem wu(x:Int)(h1:0<=x)(h2:x<=18446744073709551615):zc .u64 x=x:=IntWalk.u64_in x ⟨h1,h2⟩
theorem En{n:Int}(h:CM n=true): -9223372036854775808<=n/\n<9223372036854775808:=by
 unfold CM at h;rw[zf,w5,w5]at h;exact h
namespace T188
theorem ok:Ag Bi 188 WN:=by
 refine Cc Jf (fun(n:Int) hn=>?_);have hn:=En (n:=n) hn;refine yj (An n) (zk (fun c=>?_) (fun c=>?_))
 ·have c:=w6 c;refine zi (zy rfl rfl ?_);show zc .u64 (zc .i64 (0-n))=Ae n;simp only[Ah];rcases zz (-9223372036854775808) n with h|h
  ·rw[wr _ (by omega) (by omega),wu _ (by omega) (by omega)];omega
  ·have:n= -9223372036854775808:=by omega
   subst this;decide+kernel
 ·have c:=w7 c;refine zi (zy rfl rfl ?_);show zc .u64 n=Ae n;simp only[Ah];rw[wu _ (by omega) (by omega)];omega
end T188
namespace T218
theorem Ao{Q:PV->Ob->Prop}(w:List Int)(hw:w.length<=20000)(hq:∀ob,Q (.dat Dq (Av w)) ob):∀(i:Nat),i<=w.length->Av w=Av (w.take i)->Ends cS (L1 w i) Q
 |0,hi,he=>by
  have he:Av w=[]:=he;rw[he]at hq;refine yq (Au ..) (yo (by simp) (ze (by simp) (zi (hq _))))
 |i+1,hi,he=>by
  have e1:zc .i64 (((i+1:Nat):Int)-1)=(i:Int):=by rw[wr _ (by omega) (by omega)];omega
  have ht:w.take (i+1)=w.take i++[w.getD i 0]:=by
   rw[List.take_add_one];congr 1;rw[zo,yb (by omega)];rfl
  refine yq (Au ..) (ze (by simp<;>omega) ?_);rw[e1,zl];refine ze (by simp<;>omega) (zk (fun c=>?_) (fun c=>?_))
  ·have c:w.getD i 0=0:=by simpa using c
   refine Ao w hw hq i (by omega) ?_;rw[he,ht,c,Is]
  ·have c:w.getD i 0≠0:=by simpa using c
   refine ze (by simp;omega) (zi ?_);have:Av w=w.take (i+1):=by rw[he,ht,Iz (Yu c)]
   rw[this]at hq;exact hq _
theorem ok:Ag Bi 218 Xe:=by
 refine Cc Jf (fun(w:List Int) hw=>?_);obtain⟨h1,h2⟩:=IC (l:=w) hw;refine yj (An w) (Ao w h1 (fun ob=>zy rfl rfl rfl) w.length (Nat.le_refl _) (by rw[yu]))
end T218
theorem EV{l:List Int}(h:Cf l=true):l.length<=20000/\Aw Ai l/\Sp.nz l:=by
 unfold Cf at h;rw[zf]at h;have:=IC h.1;exact⟨this.1,this.2,by
  have:=h.2;unfold wJ at this;have:l.getLast?≠some 0:=w6 this;exact this⟩
namespace T199
theorem Ao{Q:PV->Ob->Prop}(a b:List Int)(ha:Aw Ai a)(hb:Aw Ai b)(hl:a.length=b.length)(h2:b.length<=20000)(hq:∀ob,Q (.dat i64 (Co (Am a) (Am b))) ob):∀(i:Nat),i<=a.length->a.drop i=b.drop i->Ends cS (L1 a b ((i:Int)-1)) Q
 |0,hi,he=>by
  have he:a=b:=he;have:Co (Am a) (Am b)=0:=by rw[he];unfold Co;simp
  rw[this]at hq;exact yq (Au ..) (yo (by simp) (zi (hq _)))
 |i+1,hi,he=>by
  have e1:(((i+1:Nat):Int)-1)=(i:Int):=by omega
  have da:a.drop i=a.getD i 0::a.drop (i+1):=by
   rw[zo,yb (by omega)];exact yv (by omega)
  have db:b.drop i=b.getD i 0::a.drop (i+1):=by
   rw[he,zo,yb (by omega)];exact yv (by omega)
  have ga:=Sp.A2 (AS ha i);have gb:=Sp.A2 (AS hb i);rw[e1];refine yq (Au ..) (ze (by simp) ?_);rw[zl];refine ze (by simp;omega) (ze (by simp;omega) (zk (fun c=>ze (by simp;omega) (ze (by simp;omega) (zk (fun d=>?_) (fun d=>?_)))) (fun c=>?_)))
  ·have d:=w6 d;have:=I8 (b:=Ai) (by decide) ha hb da db d;have e:Co (Am a) (Am b)= -1:=by unfold Co;exact wd this
   rw[e]at hq;exact zi (hq _)
  ·have d:=w7 d;have c:a.getD i 0≠b.getD i 0:=by simpa using c
   have:=I8 (b:=Ai) (by decide) hb ha db da (by omega);have e:Co (Am a) (Am b)=1:=by
    unfold Co Am;rw[wc (by omega),wd (by omega)]
   rw[e]at hq;exact zi (hq _)
  ·have c:a.getD i 0=b.getD i 0:=by simpa using c
   rw[wr ((i:Int)-1) (by omega) (by omega)];exact Ao a b ha hb hl h2 hq i (by omega) (by rw[da,db,c])
theorem ok:Ag Bi 199 YE:=by
 refine Cc Jf (fun(i:List Int×List Int) hi=>?_);obtain⟨a,b⟩:=i;have hi:(Cf a&&Cf b)=true:=hi;rw[zf]at hi;obtain⟨a1,a2,a3⟩:=EV hi.1;obtain⟨b1,b2,b3⟩:=EV hi.2;have hq:∀ob,Ad YE (a,b) (.dat i64 (Co (Am a) (Am b))) ob:=fun ob=>zy rfl rfl rfl
 refine yj (An a b) (zk (fun c=>zk (fun d=>?_) (fun d=>?_)) (fun c=>?_))
 ·have d:=w6 d;have e:Co (Am a) (Am b)= -1:=by unfold Co;exact wd (EJ (by decide) a2 b2 b3 (by omega))
  rw[e]at hq;exact zi (hq _)
 ·have d:=w7 d;have c:(a.length:Int)≠b.length:=by simpa using c
  have:=EJ (b:=Ai) (by decide) b2 a2 a3 (by omega);have e:Co (Am a) (Am b)=1:=by
   unfold Co Am;rw[wc (by omega),wd (by omega)]
  rw[e]at hq;exact zi (hq _)
 ·have c:(a.length:Int)=b.length:=by simpa using c
  rw[wr _ (by omega) (by omega)];exact Ao a b a2 b2 (by omega) b1 hq a.length (Nat.le_refl _) (by rw[List.drop_length,show a.length=b.length by omega,List.drop_length])
end T199
theorem DZ{a:AT}(h:yk a=true):(-9223372036854775808<=a.1/\a.1<9223372036854775808)/\(a.2=[]\/(Cf a.2=true/\(a.1=1\/a.1= -1)/\9223372036854775808<=Am a.2)):=by
 unfold yk at h;rw[zf,qu,zf,zf,qu,w5,w5,w5,w5]at h;exact⟨En h.1,h.2.imp id fun h=>⟨h.1.1,h.1.2,h.2⟩⟩
theorem val_one(d:Int):z8 Ai [d]=d:=by simp[z8]
theorem wP{d:Int}(h1:0<d)(h2:d<18446744073709551616):[d]=Bw d:=by
 have:=Ix (b:=Ai) (l:=[d]) (by decide) (fun x hx=>by rw[List.mem_singleton]at hx;subst hx;exact⟨by omega,h2⟩) (by unfold Sp.nz;simp;omega);rw[val_one]at this;exact this
theorem EL{s:Int}:zg (s,[])=s:=by unfold zg;exact wd rfl
namespace T189
theorem ok(hall:∀g sp,Lt.sp g=some sp->Ag Bi g sp):Ag Bi 189 Pv:=by
 refine MN (X:=Lt) rfl hall (d:=9) (by kernel_rfl) (by kernel_rfl) (by kernel_rfl) (fun(a:Int×List Int) ha=>?_) (BD (by kernel_rfl));obtain⟨hr,hw⟩:=DZ (a:=a) ha;obtain⟨s,w⟩:=a;have hr: -9223372036854775808<=s/\s<9223372036854775808:=hr;refine yj (An (s,w)) (zk (fun c=>?_) (fun c=>zk (fun d=>?_) (fun d=>ze ?_ ?_)))
 ·have c:0<w.length:=w6 c;have hne:w≠[]:=by rintro rfl;simp at c
  rcases hw with hw|⟨h1,h2,h3⟩
  ·exact wh hw hne
  ·obtain⟨n1,n2,n3⟩:=EV h1;have h2:s=1\/s= -1:=h2;have h3:9223372036854775808<=Am w:=h3;have ev:zg (s,w)=if s<0 then -Am w else Am w:=by unfold zg;exact wc hne
   have e1:Ae (zg (s,w))=Am w:=by rw[ev];simp only[Ah];split<;>omega
   have e2:decide (zg (s,w)<0)=decide (s<0):=by
    rw[ev];rcases h2 with rfl|rfl<;>simp<;>omega
   refine zi (zy rfl rfl ?_);show(decide (s<0),w)=(decide (zg (s,w)<0),Bw (Ae (zg (s,w))));rw[e1,e2,show w=Bw (Am w)from Ix (by decide) n2 n3];congr 2;exact(CV (b:=Ai) (by decide) (AA (b:=Ai) (by decide) n2)).symm
 all_goals
  have c:¬0<w.length:=w7 c;have hn:w=[]:=List.length_eq_zero_iff.1 (by omega);subst hn
 ·have d:s=0:=by simpa using d
  subst d;exact zi (zy rfl rfl rfl)
 ·show CM s=true;unfold CM;rw[zf,w5,w5];exact hr
 ·have d:s≠0:=by simpa using d
  refine zi (zy rfl rfl ?_);show(decide (s<0),[Ae s])=(decide (zg (s,[])<0),Bw (Ae (zg (s,[]))));rw[EL,wP (d:=Ae s) (by simp only[Ah];omega) (by simp only[Ah];omega)]
end T189
theorem B5{n:Int}(h: -9223372036854775808<n/\n<9223372036854775808):CI n=(n,[]):=wd h
theorem SW{w:List Int}(neg:Bool)(h1:Aw Ai w)(h2:Sp.nz w)(h3:9223372036854775808<=Am w):CI (if neg=true then -Am w else Am w)=(if neg=true then -1 else 1,w):=by
 have e:Bw (Am w)=w:=(Ix (by decide) h1 h2).symm;cases neg with
 |true=>
  simp only[wk];unfold CI;rw[wc (by omega),wd (by omega)];rw[show Ae (-Am w)=Am w by simp only[Ah];omega,e]
 |false=>
  show CI (Am w)=(1,w);unfold CI;rw[wc (by omega),wc (by omega)];rw[show Ae (Am w)=Am w by simp only[Ah];omega,e]
namespace T190
theorem ok(hall:∀g sp,Lt.sp g=some sp->Ag Bi g sp):Ag Bi 190 eA:=by
 refine MN (X:=Lt) rfl hall (d:=9) (by kernel_rfl) (by kernel_rfl) (by kernel_rfl) (fun(i:Bool×List Int) hi=>?_) (BD (by kernel_rfl));obtain⟨neg,w⟩:=i;obtain⟨n1,n2,n3⟩:=EV (l:=w) hi;refine yj (An neg w) ?_;conv=>zeta
 cases w with
 |nil=>
  refine ze rfl (zi (zy rfl rfl ?_));show _=CI (if neg=true then -0 else 0);rw[show(if neg=true then(-0:Int)else 0)=0 by split<;>rfl,B5 (by omega)]
 |cons d t=>
  cases t with
  |nil=>
   have hd:=n2 d (by simp);have hz:d≠0:=by intro h;subst h;exact n3 rfl
   have hd1:0<=d:=hd.1;have hd2:d<18446744073709551616:=hd.2;have ev:Am [d]=d:=val_one d;refine yo rfl (ze rfl (ze rfl (zk (fun c=>?_) (fun c=>?_))))
   ·have c:d<=9223372036854775807:=w6 c;have e1:zc .i64 d=d:=wr _ (by omega) (by omega);have e2:zc .i64 (0-d)= -d:=by rw[wr _ (by omega) (by omega)];omega
    refine zk (fun n=>ze rfl (zi (zy rfl rfl ?_))) (fun n=>ze rfl (ze rfl (ze (w4 c) (ze rfl (zi (zy rfl rfl ?_))))))
    ·show(zc .i64 (0-zc .i64 d),[])=CI (if neg=true then -Am [d]else Am [d]);rw[e1,e2,wd n,ev,B5 (by omega)]
    ·show(zc .i64 d,[])=CI (if neg=true then -Am [d]else Am [d]);subst n;rw[e1,wc (by decide),ev,B5 (by omega)]
   ·have c':¬d<=9223372036854775807:=w7 c;have hb:=SW neg n2 n3 (by rw[ev];omega);refine ze rfl (ze rfl (yo c (zk (fun n=>zi (zy rfl rfl ?_)) (fun n=>zi (zy rfl rfl ?_)))))
    ·show(-1,[d])=CI (if neg=true then -Am [d]else Am [d]);rw[hb,wd n]
    ·show(1,[d])=CI (if neg=true then -Am [d]else Am [d]);rw[hb,n];rfl
  |cons e t=>
   have hv:9223372036854775808<=Am (d::e::t):=by
    have h:=Dk (b:=Ai) (by decide) n2 n3 (by simp);have h2:=AL (b:=Ai) (by decide) (show 1<=(d::e::t).length-1 by simp);rw[Int.pow_one]at h2;have:(9223372036854775808:Int)<=(Ai:Int):=by decide
    exact Int.le_trans this (Int.le_trans h2 h)
   have hb:=SW neg n2 n3 hv;have z0:(((d::e::t).length:Int)==0)=false:=by simp;omega
   have z1:(((d::e::t).length:Int)==1)=false:=by simp;omega
   refine yo z0 (yo z1 (yo z1 (zk (fun n=>zi (zy rfl rfl ?_)) (fun n=>zi (zy rfl rfl ?_)))))
   ·show(-1,d::e::t)=CI (if neg=true then -Am (d::e::t)else Am (d::e::t));rw[hb,wd n]
   ·show(1,d::e::t)=CI (if neg=true then -Am (d::e::t)else Am (d::e::t));rw[hb,n];rfl
end T190
namespace T198
variable {Q:PV->Ob->Prop}
theorem Ao(x y:List Int)(hx:Aw Ai x)(hy:Aw Ai y)(hl:y.length<=x.length)(hm:x.length<=9000)(hq:∀ob,Q (.dat Dq (Bw (Am x+Am y))) ob):∀(k i:Nat) (p:List Int) (c:Int),i+k=x.length->p.length=i->Aw Ai p->(0<=c/\c<=1)->z8 Ai p+(Ai:Int)^i*c=z8 Ai (x.take i)+z8 Ai (y.take i)->
  Ends Lt (L1 x y (x.length+1) c x.length i (p++zm (x.length+1-i) 0)) Q
 |0,i,p,c,hi,hp,hd,hc,he=>by
  have hi:i=x.length:=by omega
  subst hi;have er:x.length+1-x.length=1:=by omega
  have es:(p++zm (x.length+1-x.length) (0:Int)).set x.length c=p++[c]:=by
   rw[er];exact Pe.Dx p [] 0 c hp
  have ht:(p++[c]).take (x.length+1)=p++[c]:=zw (by simp;omega);have hd':Aw Ai (p++[c]):=D5 hd (CJ hc.1 (by omega));have hv:Am (p++[c])=Am x+Am y:=by
   unfold Am;rw[E6,hp,he,yu,zw hl]
  refine yq (Au ..) (yo (by simp) ?_);rw[zl,es,ht];refine ze (by simp<;>omega) (ze (by simp;omega) (ze ?_ (zi ?_)))
  ·rw[Ej (by simp;omega) hd'];simp;omega
  ·rw[Km hd',hv];exact hq _
 |k+1,i,p,c,hi,hp,hd,hc,he=>by
  have gx:=AS hx i;have gy:=AS hy i;have lo:(p++zm (x.length+1-i) (0:Int)).length=x.length+1:=by simp;omega
  have step:∀z,zq z=true->z=y.getD i 0->Ends Lt (L1 x y (x.length+1) (NX (x.getD i 0) z c) x.length (zc .i64 ((i:Int)+1)) ((p++zm (x.length+1-i) 0).set i (HW (x.getD i 0) z c))) Q:=by
   intro z hz ez;obtain⟨a1,a2,a3⟩:=LM gx hz hc;rw[wr ((i:Int)+1) (by omega) (by omega),I4 p (x.length+1) i _ hp (by omega)];refine Ao x y hx hy hl hm hq k (i+1) (p++[HW (x.getD i 0) z c]) _ (by omega) (by simp;omega) (D5 hd a1) a2 ?_;rw[E6,hp,K8,AE _ x i,AE _ y i, <-ez,ql, <-yc,a3,yc,yc];omega
  refine yq (Au ..) (ze (by simp;omega) ?_);rw[zl];refine zk (fun d=>?_) (fun d=>?_)
  ·have d:=w6 d;refine ze (by simp;omega) (ze (by simp;omega) (ze ?_ (ze (by simp;omega) (ze (w4 (by rw[lo];omega)) (step _ gy rfl)))));rw[gx,gy,yf,yf,zf];exact⟨w4 hc.1,w4 hc.2⟩
  ·have d:=w7 d;have hz:y.getD i 0=0:=by rw[zo,y7 (by omega)];rfl
   refine ze (by simp;omega) (ze ?_ (ze (by simp;omega) (ze (w4 (by rw[lo];omega)) (step _ rfl hz.symm))));rw[gx,show zq 0=true from rfl,yf,yf,zf];exact⟨w4 hc.1,w4 hc.2⟩
theorem start(x y:List Int)(hx:Aw Ai x)(hy:Aw Ai y)(hl:y.length<=x.length)(hm:x.length<=9000)(hq:∀ob,Q (.dat Dq (Bw (Am x+Am y))) ob){t:Tr}:
  Ends Lt (.ite (decide ((0:Int)<=zc yt ((x.length:Int)+(1:Int)))&&decide (zc yt ((x.length:Int)+(1:Int))=zc yt ((x.length:Int)+(1:Int)))&&decide ((8:Nat)*qz (zc yt ((x.length:Int)+(1:Int)))<=(281474976710656:Nat))&&decide (zc yt ((x.length:Int)+(1:Int))<(9223372036854775808:Int)))
   (L1 x y (qz (zc yt ((x.length:Int)+(1:Int)))) ((0:Int)) ((x.length:Int)) ((0:Int)) (zm (qz (zc yt ((x.length:Int)+(1:Int)))) (0:Int))) t) Q:=by
 have e1:zc .i64 ((x.length:Int)+1)=((x.length+1:Nat):Int):=by rw[wr _ (by omega) (by omega)];omega
 rw[e1,zl];refine ze (by simp;omega) ?_;exact Ao x y hx hy hl hm hq x.length 0 [] 0 (by omega) rfl (fun _ h=>by cases h) (by omega) (by simp[z8])
theorem ok(hall:∀g sp,Lt.sp g=some sp->Ag Bi g sp):Ag Bi 198 fR:=by
 refine MN (X:=Lt) rfl hall (d:=9) (by kernel_rfl) (by kernel_rfl) (by kernel_rfl) (fun(i:List Int×List Int) hi=>?_) (BD (by kernel_rfl));obtain⟨x,y⟩:=i;have hi:(jc x&&jc y)=true:=hi;rw[zf]at hi;obtain⟨x1,x2⟩:=YW hi.1;obtain⟨y1,y2⟩:=YW hi.2;have hq:∀ob,Ad fR (x,y) (.dat Dq (Bw (Am x+Am y))) ob:=fun ob=>zy rfl rfl rfl
 refine yj (An x y) (zk (fun c=>?_) (fun c=>?_))
 ·have c:=w6 c;exact start y x y2 x2 (by omega) y1 (by rw[Int.add_comm];exact hq)
 ·have c:=w7 c;exact start x y x2 y2 (by omega) x1 hq
end T198
namespace T200
variable {Q:PV->Ob->Prop}
theorem gE{b:Int}(hb:0<b){l:List Int}{n:Nat}(h:Aw b l)(hv:z8 b l<b^n):z8 b (l.take n)=z8 b l:=by
 rcases Nat.lt_or_ge n l.length with hn|hn
 ·have h1:=Cj b l n (by omega);have h2:=AA (by omega) (AM h n);have h3:=AA (by omega) (EH h n);rcases zz 0 (z8 b (l.drop n))with h4|h4
  ·have:=yd (show 1<=z8 b (l.drop n)by omega) (yn (AO hb n));rw[Int.mul_one]at this;omega
  ·have:z8 b (l.drop n)=0:=by omega
   rw[this,qp]at h1;omega
 ·rw[zw hn]
theorem Ao(x y:List Int)(hx:Aw Ai x)(hy:Aw Ai y)(hl:Am y<=Am x)(hm:x.length<=20000)(hq:∀ob,Q (.dat Dq (Bw (Am x-Am y))) ob):∀(k i:Nat) (p:List Int) (c:Int),i+k=x.length->p.length=i->Aw Ai p->(0<=c/\c<=1)->z8 Ai p-(Ai:Int)^i*c=z8 Ai (x.take i)-z8 Ai (y.take i)->
  Ends Lt (L1 x y x.length c x.length i (p++zm (x.length-i) 0)) Q
 |0,i,p,c,hi,hp,hd,hc,he=>by
  have hi:i=x.length:=by omega
  subst hi;have er:p++zm (x.length-x.length) (0:Int)=p:=by rw[Nat.sub_self];simp
  have ht:p.take x.length=p:=zw (by omega);have hX:Am x<(Ai:Int)^x.length:=Bu (by decide) hx;have hP:Am p<(Ai:Int)^p.length:=Bu (by decide) hd;have hv:Am p=Am x-Am y:=by
   rw[yu,gE (by decide) hy (show z8 Ai y<_ from yh hl hX)]at he;have he:Am p-(Ai:Int)^x.length*c=Am x-Am y:=he;rw[hp]at hP;rcases zz 0 c with h|h
   ·have:c=1:=by omega
    subst this;rw[Int.mul_one]at he;omega
   ·have:c=0:=by omega
    subst this;rw[qp]at he;omega
  rw[er];refine yq (Au ..) (yo (by simp) ?_);rw[ht];refine ze ?_ (zi ?_)
  ·rw[Ej (by omega) hd];simp;omega
  ·rw[Km hd,hv];exact hq _
 |k+1,i,p,c,hi,hp,hd,hc,he=>by
  have gx:=AS hx i;have gy:=AS hy i;have lo:(p++zm (x.length-i) (0:Int)).length=x.length:=by simp;omega
  have step:∀z,zq z=true->z=y.getD i 0->Ends Lt (L1 x y x.length (Qj (x.getD i 0) z c) x.length (zc .i64 ((i:Int)+1)) ((p++zm (x.length-i) 0).set i (Tl (x.getD i 0) z c))) Q:=by
   intro z hz ez;obtain⟨a1,a2,a3⟩:=Sp.GQ gx hz hc;rw[wr ((i:Int)+1) (by omega) (by omega),I4 p x.length i _ hp (by omega)];refine Ao x y hx hy hl hm hq k (i+1) (p++[Tl (x.getD i 0) z c]) _ (by omega) (by simp;omega) (D5 hd a1) a2 ?_;have e:(Ai:Int)^i*Tl (x.getD i 0) z c-(Ai:Int)^i*(18446744073709551616*Qj (x.getD i 0) z c)=(Ai:Int)^i*x.getD i 0-(Ai:Int)^i*z-(Ai:Int)^i*c:=by
    rw[<-qx,a3,qx,qx]
   rw[E6,hp,K8,AE _ x i,AE _ y i, <-ez];omega
  refine yq (Au ..) (ze (by simp;omega) ?_);rw[zl];refine zk (fun d=>?_) (fun d=>?_)
  ·have d:=w6 d;refine ze (by simp;omega) (ze (by simp;omega) (ze ?_ (ze (by simp;omega) (ze (w4 (by rw[lo];omega)) (step _ gy rfl)))));rw[gx,gy,yf,yf,zf];exact⟨w4 hc.1,w4 hc.2⟩
  ·have d:=w7 d;have hz:y.getD i 0=0:=by rw[zo,y7 (by omega)];rfl
   refine ze (by simp;omega) (ze ?_ (ze (by simp;omega) (ze (w4 (by rw[lo];omega)) (step _ rfl hz.symm))));rw[gx,show zq 0=true from rfl,yf,yf,zf];exact⟨w4 hc.1,w4 hc.2⟩
theorem ok(hall:∀g sp,Lt.sp g=some sp->Ag Bi g sp):Ag Bi 200 cJ:=by
 refine MN (X:=Lt) rfl hall (d:=9) (by kernel_rfl) (by kernel_rfl) (by kernel_rfl) (fun(i:List Int×List Int) hi=>?_) (BD (by kernel_rfl));obtain⟨x,y⟩:=i;have hi:(CO x&&CO y&&decide (Am y<=Am x))=true:=hi;rw[zf,zf,w5]at hi;obtain⟨x1,x2⟩:=IC hi.1.1;obtain⟨y1,y2⟩:=IC hi.1.2;have hq:∀ob,Ad cJ (x,y) (.dat Dq (Bw (Am x-Am y))) ob:=fun ob=>zy rfl rfl rfl
 refine yj (An x y) ?_;conv=>zeta
 rw[zl];refine ze (by simp;omega) ?_;exact Ao x y x2 y2 hi.2 x1 hq x.length 0 [] 0 (by omega) rfl (fun _ h=>by cases h) (by omega) (by simp[z8])
end T200
theorem La(n:Int):zc .u64 n=n % 18446744073709551616:=by simp[zc,IntKind.bits,IntKind.signed]
theorem ZE(n:Nat):zn (n:Int) ((2:Int)^(32:Nat))=((n/4294967296:Nat):Int):=by
 rw[yi _ (by decide)];rfl
theorem bO(n:Nat)(h:n<18446744073709551616):zc .u64 (n:Int)=n:=wu _ (by omega) (by omega)
theorem P9(n:Nat)(h:n<18446744073709551616):Hq .u64 (n:Int) 4294967295=((n % 4294967296:Nat):Int):=by
 have e:(ye 64 (n:Int)&&&ye 64 4294967295).toNat=n % 4294967296:=by
  rw[BitVec.toNat_and];have h1:(ye 64 (n:Int)).toNat=n:=by rw[y9,qf];exact qm h
  have h2:(ye 64 4294967295).toNat=2^32-1:=by decide
  rw[h1,h2,Nat.and_two_pow_sub_one_eq_mod]
 show zc .u64 (((ye 64 (n:Int)&&&ye 64 4294967295).toNat:Nat):Int)=_;rw[e];exact bO _ (by omega)
namespace T187
theorem ok:Ag Bi 187 S7:=by
 refine Cc Jf (fun(i:Int×Int) hi=>?_);obtain⟨x,y⟩:=i;have hi:(zq x&&zq y)=true:=hi;rw[zf]at hi;have hx:=Sp.A2 hi.1;have hy:=Sp.A2 hi.2;obtain⟨x,rfl⟩:=zp hx.1;obtain⟨y,rfl⟩:=zp hy.1;have hx:x<18446744073709551616:=by omega
 have hy:y<18446744073709551616:=by omega
 obtain⟨m1,m2,m3,m4⟩:=Go.Lib.mul64_hi x y hx hy;have k1:=qg (a:=x/4294967296) (b:=y/4294967296) (by omega) (by omega);have k2:=qg (a:=x/4294967296) (b:=y % 4294967296) (by omega) (by omega);have k3:=qg (a:=x % 4294967296) (b:=y/4294967296) (by omega) (by omega);refine yj (An (x:Int) (y:Int)) (ze rfl (ze rfl (ze rfl (ze rfl (ze rfl (zi (zy rfl rfl ?_)))))));refine Prod.ext ?_ ?_
 ·show zc zd (zc zd (zc zd (zn (x:Int) ((2:Int)^(32:Nat))*zn (y:Int) ((2:Int)^(32:Nat)))+zn (zc zd (zc zd (zn (x:Int) ((2:Int)^(32:Nat))*Hq zd (y:Int) (4294967295:Int))+zn (zc zd (Hq zd (x:Int) (4294967295:Int)*Hq zd (y:Int) (4294967295:Int))) ((2:Int)^(32:Nat)))) ((2:Int)^(32:Nat)))+zn (zc zd (Hq zd (zc zd (zc zd (zn (x:Int) ((2:Int)^(32:Nat))*Hq zd (y:Int) (4294967295:Int))+zn (zc zd (Hq zd (x:Int) (4294967295:Int)*Hq zd (y:Int) (4294967295:Int))) ((2:Int)^(32:Nat)))) (4294967295:Int)+zc zd (Hq zd (x:Int) (4294967295:Int)*zn (y:Int) ((2:Int)^(32:Nat))))) ((2:Int)^(32:Nat)))=QH x y;have em:QH x y=((x*y/18446744073709551616:Nat):Int):=by unfold QH;omega
  rw[em, <-m4];have hlt:x*y/18446744073709551616<18446744073709551616:=Nat.div_lt_of_lt_mul (Nat.mul_lt_mul'' hx hy);rw[<-m4]at hlt;simp only[ZE,P9 x hx,P9 y hy];simp only[<-yx];generalize (x/4294967296)*(y/4294967296)=a at*;generalize (x/4294967296)*(y % 4294967296)=b at*;generalize (x % 4294967296)*(y/4294967296)=c at*;generalize (x % 4294967296)*(y % 4294967296)=d at*;rw[bO d (by omega),bO a (by omega),bO b (by omega),bO c (by omega),ZE, <-qd,bO _ m2,ZE,P9 _ m2, <-qd, <-qd,bO _ m3,ZE,bO (a+_) (by omega), <-qd,bO _ hlt]
 ·show zc .u64 ((x:Int)*y)=Ih x y;unfold Ih;exact La _
end T187
theorem jY{x y o c:Int}(hx:zq x=true)(hy:zq y=true)(ho:zq o=true)(hc:zq c=true):
  zq (Ih x y)=true/\zq (HW (Ih x y) o 0)=true/\zq (HW (HW (Ih x y) o 0) c 0)=true/\
  zc .u64 (zc .u64 (QH x y+NX (Ih x y) o 0)+NX (HW (Ih x y) o 0) c 0)=(x*y+o+c)/18446744073709551616/\
  zq ((x*y+o+c)/18446744073709551616)=true/\
  HW (HW (Ih x y) o 0) c 0+18446744073709551616*((x*y+o+c)/18446744073709551616)=x*y+o+c:=by
 have hx:=Sp.A2 hx;have hy:=Sp.A2 hy;have ho:=Sp.A2 ho;have hc:=Sp.A2 hc;have h0:0<=x*y:=zt hx.1 hy.1;have h1:x*y<=18446744073709551615*18446744073709551615:=by
  have a:=yd (show y<=18446744073709551615 by omega) hx.1;have b:=zj (show x<=18446744073709551615 by omega) (show(0:Int)<=18446744073709551615 by omega);omega
 unfold Ih QH HW NX;generalize x*y=P at*;refine⟨CJ (by omega) (by omega),CJ (by omega) (by omega),CJ (by omega) (by omega),?_,CJ (by omega) (by omega),by omega⟩;rw[La,La];omega
namespace T191
variable {Q:PV->Ob->Prop}
theorem A4(x y:List Int)(n i:Nat)(hi:i<x.length)(hn:n=x.length+y.length)(hx9:x.length<=9000)(hy9:y.length<=9000)(hx:Aw Ai x)(hy:Aw Ai y)(p:List Int)(hp:p.length=i+y.length)(hdp:Aw Ai p)
  (hq:∀q c,q.length=i+y.length->Aw Ai q->zq c=true->z8 Ai q+(Ai:Int)^(i+y.length)*c=z8 Ai p+(Ai:Int)^i*(x.getD i 0*z8 Ai y)->Ends Lt (L1 y n x x.length ((i+1:Nat):Int) ((q++[c])++zm (n-(i+y.length+1)) 0)) Q):∀(k j:Nat) (q:List Int) (c:Int),j+k=y.length->q.length=i+j->Aw Ai q->zq c=true->z8 Ai q+(Ai:Int)^(i+j)*c=z8 Ai (p.take (i+j))+(Ai:Int)^i*(x.getD i 0*z8 Ai (y.take j))->
  Ends Lt (L2 y n i (x.getD i 0) c x x.length i y y.length j (q++(p.drop (i+j)++zm (n-(i+y.length)) 0))) Q
 |0,j,q,c,hj,hl,hd,hc,he=>by
  have hj:j=y.length:=by omega
  subst hj;have e1:zc .i64 ((i:Int)+(y.length:Int))=((i+y.length:Nat):Int):=by rw[wr _ (by omega) (by omega)];omega
  have e2:zc .i64 ((i:Int)+1)=((i+1:Nat):Int):=by rw[wr _ (by omega) (by omega)];omega
  have ed:p.drop (i+y.length)=[]:=List.drop_eq_nil_of_le (by omega);refine yq (AV ..) (yo (by simp) ?_);rw[e1,e2,zl,ed,List.nil_append,I4 q n _ c hl (by omega)];refine ze (by simp;omega) (ze (by simp;omega) (hq q c hl hd hc ?_));rw[he,zw (by omega),yu]
 |k+1,j,q,c,hj,hl,hd,hc,he=>by
  have gx:=AS hx i;have gy:=AS hy j;have gp:=AS hdp (i+j);have ep:p.drop (i+j)=p.getD (i+j) 0::p.drop (i+j+1):=by
   rw[zo,yb (by omega)];exact yv (by omega)
  have e1:zc .i64 ((i:Int)+(j:Int))=((i+j:Nat):Int):=by rw[wr _ (by omega) (by omega)];omega
  have e2:zc .i64 ((j:Int)+1)=((j+1:Nat):Int):=by rw[wr _ (by omega) (by omega)];omega
  have lo:(q++(p.drop (i+j)++zm (n-(i+y.length)) (0:Int))).length=n:=by simp;omega
  have g1:(q++(p.drop (i+j)++zm (n-(i+y.length)) (0:Int))).getD (i+j) 0=p.getD (i+j) 0:=by
   rw[ep,qn];exact DD _ _ _ _ hl
  have s1:∀z,(q++(p.drop (i+j)++zm (n-(i+y.length)) (0:Int))).set (i+j) z=(q++[z])++(p.drop (i+(j+1))++zm (n-(i+y.length)) 0):=by
   intro z;rw[ep,qn,Dx _ _ _ _ hl,qk];rfl
  obtain⟨m1,m2,m3,m4,m5,m6⟩:=jY gx gy gp hc;refine yq (AV ..) (ze (by simp;omega) ?_);rw[e1,e2,zl,zl,g1,s1,m4];have t1:(decide ((0:Int)<=((i+j:Nat):Int))&&decide (((i+j:Nat):Int)<(n:Int)))=true:=by simp;omega
  refine ze (by simp;omega) (ze (by rw[gx,gy];rfl) (ze t1 (ze (w4 (by rw[lo];omega)) (ze (by rw[m1,gp];rfl) (ze (by rw[m2,hc];rfl) (ze t1 (ze (w4 (by rw[lo];omega)) ?_)))))));refine A4 x y n i hi hn hx9 hy9 hx hy p hp hdp hq k (j+1) _ _ (by omega) (by simp;omega) (D5 hd m3) m5 ?_;have ea:i+(j+1)=(i+j)+1:=by omega
  have eb:(Ai:Int)^i*(x.getD i 0*((Ai:Int)^j*y.getD j 0))=(Ai:Int)^(i+j)*(x.getD i 0*y.getD j 0):=by
   rw[Int.pow_add,zr,Int.mul_left_comm (x.getD i 0)]
  rw[ea,E6,hl,K8,ql, <-yc,m6,AE _ p (i+j),AE _ y j,yc,yc,yc (x.getD i 0),yc,eb];omega
theorem Ao(x y:List Int)(n:Nat)(hn:n=x.length+y.length)(hx9:x.length<=9000)(hy9:y.length<=9000)(hx:Aw Ai x)(hy:Aw Ai y)(hq:∀ob,Q (.dat Dq (Bw (Am x*Am y))) ob):∀(k i:Nat) (p:List Int),i+k=x.length->p.length=i+y.length->Aw Ai p->z8 Ai p=z8 Ai (x.take i)*z8 Ai y->
  Ends Lt (L1 y n x x.length i (p++zm (n-(i+y.length)) 0)) Q
 |0,i,p,hi,hp,hd,he=>by
  have hi:i=x.length:=by omega
  subst hi;have ez:p++zm (n-(x.length+y.length)) (0:Int)=p:=by rw[hn,Nat.sub_self];simp
  have hv:Am p=Am x*Am y:=by
   rw[yu]at he;exact he
  rw[ez];refine yq (Au ..) (yo (by simp) ?_);rw[zw (by omega)];refine ze ?_ (zi ?_)
  ·rw[Ej (by omega) hd];simp;omega
  ·rw[Km hd,hv];exact hq _
 |k+1,i,p,hi,hp,hd,he=>by
  refine yq (Au ..) (ze (by simp;omega) ?_);rw[zl];refine ze (by simp;omega) ?_;have h0:z8 Ai (p.take (i+y.length))=z8 Ai p:=by rw[zw (by omega)]
  have:=A4 (Q:=Q) x y n i (by omega) hn hx9 hy9 hx hy p hp hd (fun q c hl hdq hc hv=>by
   have:=Ao x y n hn hx9 hy9 hx hy hq k (i+1) (q++[c]) (by omega) (by simp;omega) (D5 hdq hc) (by
    rw[E6,hl,hv,he,AE,z6,zr])
   rw[show i+1+y.length=i+y.length+1 by omega]at this;exact this) y.length 0 (p.take i) 0 (by omega) (by simp;omega) (AM hd i) rfl (by simp[z8])
  rw[Nat.add_zero, <-qk,List.take_append_drop]at this;exact this
theorem ok(hall:∀g sp,Lt.sp g=some sp->Ag Bi g sp):Ag Bi 191 fK:=by
 refine MN (X:=Lt) rfl hall (d:=9) (by kernel_rfl) (by kernel_rfl) (by kernel_rfl) (fun(i:List Int×List Int) hi=>?_) (BD (by kernel_rfl));obtain⟨x,y⟩:=i;have hi:(jc x&&jc y)=true:=hi;rw[zf]at hi;obtain⟨x1,x2⟩:=YW hi.1;obtain⟨y1,y2⟩:=YW hi.2;have hq:∀ob,Ad fK (x,y) (.dat Dq (Bw (Am x*Am y))) ob:=fun ob=>zy rfl rfl rfl
 have e1:zc .i64 ((x.length:Int)+(y.length:Int))=((x.length+y.length:Nat):Int):=by rw[wr _ (by omega) (by omega)];omega
 refine yj (An x y) ?_;conv=>zeta
 rw[e1,zl];refine ze (by simp;omega) ?_;have:=Ao x y (x.length+y.length) rfl x1 y1 x2 y2 hq x.length 0 (zm y.length 0) (by omega) (by simp) (fun d hd=>by
  obtain⟨_,rfl⟩:=List.mem_replicate.1 hd;exact⟨by decide,by decide⟩) (by rw[ME];simp[z8])
 rw[Nat.zero_add,List.replicate_append_replicate,show y.length+(x.length+y.length-y.length)=x.length+y.length by omega]at this;exact this
end T191
theorem Fm:Ey Lt:=
 Ab T188.ok (Ab T217.ok (Ab T233.ok (Ab T218.ok (Ab T187.ok AU))))
theorem Sj:Ey XI2:=
 Ab (T189.ok Fm) (Ab (T190.ok Fm) (Ab (T198.ok Fm) (Ab (T200.ok Fm) (Ab T199.ok (Ab (T191.ok Fm) (Ab T187.ok (Ab T188.ok AU)))))))
end Go.Pe
namespace Go.Sp
def Bc(a:AT):Bool:=Dp a&&decide (a.2.length<=9000)
def dE(a b:AT):Int:=Co (vI a) (vI b)
def H3(a:AT):Int:=Ou (vI a)
end Go.Sp
namespace Go.Pe
open Sp
open Go.Det
def Vh:Ap:=⟨[BN],fun a=>yk a,[BN],fun a=>(Ef a,Em a),false⟩
def tL:Ap:=⟨[BN],fun a=>yk a,[BN],fun a=>(O6 a,PZ a),false⟩
def JU:Ap:=⟨[BN],fun a=>yk a,[i64],fun a=>H3 a,false⟩
def Pz:Ap:=⟨[BN,BN],fun i=>Bc i.1&&Bc i.2,[BN],fun i=>(IX i.1 i.2,Ip i.1 i.2),false⟩
def bU:Ap:=⟨[BN,BN],fun i=>Bc i.1&&Bc i.2,[BN],fun i=>(cR i.1 i.2,jU i.1 i.2),false⟩
def Re:Ap:=⟨[BN,BN],fun i=>Bc i.1&&Bc i.2,[BN],fun i=>(FD i.1 i.2,FT i.1 i.2),false⟩
def gT:Ap:=⟨[BN,BN],fun i=>Bc i.1&&Bc i.2,[i64],fun i=>dE i.1 i.2,false⟩
def XJ1:A6:=X7 [(171,Vh),(146,Pz)]
def XJ2:A6:=X7 [(175,bU),(137,JU)]
section
open List Int Prod
namespace T171
def T(a:Int×List Int):Tr:=tree XI2 false 9 171 (Af ([yy i64 (z7 (zh zd))]) a)
theorem An(a:Int×List Int):T a=let c':=z7 (zh zd);let d':=Bw (Ae (zg (fst a,snd a)));let e':=zc .i64 (0-fst a);let b':=qh (!decide (zg (fst a,snd a)<0)) (Am d');let a':Tr:=.ite (yk (fst a,snd a)) (.ite (Cf d') (.leaf (yw [.dat i64 (CE b'),.dat c' (CC b')]) ([(zu 0 1,.box [.dat i64 (CE b'),.dat c' (CC b')]),(0,.box [.dat i64 (fst a),.dat c' (snd a)])])) .fail) .fail;.ite (!decide (0<length (snd a))) (.ite (fst a !=(-9223372036854775808)) (.leaf (yw [.dat i64 e',.nil]) ([(zu 0 1,.box [.dat i64 e',.nil]),(0,.box [.dat i64 (fst a),.dat c' (snd a)])])) a') a':=by kernel_rfl
end T171
namespace T146
def T(a b:Int×List Int):Tr:=tree XI2 false 9 146 (Af ([yy i64 (z7 (zh zd)),yy i64 (z7 (zh zd))]) (a,b))
theorem An(a b:Int×List Int):T a b=let b':=Bw (Ae (zg (fst a,snd a)));let c':=Bw (Ae (zg (fst b,snd b)));let d':=z7 (zh zd);let h':=decide (zg (fst a,snd a)<0);let i':=zc .i64 (fst a+fst b);let m':=decide (zg (fst b,snd b)<0);let j':=Bw (Am b'+Am c');let k':=Bw (Am b'-Am c');let l':=Bw (Am c'-Am b');let e':=qh (h') (Am j');let f':=qh (h') (Am k');let g':=qh (m') (Am l');let a':Tr:=.ite (yk (fst a,snd a)) (.ite (yk (fst b,snd b)) (.ite (h'==m') (.ite (jc b'&&jc c') (.ite (Cf j') (.leaf (yw [.dat i64 (CE e'),.dat d' (CC e')]) ([(zu (zu 0 1) 1,.box [.dat i64 (CE e'),.dat d' (CC e')]),(zu 0 1,.box [.dat i64 (fst b),.dat d' (snd b)]),(0,.box [.dat i64 (fst a),.dat d' (snd a)])])) .fail) .fail) (.ite (Cf b'&&Cf c') (.ite (decide (Co (Am b') (Am c')>=0)) (.ite (CO b'&&CO c'&&decide (Am c'<=Am b')) (.ite (Cf k') (.leaf (yw [.dat i64 (CE f'),.dat d' (CC f')]) ([(zu (zu 0 1) 1,.box [.dat i64 (CE f'),.dat d' (CC f')]),(zu 0 1,.box [.dat i64 (fst b),.dat d' (snd b)]),(0,.box [.dat i64 (fst a),.dat d' (snd a)])])) .fail) .fail) (.ite (CO c'&&CO b'&&decide (Am b'<=Am c')) (.ite (Cf l') (.leaf (yw [.dat i64 (CE g'),.dat d' (CC g')]) ([(zu (zu 0 1) 1,.box [.dat i64 (CE g'),.dat d' (CC g')]),(zu 0 1,.box [.dat i64 (fst b),.dat d' (snd b)]),(0,.box [.dat i64 (fst a),.dat d' (snd a)])])) .fail) .fail)) .fail)) .fail) .fail;.ite (!decide (0<length (snd a))) (.ite (!decide (0<length (snd b))) (.ite (decide (zc .i64 (fst a+fst b)>fst a)==decide (fst b>0)) (.leaf (yw [.dat i64 i',.nil]) ([(zu (zu 0 1) 1,.box [.dat i64 i',.nil]),(zu 0 1,.box [.dat i64 (fst b),.dat d' (snd b)]),(0,.box [.dat i64 (fst a),.dat d' (snd a)])])) a') a') a':=by kernel_rfl
end T146
namespace T136
def T(a b:Int×List Int):Tr:=tree XI2 false 9 136 (Af ([yy i64 (z7 (zh zd)),yy i64 (z7 (zh zd))]) (a,b))
theorem An(a b:Int×List Int):T a b=let c':=z7 (zh zd);let f':=Ae (fst a);let g':=Ae (fst b);let i':=Bw (Ae (zg (fst a,snd a)));let j':=Bw (Ae (zg (fst b,snd b)));let d':=Ih f' g';let e':=Bw (Am i'*Am j');let b':=qh (!decide (zg (fst a,snd a)<0)==decide (zg (fst b,snd b)<0)) (Am e');let h':=zc .i64 (0-zc .i64 d');let a':Tr:=.ite (yk (fst a,snd a)) (.ite (yk (fst b,snd b)) (.ite (jc i'&&jc j') (.ite (Cf e') (.leaf (yw [.dat i64 (CE b'),.dat c' (CC b')]) ([(zu (zu 0 1) 1,.box [.dat i64 (CE b'),.dat c' (CC b')]),(zu 0 1,.box [.dat i64 (fst b),.dat c' (snd b)]),(0,.box [.dat i64 (fst a),.dat c' (snd a)])])) .fail) .fail) .fail) .fail;.ite (!decide (0<length (snd a))) (.ite (!decide (0<length (snd b))) (.ite (CM (fst a)) (.ite (CM (fst b)) (.ite (zq f'&&zq g') (.ite (QH f' g'==0) (.ite (decide (Ih f' g'<=9223372036854775807)) (.ite (!decide (fst a<0)==decide (fst b<0)) (.leaf (yw [.dat i64 h',.nil]) ([(zu (zu 0 1) 1,.box [.dat i64 h',.nil]),(zu 0 1,.box [.dat i64 (fst b),.dat c' (snd b)]),(0,.box [.dat i64 (fst a),.dat c' (snd a)])])) (.leaf (yw [.dat i64 (zc .i64 d'),.nil]) ([(zu (zu 0 1) 1,.box [.dat i64 (zc .i64 d'),.nil]),(zu 0 1,.box [.dat i64 (fst b),.dat c' (snd b)]),(0,.box [.dat i64 (fst a),.dat c' (snd a)])]))) a') a') .fail) .fail) .fail) a') a':=by kernel_rfl
end T136
namespace T196
def T(a:Int×List Int):Tr:=tree XJ1 false 9 196 (Af ([yy i64 (z7 (zh zd))]) a)
theorem An(a:Int×List Int):T a=let a':=z7 (zh zd);let b':=Ef (fst a,snd a);let c':=Em (fst a,snd a);.ite (decide (fst a<0)) (.ite (yk (fst a,snd a)) (.leaf (yw [.dat i64 b',.dat a' c']) ([(zu 0 1,.box [.dat i64 b',.dat a' c']),(0,.box [.dat i64 (fst a),.dat a' (snd a)])])) .fail) (.leaf (yw [.dat i64 (fst a),.dat a' (snd a)]) ([(zu 0 1,.box [.dat i64 (fst a),.dat a' (snd a)]),(0,.box [.dat i64 (fst a),.dat a' (snd a)])])):=by kernel_rfl
end T196
namespace T137
def T(a:Int×List Int):Tr:=tree cS false 9 137 (Af ([yy i64 (z7 (zh zd))]) a)
theorem An(a:Int×List Int):T a=.leaf (.dat i64 (imax (-1) (EK 1 (fst a)))) ([(0,.box [.dat i64 (fst a),.dat (z7 (zh zd)) (snd a)])]):=by kernel_rfl
end T137
namespace T175
def T(a b:Int×List Int):Tr:=tree XJ1 false 9 175 (Af ([yy i64 (z7 (zh zd)),yy i64 (z7 (zh zd))]) (a,b))
theorem An(a b:Int×List Int):T a b=let a':=(Ef (fst b,snd b),Em (fst b,snd b));let b':=z7 (zh zd);let c':=IX (fst a,snd a) a';let d':=Ip (fst a,snd a) a';.ite (yk (fst b,snd b)) (.ite (Bc (fst a,snd a)&&Bc a') (.leaf (yw [.dat i64 c',.dat b' d']) ([(zu (zu 0 1) 1,.box [.dat i64 c',.dat b' d']),(zu 0 1,.box [.dat i64 (fst b),.dat b' (snd b)]),(0,.box [.dat i64 (fst a),.dat b' (snd a)])])) .fail) .fail:=by kernel_rfl
end T175
namespace T120
def T(a b:Int×List Int):Tr:=tree XJ2 false 9 120 (Af ([yy i64 (z7 (zh zd)),yy i64 (z7 (zh zd))]) (a,b))
theorem An(a b:Int×List Int):T a b=let c':=(cR (fst a,snd a) (fst b,snd b),jU (fst a,snd a) (fst b,snd b));let d':=z7 (zh zd);let a':=[(zu 0 1,.box [.dat i64 (fst b),.dat d' (snd b)]),(0,.box [.dat i64 (fst a),.dat d' (snd a)])];let b':Tr:=.ite (Bc (fst a,snd a)&&Bc (fst b,snd b)) (.ite (yk c') (.leaf (.dat i64 (H3 c')) a') .fail) .fail;.ite (!decide (0<length (snd a))) (.ite (!decide (0<length (snd b))) (.ite (decide (fst a<fst b)) (.leaf (.dat i64 (-1:Int)) a') (.ite (decide (fst a>fst b)) (.leaf (.dat i64 (1:Int)) a') (.leaf (.dat i64 (0:Int)) a'))) b') b':=by kernel_rfl
end T120
end
theorem SX(k:Nat):((Ai^k:Nat):Int)=(Ai:Int)^k:=yr ..
theorem JZ{n:Int}{k:Nat}(h0:0<=n)(h:n<(Ai:Int)^k):(Bw n).length<=k:=by
 refine NB Ai (by decide) k n.toNat n.toNat ?_;rw[<-SX]at h;generalize Ai^k=P at*;omega
theorem C6{n:Int}{k:Nat}(h0:0<=n)(h:n<(Ai:Int)^k)(hk:k<=20000):Cf (Bw n)=true/\CO (Bw n)=true/\Am (Bw n)=n:=by
 have h1:=JZ h0 h;have h2:CO (Bw n)=true:=Ej (by omega) (Fp (by decide) n);have h3:wJ (Bw n)=true:=by
  unfold wJ;exact w4 (Xj (by decide) n)
 exact⟨by unfold Cf;rw[h2,h3];rfl,h2,CV (by decide) h0⟩
theorem B2{a:AT}(h:Bc a=true):yk a=true/\a.2.length<=9000:=by
 unfold Bc at h;rw[zf,w5]at h;exact h
theorem V0{s:Int}{w:List Int}(hw:w≠[]):zg (s,w)=if s<0 then -Am w else Am w:=by unfold zg;exact wc hw
theorem Qb{a:AT}(h:yk a=true):(a.2=[]/\Ae (zg a)<=9223372036854775808)\/(Bw (Ae (zg a))=a.2):=by
 obtain⟨hr,hw⟩:=DZ h;obtain⟨s,w⟩:=a;have hr: -9223372036854775808<=s/\s<9223372036854775808:=hr;rcases hw with hw|⟨h1,h2,h3⟩
 ·have hw:w=[]:=hw;subst hw;refine .inl ⟨rfl,?_⟩;rw[EL];simp only[Ah];omega
 ·obtain⟨n1,n2,n3⟩:=EV (l:=w) h1;have h2:s=1\/s= -1:=h2;have h3:9223372036854775808<=Am w:=h3;have hne:w≠[]:=by rintro rfl;exact wh h3 (by decide)
  refine .inr ?_;have e1:Ae (zg (s,w))=Am w:=by rw[V0 hne];simp only[Ah];split<;>omega
  rw[e1];exact(Ix (by decide) n2 n3).symm
theorem AG(n:Int):0<=Ae n:=by simp only[Ah];omega
theorem IB{a:AT}(h:yk a=true){k:Nat}(hk:a.2.length<=k)(h1:1<=k):Ae (zg a)<(Ai:Int)^k:=by
 rcases Qb h with⟨_,hb⟩|he
 ·have:=AL (b:=Ai) (by decide) h1;rw[Int.pow_one]at this;have h3:(9223372036854775808:Int)<(Ai:Int):=by decide
  exact yh hb (Int.lt_of_lt_of_le h3 this)
 ·have hv:=CV (b:=Ai) (by decide) (AG (zg a));have:=Bu (b:=Ai) (by decide) (Fp (b:=Ai) (by decide) (Ae (zg a)));rw[hv,show Sp.dg Ai (Ae (zg a))=a.2 from he]at this;exact Int.lt_of_lt_of_le this (AL (by decide) hk)
theorem LZ{x y:Int}(hx:0<=x)(h1:x<(Ai:Int)^9000)(h2:y<(Ai:Int)^9000):x+y<(Ai:Int)^9001/\x*y<(Ai:Int)^18000:=by
 have e1:(Ai:Int)^9001=(Ai:Int)^9000*Ai:=qe ..;have e2:(Ai:Int)^18000=(Ai:Int)^9000*(Ai:Int)^9000:=Int.pow_add _ 9000 9000;rw[e1,e2];generalize (Ai:Int)^9000=P at*;refine⟨?_,?_⟩
 ·show x+y<P*18446744073709551616;omega
 ·have a:=yd (show y<=P-1 by omega) hx;have b:=zj (show x<=P-1 by omega) (show 0<=P-1 by omega);have c:(P-1)*(P-1)=P*P-P-P+1:=by
   rw[Int.sub_mul,qx];omega
  omega
theorem DA(n:Bool)(v:Int):qh n v=if n=true then -v else v:=rfl
theorem Cw(n:Int):zg (CI n)=n:=by
 unfold CI;split
 ·exact EL
 ·have hv:=CV (b:=Ai) (by decide) (AG n);have hne:Bw (Ae n)≠[]:=by
   intro h;rw[show Sp.dg Ai (Ae n)=[]from h]at hv;have:(0:Int)=Ae n:=hv;simp only[Ah]at this;omega
  rw[V0 hne,show Am (Bw (Ae n))=Ae n from hv];simp only[Ah];split<;>split<;>omega
theorem YK{a:AT}{c:Bool}(h:(!decide (0<a.2.length))=c):(c=true->a.2=[])/\(c=false->a.2≠[]):=by
 subst h;rcases a with⟨s,w⟩
 cases w<;>simp
theorem Pk{a:AT}(h:(!decide (0<a.2.length))=true):a.2=[]:=(YK h).1 rfl
theorem cE{a:AT}(h:(!decide (0<a.2.length))=false):a.2≠[]:=(YK h).2 rfl
theorem Bp{a:AT}(h:a.2=[]):zg a=a.1:=by unfold zg;exact wd h
theorem words{a:AT}(h:Bc a=true):yk a=true/\jc (Bw (Ae (zg a)))=true/\Cf (Bw (Ae (zg a)))=true/\CO (Bw (Ae (zg a)))=true/\Am (Bw (Ae (zg a)))=Ae (zg a)/\Ae (zg a)<(Ai:Int)^9000:=by
 obtain⟨h1,h2⟩:=B2 h;have hb:=IB h1 h2 (by omega);obtain⟨n,d,v⟩:=C6 (AG _) hb (by omega);have hl:=JZ (AG _) hb;refine⟨h1,?_,n,d,v,hb⟩;unfold jc;rw[d,yf];exact w4 hl
theorem Aa{a b:Bool}(h1:a=true)(h2:b=true):(a&&b)=true:=by rw[h1,h2];rfl
theorem Kx(n:Int):Sp.Ou n=if n<0 then -1 else if n>0 then 1 else 0:=rfl
theorem wM{a:AT}(h:yk a=true):imax (-1) (EK 1 a.1)=Sp.Ou (zg a):=by
 obtain⟨hr,hw⟩:=DZ h;obtain⟨s,w⟩:=a;rcases hw with hw|⟨h1,h2,h3⟩
 ·have hw:w=[]:=hw;subst hw;rw[EL,Kx,gF];show imax (-1) (if (1:Int)<=s then 1 else s)=_;unfold imax;split<;>split<;>split<;>(try split)<;>omega
 ·have h2:s=1\/s= -1:=h2;have h3:9223372036854775808<=Am w:=h3;have hne:w≠[]:=by rintro rfl;exact wh h3 (by decide)
  rw[V0 hne,Kx];rcases h2 with rfl|rfl
  ·have e:(if (1:Int)<0 then -Am w else Am w)=Am w:=wc (by decide);rw[e,wc (show ¬Am w<0 by omega),wd (show Am w>0 by omega)];show imax (-1) (EK 1 1)=1;decide
  ·have e:(if (-1:Int)<0 then -Am w else Am w)= -Am w:=wd (by decide);rw[e,wd (show -Am w<0 by omega)];show imax (-1) (EK 1 (-1))= -1;decide
namespace T171
theorem ok:Ag Bi 171 Vh:=by
 refine Cc Sj (fun(a:Int×List Int) ha=>?_);have ha:yk a=true:=ha;have hn:Cf (Bw (Ae (zg a)))=true/\Am (Bw (Ae (zg a)))=Ae (zg a):=by
  refine⟨?_,CV (by decide) (AG _)⟩;rcases Qb ha with⟨_,hb⟩|he
  ·have:(9223372036854775808:Int)<(Ai:Int)^1:=by decide
   exact(C6 (AG _) (yh hb this) (by omega)).1
  ·obtain⟨_,hw⟩:=DZ ha;rw[he];rcases hw with hw|⟨h1,_⟩
   ·rw[hw];decide+kernel
   ·exact h1
 have hv:qh (!decide (zg a<0)) (Am (Bw (Ae (zg a))))= -zg a:=by
  rw[hn.2,DA,Ah];rcases zz (zg a) 0 with h|h
  ·rw[w4 h];simp;omega
  ·rw[w8 (by omega)];simp;omega
 have hr:=(DZ ha).1;refine yj (An a) (zk (fun c=>zk (fun d=>zi (zy rfl rfl ?_)) (fun d=>ze ha (ze hn.1 (zi (zy rfl rfl ?_))))) (fun c=>ze ha (ze hn.1 (zi (zy rfl rfl ?_)))))
 ·have c:=Pk c;have d:a.1≠ -9223372036854775808:=by simpa using d
  show(zc .i64 (0-a.1),[])=De a;unfold De;rw[wd ⟨c,d⟩,wr _ (by omega) (by omega),Int.zero_sub]
 ·have d:a.1= -9223372036854775808:=by simpa using d
  show CI (qh (!decide (zg a<0)) (Am (Bw (Ae (zg a)))))=De a;unfold De;rw[wc (fun h=>h.2 d),hv]
 ·have c:=cE c;show CI (qh (!decide (zg a<0)) (Am (Bw (Ae (zg a)))))=De a;unfold De;rw[wc (fun h=>c h.1),hv]
end T171
namespace T146
theorem ok:Ag Bi 146 Pz:=by
 refine Cc Sj (fun(i:(Int×List Int)×(Int×List Int)) hi=>?_);obtain⟨a,b⟩:=i;have hi:(Bc a&&Bc b)=true:=hi;rw[zf]at hi;obtain⟨a1,a2,a3,a4,a5,a6⟩:=words hi.1;obtain⟨b1,b2,b3,b4,b5,b6⟩:=words hi.2;have hra:=(DZ a1).1;have hrb:=(DZ b1).1;have na:=AG (zg a);have nb:=AG (zg b);obtain⟨t1,_⟩:=LZ na a6 b6;have hq:∀v ob,EC a b=CI v->Ad Pz (a,b) (.agg [.dat i64 (CE v),.dat (.nlist (.int .u64)) (CC v)]) ob:=fun v ob h=>zy rfl rfl (by
  show CI v=EC a b;rw[h])
 have mono:(Ai:Int)^9000<=(Ai:Int)^9001:=AL (by decide) (by omega);have slow1:decide (zg a<0)=decide (zg b<0)->qh (decide (zg a<0)) (Am (Bw (Am (Bw (Ae (zg a)))+Am (Bw (Ae (zg b))))))=zg a+zg b:=by
  intro e;rw[a5,b5,show Am (Bw (Ae (zg a)+Ae (zg b)))=_ from CV (by decide) (by omega),DA,Ah,Ah];rcases zz (zg a) 0 with h|h
  ·rw[w4 h]at e ⊢;have:=w6 e.symm;simp only[wk];omega
  ·rw[w8 (by omega)]at e ⊢;have:=w7 e.symm;simp only[qi,ve];omega
 have slow2:decide (zg a<0)≠decide (zg b<0)->Ae (zg b)<=Ae (zg a)->qh (decide (zg a<0)) (Am (Bw (Am (Bw (Ae (zg a)))-Am (Bw (Ae (zg b))))))=zg a+zg b:=by
  intro e hle;rw[a5,b5,show Am (Bw (Ae (zg a)-Ae (zg b)))=_ from CV (by decide) (by omega),DA,Ah,Ah];rcases zz (zg a) 0 with h|h
  ·rw[w4 h]at e ⊢;have:¬zg b<0:=fun h=>e (w4 h).symm
   simp only[wk];omega
  ·rw[w8 (by omega)]at e ⊢;have:zg b<0:=by
    rcases zz (zg b) 0 with h|h
    ·exact h
    ·exact wh (w8 (by omega)).symm e
   simp only[qi,ve];omega
 have slow3:decide (zg a<0)≠decide (zg b<0)->Ae (zg a)<=Ae (zg b)->qh (decide (zg b<0)) (Am (Bw (Am (Bw (Ae (zg b)))-Am (Bw (Ae (zg a))))))=zg a+zg b:=by
  intro e hle;rw[a5,b5,show Am (Bw (Ae (zg b)-Ae (zg a)))=_ from CV (by decide) (by omega),DA,Ah,Ah];rcases zz (zg b) 0 with h|h
  ·rw[w4 h]at e ⊢;have:¬zg a<0:=fun h=>e (w4 h)
   simp only[wk];omega
  ·rw[w8 (show ¬zg b<0 by omega)]at e ⊢;have:zg a<0:=by
    rcases zz (zg a) 0 with h|h
    ·exact h
    ·exact wh (w8 (by omega)) e
   simp only[qi,ve];omega
 have n1:Cf (Bw (Am (Bw (Ae (zg a)))+Am (Bw (Ae (zg b)))))=true:=by
  rw[a5,b5];exact(C6 (by omega) t1 (by omega)).1
 have n2:Ae (zg b)<=Ae (zg a)->Cf (Bw (Am (Bw (Ae (zg a)))-Am (Bw (Ae (zg b)))))=true:=by
  intro h;rw[a5,b5];exact(C6 (by omega) (yh (by omega) a6) (by omega)).1
 have n3:Ae (zg a)<=Ae (zg b)->Cf (Bw (Am (Bw (Ae (zg b)))-Am (Bw (Ae (zg a)))))=true:=by
  intro h;rw[a5,b5];exact(C6 (by omega) (yh (by omega) b6) (by omega)).1
 have cge:∀ {c:Bool},decide (Co (Am (Bw (Ae (zg a)))) (Am (Bw (Ae (zg b))))>=0)=c->(c=true->Ae (zg b)<=Ae (zg a))/\(c=false->Ae (zg a)<=Ae (zg b)):=by
  intro c h;subst h;rw[a5,b5,w5,w9];unfold Co;constructor
  ·intro h;split at h<;>omega
  ·intro h;split at h
   ·omega
   ·split at h<;>omega
 refine yj (An a b) (zk (fun c1=>zk (fun c2=>zk (fun c3=>zi (zy rfl rfl ?_)) (fun c3=>?_)) (fun c2=>?_)) (fun c1=>?_))
 ·have c1:=Pk c1;have c2:=Pk c2;have hs:zc .i64 (a.1+b.1)=a.1+b.1:=by
   rw[wj]at c3;rcases zz (a.1+b.1) (-9223372036854775808)with h|h
   ·exfalso;have e:zc .i64 (a.1+b.1)=a.1+b.1+18446744073709551616:=by rw[qo];omega
    rw[e,w4 (by omega),w8 (by omega)]at c3;cases c3
   ·rcases zz (a.1+b.1) 9223372036854775808 with h2|h2
    ·exact wr _ (by omega) (by omega)
    ·exfalso;have e:zc .i64 (a.1+b.1)=a.1+b.1-18446744073709551616:=by rw[qo];omega
     rw[e,w8 (by omega),w4 (by omega)]at c3;cases c3
  have hr:CM (a.1+b.1)=true:=by
   have: -9223372036854775808<=zc .i64 (a.1+b.1)/\zc .i64 (a.1+b.1)<9223372036854775808:=by rw[qo];omega
   rw[hs]at this;unfold CM;rw[zf,w5,w5];exact this
  show(zc .i64 (a.1+b.1),[])=EC a b;unfold EC;rw[wd ⟨c1,c2,hr⟩,hs]
 all_goals
  have hm:EC a b=CI (zg a+zg b):=by
   unfold EC;refine wc (fun h=>?_);obtain⟨h1,h2,h3⟩:=h;first
    |exact cE c1 h1
    |exact cE c2 h2
    |(have h3:=En h3
      have hs:zc .i64 (a.1+b.1)=a.1+b.1:=wr _ (by omega) (by omega);rw[hs,beq_eq_false_iff_ne]at c3;refine c3 ?_;rcases zz 0 b.1 with h|h
      ·rw[w4 (show a.1+b.1>a.1 by omega),w4 h]
      ·rw[w8 (show ¬a.1+b.1>a.1 by omega),w8 (show ¬b.1>0 by omega)])
  refine ze a1 (ze b1 (zk (fun e=>ze (Aa a2 b2) (ze n1 (zi (hq _ _ ?_)))) (fun e=>ze (Aa a3 b3) (zk (fun d=>ze ?_ (ze (n2 ((cge d).1 rfl)) (zi (hq _ _ ?_)))) (fun d=>ze ?_ (ze (n3 ((cge d).2 rfl)) (zi (hq _ _ ?_))))))))
  ·rw[hm];exact wi _ (slow1 (by simpa using e)).symm
  ·refine Aa (Aa a4 b4) (w4 ?_);rw[a5,b5];exact(cge d).1 rfl
  ·rw[hm];exact wi _ (slow2 (by simpa using e) ((cge d).1 rfl)).symm
  ·refine Aa (Aa b4 a4) (w4 ?_);rw[a5,b5];exact(cge d).2 rfl
  ·rw[hm];exact wi _ (slow3 (by simpa using e) ((cge d).2 rfl)).symm
end T146
theorem DM{n:Int}(h1: -9223372036854775808<=n)(h2:n<9223372036854775808):CM n=true:=by
 unfold CM;rw[zf,w5,w5];exact⟨h1,h2⟩
theorem KY{n:Int}(h:CM n=true):yk (n,[])=true:=by
 unfold yk;rw[h];rfl
theorem Ns{n:Int}{k:Nat}(h:Ae n<(Ai:Int)^k)(hk:k<=20000):yk (CI n)=true/\(CI n).2.length<=k:=by
 unfold CI;split
 ·next c=>exact⟨KY (DM (by omega) (by omega)),Nat.zero_le _⟩
 ·next c=>
  obtain⟨n1,n2,n3⟩:=C6 (AG n) h hk;refine⟨?_,JZ (AG n) h⟩;have hb:9223372036854775808<=Ae n:=by rw[Ah];omega
  unfold yk;refine Aa (DM ?_ ?_) ?_
  ·show -9223372036854775808<=(if n<0 then -1 else 1);split<;>decide
  ·show(if n<0 then -1 else 1)<9223372036854775808;split<;>decide
  ·rw[qu];refine .inr (Aa (Aa n1 ?_) (w4 (by show _<=Am (Bw (Ae n));rw[n3];exact hb)));show(decide ((if n<0 then(-1:Int)else 1)=1)||decide ((if n<0 then(-1:Int)else 1)= -1))=true;split<;>rfl
theorem Iy(a:AT):zg (De a)= -zg a:=by
 unfold De;split
 ·next h=>rw[EL,Bp h.1]
 ·exact Cw _
theorem Iv(n:Int):Ae (-n)=Ae n:=by rw[Ah,Ah];omega
theorem Wi{a:AT}(h:yk a=true){k:Nat}(h1:1<=k)(hk:k<=20000)(hl:a.2.length<=k):yk (De a)=true/\(De a).2.length<=k:=by
 have hr:=(DZ h).1;unfold De;split
 ·next c=>exact⟨KY (DM (by omega) (by omega)),Nat.zero_le _⟩
 ·exact Ns (by rw[Iv];exact IB h hl h1) hk
theorem TA{a:AT}(h:Bc a=true):Bc (De a)=true:=by
 obtain⟨h1,h2⟩:=B2 h;obtain⟨h3,h4⟩:=Wi h1 (k:=9000) (by omega) (by omega) h2;unfold Bc;exact Aa h3 (w4 h4)
theorem oR{a:AT}(h:yk a=true):a.1<0↔zg a<0:=by
 obtain⟨_,hw⟩:=DZ h;obtain⟨s,w⟩:=a;rcases hw with hw|⟨_,h2,h3⟩
 ·have hw:w=[]:=hw;subst hw;rw[EL]
 ·have h2:s=1\/s= -1:=h2;have h3:9223372036854775808<=Am w:=h3;have hne:w≠[]:=by rintro rfl;exact wh h3 (by decide)
  rw[V0 hne];show s<0↔_;split<;>omega
theorem WV(a b:AT):zg (EC a b)=zg a+zg b:=by
 unfold EC;split
 ·next h=>rw[EL,Bp h.1,Bp h.2.1]
 ·exact Cw _
theorem sL(x y:Int):Ae (x+y)<=Ae x+Ae y:=by
 rw[Ah,Ah,Ah];omega
theorem I6(x y:Int):Ae (x*y)=Ae x*Ae y:=by
 rw[Ah,Ah,Ah,Int.natAbs_mul,yx]
theorem bounds{a:AT}(h:Bc a=true):Ae (zg a)<(Ai:Int)^9000:=(words h).2.2.2.2.2
theorem SM{a b:AT}(ha:Bc a=true)(hb:Bc b=true):yk (EC a b)=true:=by
 unfold EC;split
 ·next h=>exact KY h.2.2
 ·exact(Ns (yh (sL _ _) (LZ (AG _) (bounds ha) (bounds hb)).1) (by omega)).1
theorem fY(a b:AT):zg (Ni a b)=zg a-zg b:=by
 unfold Ni;rw[WV,Iy];omega
theorem Ep(a b:AT):zg (F6 a b)=zg a*zg b:=Cw _
theorem X4:Ey XJ1:=
 Ab T171.ok (Ab T146.ok AU)
namespace T137
theorem ok:Ag Bi 137 JU:=by
 refine Cc Jf (fun(a:Int×List Int) ha=>?_);have ha:yk a=true:=ha;exact yj (An a) (zi (zy rfl rfl (wM ha)))
end T137
namespace T196
theorem ok:Ag Bi 196 tL:=by
 refine Cc X4 (fun(a:Int×List Int) ha=>?_);have ha:yk a=true:=ha;refine yj (An a) (zk (fun c=>ze ha (zi (zy rfl rfl ?_))) (fun c=>zi (zy rfl rfl ?_)))
 ·show De a=Uu a;unfold Uu;rw[wd (w6 c)]
 ·show a=Uu a;unfold Uu;rw[wc (w7 c)]
end T196
namespace T175
theorem ok:Ag Bi 175 bU:=by
 refine Cc X4 (fun(i:(Int×List Int)×(Int×List Int)) hi=>?_);obtain⟨a,b⟩:=i;have hi:(Bc a&&Bc b)=true:=hi;rw[zf]at hi;exact yj (An a b) (ze (B2 hi.2).1 (ze (Aa hi.1 (TA hi.2)) (zi (zy rfl rfl rfl))))
end T175
theorem qP:Ey XJ2:=
 Ab T175.ok (Ab T137.ok AU)
theorem mF(x y:Int):Sp.Ou (x-y)=Co x y:=by
 unfold Sp.Ou Co;split
 ·rw[wd (by omega)]
 ·split
  ·rw[wc (by omega),wd (by omega)]
  ·rw[wc (by omega),wc (by omega)]
namespace T120
theorem ok:Ag Bi 120 gT:=by
 refine Cc qP (fun(i:(Int×List Int)×(Int×List Int)) hi=>?_);obtain⟨a,b⟩:=i;have hi:(Bc a&&Bc b)=true:=hi;have hi2:=hi;rw[zf]at hi2;have hs:yk (Ni a b)=true:=by
  unfold Ni;exact SM hi2.1 (TA hi2.2)
 have hv:H3 (Ni a b)=dE a b:=by
  show Sp.Ou (zg (Ni a b))=Co (zg a) (zg b);rw[fY,mF]
 refine yj (An a b) (zk (fun c1=>zk (fun c2=>zk (fun d=>zi (zy rfl rfl ?_)) (fun d=>zk (fun e=>zi (zy rfl rfl ?_)) (fun e=>zi (zy rfl rfl ?_)))) (fun c2=>ze hi (ze hs (zi (zy rfl rfl hv))))) (fun c1=>ze hi (ze hs (zi (zy rfl rfl hv)))));all_goals
  have e1:=Bp (Pk c1);have e2:=Bp (Pk c2);show _=Co (zg a) (zg b);rw[e1,e2];unfold Co
 ·rw[wd (w6 d)]
 ·rw[wc (w7 d),wd (w6 e)]
 ·rw[wc (w7 d),wc (w7 e)]
end T120
theorem RT(x y:Int):x*y=qh (!(decide (x<0)==decide (y<0))) (Ae x*Ae y):=by
 unfold Ae;rw[DA];by_cases h1:x<0<;>by_cases h2:y<0<;>simp[h1,h2,Int.neg_mul,Int.mul_neg]
namespace T136
theorem ok:Ag Bi 136 Re:=by
 refine Cc Sj (fun(i:(Int×List Int)×(Int×List Int)) hi=>?_);obtain⟨a,b⟩:=i;have hi:(Bc a&&Bc b)=true:=hi;rw[zf]at hi;obtain⟨a1,a2,a3,a4,a5,a6⟩:=words hi.1;obtain⟨b1,b2,b3,b4,b5,b6⟩:=words hi.2;have hra:=(DZ a1).1;have hrb:=(DZ b1).1;have na:=AG (zg a);have nb:=AG (zg b);obtain⟨_,t2⟩:=LZ na a6 b6;have np:0<=Ae (zg a)*Ae (zg b):=zt na nb;have n1:Cf (Bw (Am (Bw (Ae (zg a)))*Am (Bw (Ae (zg b)))))=true:=by
  rw[a5,b5];exact(C6 np t2 (by omega)).1
 have hv:qh (!(decide (zg a<0)==decide (zg b<0))) (Am (Bw (Am (Bw (Ae (zg a)))*Am (Bw (Ae (zg b))))))=zg a*zg b:=by
  rw[a5,b5,show Am (Bw (Ae (zg a)*Ae (zg b)))=_ from CV (by decide) np, <-RT]
 have hq:∀ob,Ad Re (a,b) (.agg [.dat i64 (CE (qh (!(decide (zg a<0)==decide (zg b<0))) (Am (Bw (Am (Bw (Ae (zg a)))*Am (Bw (Ae (zg b)))))))),.dat (.nlist (.int .u64)) (CC (qh (!(decide (zg a<0)==decide (zg b<0))) (Am (Bw (Am (Bw (Ae (zg a)))*Am (Bw (Ae (zg b))))))))]) ob:=fun ob=>zy rfl rfl (by
  show CI _=CI (zg a*zg b);rw[hv])
 have ua:zq (Ae a.1)=true:=CJ (AG _) (by rw[Ah];omega);have ub:zq (Ae b.1)=true:=CJ (AG _) (by rw[Ah];omega);refine yj (An a b) (zk (fun c1=>zk (fun c2=>ze (DM hra.1 hra.2) (ze (DM hrb.1 hrb.2) (ze (Aa ua ub) (zk (fun c3=>zk (fun c4=>zk (fun c5=>zi (zy rfl rfl ?_)) (fun c5=>zi (zy rfl rfl ?_))) (fun c4=>?_)) (fun c3=>?_))))) (fun c2=>?_)) (fun c1=>?_))
 ·have e1:=Bp (Pk c1);have e2:=Bp (Pk c2);have c3:(Ae a.1*Ae b.1)/18446744073709551616=0:=by simpa [QH]using c3
  have c4:(Ae a.1*Ae b.1) % 18446744073709551616<=9223372036854775807:=w6 c4;have p0:0<=Ae a.1*Ae b.1:=zt (AG _) (AG _);have hm:=RT a.1 b.1;have c5:(!(decide (a.1<0)==decide (b.1<0)))=true:=c5;rw[c5,DA,wd rfl]at hm;show(zc .i64 (0-zc .i64 ((Ae a.1*Ae b.1) % 18446744073709551616)),[])=CI (zg a*zg b);rw[e1,e2,hm,B5 (by omega),wr ((Ae a.1*Ae b.1) % 18446744073709551616) (by omega) (by omega),wr _ (by omega) (by omega)];congr 1;omega
 ·have e1:=Bp (Pk c1);have e2:=Bp (Pk c2);have c3:(Ae a.1*Ae b.1)/18446744073709551616=0:=by simpa [QH]using c3
  have c4:(Ae a.1*Ae b.1) % 18446744073709551616<=9223372036854775807:=w6 c4;have p0:0<=Ae a.1*Ae b.1:=zt (AG _) (AG _);have hm:=RT a.1 b.1;have c5:(!(decide (a.1<0)==decide (b.1<0)))=false:=c5;rw[c5,DA,wc (by decide)]at hm;show(zc .i64 ((Ae a.1*Ae b.1) % 18446744073709551616),[])=CI (zg a*zg b);rw[e1,e2,hm,B5 (by omega),wr ((Ae a.1*Ae b.1) % 18446744073709551616) (by omega) (by omega)];congr 1;omega
 all_goals exact ze a1 (ze b1 (ze (Aa a2 b2) (ze n1 (zi (hq _)))))
end T136
end Go.Pe
namespace Go.Sp
def E7(n:Int):Int:=if n<=0 then 0 else(n.toNat.log2:Int)+1
def lz(n:Int):Int:=64-E7 n
def dq(h l y:Int):Int:=(h*18446744073709551616+l)/y
def dr(h l y:Int):Int:=(h*18446744073709551616+l) % y
end Go.Sp
namespace Go.Pe
open Go.Det
def WM:Ap:=⟨[u64],fun n=>zq n,[i64],fun n=>Sp.E7 n,false⟩
def cLZ:Ap:=⟨[u64],fun n=>zq n,[i64],fun n=>Sp.lz n,false⟩
def RJ:Ap:=⟨[u64,u64,u64],fun i=>zq i.1&&zq i.2.1&&zq i.2.2&&decide ((i.1:Int)<i.2.2),[u64,u64],fun i=>(Sp.dq i.1 i.2.1 i.2.2,Sp.dr i.1 i.2.1 i.2.2),false⟩
def XD1:A6:=X7 [(244,WM)]
def eK:A6:=X7 [(256,cLZ)]
section
open List Int Prod
namespace T244
def T(x:Int):Tr:=tree cS false 9 244 (Af ([zh zd]) x)
theorem An(x:Int):T x=let a':=([0,1,2,2,3,3,3,3,4,4,4,4,4,4,4,4,5,5,5,5,5,5,5,5,5,5,5,5,5,5,5,5,6,6,6,6,6,6,6,6,6,6,6,6,6,6,6,6,6,6,6,6,6,6,6,6,6,6,6,6,6,6,6,6,7,7,7,7,7,7,7,7,7,7,7,7,7,7,7,7,7,7,7,7,7,7,7,7,7,7,7,7,7,7,7,7,7,7,7,7,7,7,7,7,7,7,7,7,7,7,7,7,7,7,7,7,7,7,7,7,7,7,7,7,7,7,7,7,8,8,8,8,8,8,8,8,8,8,8,8,8,8,8,8,8,8,8,8,8,8,8,8,8,8,8,8,8,8,8,8,8,8,8,8,8,8,8,8,8,8,8,8,8,8,8,8,8,8,8,8,8,8,8,8,8,8,8,8,8,8,8,8,8,8,8,8,8,8,8,8,8,8,8,8,8,8,8,8,8,8,8,8,8,8,8,8,8,8,8,8,8,8,8,8,8,8,8,8,8,8,8,8,8,8,8,8,8,8,8,8,8,8,8,8,8,8,8,8,8,8,8,8,8,8,8,8]:List UInt8);let b':=zn x (2^32);let c':=(0:Sh.T (zh q9));let e':=zn x (2^16);let i':=zn x (2^8);let d':=zn b' (2^16);let g':=zn b' (2^8);let h':=zn e' (2^8);let f':=zn d' (2^8);.ite (decide (x>=4294967296)) (.ite true (.ite (decide (zn x (2^32)>=65536)) (.ite true (.ite (decide (zn b' (2^16)>=256)) (.ite true (.ite (decide (c'<=zc .u8 f')&&decide (zc .u8 f'<(↑256:Int))) (.leaf (.dat i64 (zc .i64 (zc .i64 (zc .i64 (32+16)+8)+zc .i64 (↑(yg (getD a' (toNat (zc .u8 f')) (0:UInt8))):Int)))) []) .fail) .fail) (.ite (decide (c'<=zc .u8 d')&&decide (zc .u8 d'<(↑256:Int))) (.leaf (.dat i64 (zc .i64 (zc .i64 (32+16)+zc .i64 (↑(yg (getD a' (toNat (zc .u8 d')) (0:UInt8))):Int)))) []) .fail)) .fail) (.ite (decide (zn x (2^32)>=256)) (.ite true (.ite (decide (c'<=zc .u8 g')&&decide (zc .u8 g'<(↑256:Int))) (.leaf (.dat i64 (zc .i64 (zc .i64 (32+8)+zc .i64 (↑(yg (getD a' (toNat (zc .u8 g')) (0:UInt8))):Int)))) []) .fail) .fail) (.ite (decide (c'<=zc .u8 b')&&decide (zc .u8 b'<(↑256:Int))) (.leaf (.dat i64 (zc .i64 (32+zc .i64 (↑(yg (getD a' (toNat (zc .u8 b')) (0:UInt8))):Int)))) []) .fail))) .fail) (.ite (decide (x>=65536)) (.ite true (.ite (decide (zn x (2^16)>=256)) (.ite true (.ite (decide (c'<=zc .u8 h')&&decide (zc .u8 h'<(↑256:Int))) (.leaf (.dat i64 (zc .i64 (zc .i64 (zc .i64 (0+16)+8)+zc .i64 (↑(yg (getD a' (toNat (zc .u8 h')) (0:UInt8))):Int)))) []) .fail) .fail) (.ite (decide (c'<=zc .u8 e')&&decide (zc .u8 e'<(↑256:Int))) (.leaf (.dat i64 (zc .i64 (zc .i64 (0+16)+zc .i64 (↑(yg (getD a' (toNat (zc .u8 e')) (0:UInt8))):Int)))) []) .fail)) .fail) (.ite (decide (x>=256)) (.ite true (.ite (decide (c'<=zc .u8 i')&&decide (zc .u8 i'<(↑256:Int))) (.leaf (.dat i64 (zc .i64 (zc .i64 (0+8)+zc .i64 (↑(yg (getD a' (toNat (zc .u8 i')) (0:UInt8))):Int)))) []) .fail) .fail) (.ite (decide (c'<=zc .u8 x)&&decide (zc .u8 x<(↑256:Int))) (.leaf (.dat i64 (zc .i64 (0+zc .i64 (↑(yg (getD a' (toNat (zc .u8 x)) (0:UInt8))):Int)))) []) .fail))):=by kernel_rfl
end T244
namespace T256
def T(x:Int):Tr:=tree XD1 false 9 256 (Af ([zh zd]) x)
theorem An(x:Int):T x=.ite (zq x) (.leaf (.dat i64 (zc .i64 (64-Sp.E7 x))) []) .fail:=by kernel_rfl
end T256
namespace T255
def T(hi lo y:Int):Tr:=tree eK false 9 255 (Af ([zh zd,zh zd,zh zd]) (hi,lo,y))
def L1(v2 v8 v9 v10 v11 v13 v14 v15 v16:Int):Tr:=re ((T 0 0 0).R.R.R.L.L.L.L.L.L.L.L) (AF 135 [(2,.dat (zh zd) v2),(8,.dat (zh zd) v8),(9,.dat (zh zd) v9),(10,.dat (zh zd) v10),(11,.dat (zh zd) v11),(13,.dat (zh zd) v13),(14,.dat (zh zd) v14),(15,.dat (zh zd) v15),(16,.dat (zh zd) v16)] [] 0)
theorem An(hi lo y:Int):T hi lo y=let e':=decide (0<=zc .u64 (Sp.lz y));let i':=64-zc .u64 (Sp.lz y);let j':=zc .u64 (Sp.lz y);let c':=toNat j';let d':=zn lo (2^qq (toNat (zc .u64 i')) 64);let a':=zc .u64 (y*2^qq c' 64);let f':=zc .u64 (lo*2^qq c' 64);let g':=zc .u64 (hi*2^qq c' 64);let b':=aU zd g' d';let h':=zn a' (2^32);.ite (y==0) .fail (.ite (decide (y<=hi)) .fail (.ite (hi==0) (.ite (decide (y≠0)) (.ite (decide (y≠0)) (.leaf (.tup [.dat (zh zd) (zc .u64 (yz lo y)),.dat (zh zd) (Int.tmod lo y)]) []) .fail) .fail) (.ite (zq y) (.ite e' (.ite true (.ite e' (.ite (decide (0<=zc .u64 i')) (.ite e' (.ite true (.ite (decide (zn a' (2^32)≠0)) (L1 a' j' h' (Hq zd a' 4294967295) b' (zn f' (2^32)) (Hq zd f' 4294967295) (zc .u64 (yz b' h')) (zc .u64 (aU zd g' d'-zc .u64 (zc .u64 (yz b' h')*zn a' (2^32))))) .fail) .fail) .fail) .fail) .fail) .fail) .fail) .fail))):=by kernel_rfl
def L2(v2 v8 v9 v10 v14 v15 v16 v17 v18:Int):Tr:=re ((stepT eK (L1 0 0 0 0 0 0 0 0 0)).L.L.L) (AF 135 [(2,.dat (zh zd) v2),(8,.dat (zh zd) v8),(9,.dat (zh zd) v9),(10,.dat (zh zd) v10),(14,.dat (zh zd) v14),(15,.dat (zh zd) v15),(16,.dat (zh zd) v16),(17,.dat (zh zd) v17),(18,.dat (zh zd) v18)] [] 0)
theorem Au(v2 v8 v9 v10 v11 v13 v14 v15 v16:Int):stepT eK (L1 v2 v8 v9 v10 v11 v13 v14 v15 v16)=let f':=zc .u64 (v11*4294967296)+v13;let g':=zc .u64 (v15-1);let b':=zc .u64 f'-zc .u64 (zc .u64 (v15-1)*v2);let c':=zc .u64 f'-zc .u64 (v15*v2);let d':=zc .u64 c';let e':=zc .u64 b';let a':Tr:=.ite (decide (zc .u64 (v16+v9)>=4294967296)) (.ite (decide (v9≠0)) (L2 v2 v8 v9 v10 v14 g' (zc .u64 (zc .u64 b'-zc .u64 (zc .u64 (yz e' v9)*v9))) e' (zc .u64 (yz e' v9))) .fail) (L1 v2 v8 v9 v10 v11 v13 v14 g' (zc .u64 (v16+v9)));.ite (decide (v15>=4294967296)) a' (.ite (decide (zc .u64 (v15*v10)>zc .u64 (zc .u64 (4294967296*v16)+v13))) a' (.ite (decide (v9≠0)) (L2 v2 v8 v9 v10 v14 v15 (zc .u64 (zc .u64 c'-zc .u64 (zc .u64 (yz d' v9)*v9))) d' (zc .u64 (yz d' v9))) .fail)):=by kernel_rfl
theorem AV(v2 v8 v9 v10 v14 v15 v16 v17 v18:Int):stepT eK (L2 v2 v8 v9 v10 v14 v15 v16 v17 v18)=let b':=zh zd;let c':=zc .u64 (v17*4294967296)+v14;let d':=2^qq (toNat v8) 64;let a':Tr:=.ite (decide (zc .u64 (v16+v9)>=4294967296)) (.ite (decide (0<=v8)) (.leaf (.tup [.dat b' (zc .u64 (zc .u64 (v15*4294967296)+zc .u64 (v18-1))),.dat b' (zn (zc .u64 (zc .u64 c'-zc .u64 (zc .u64 (v18-1)*v2))) d')]) []) .fail) (L2 v2 v8 v9 v10 v14 v15 (zc .u64 (v16+v9)) v17 (zc .u64 (v18-1)));.ite (decide (v18>=4294967296)) a' (.ite (decide (zc .u64 (v18*v10)>zc .u64 (zc .u64 (4294967296*v16)+v14))) a' (.ite (decide (0<=v8)) (.leaf (.tup [.dat b' (zc .u64 (zc .u64 (v15*4294967296)+v18)),.dat b' (zn (zc .u64 (zc .u64 c'-zc .u64 (v18*v2))) d')]) []) .fail)):=by kernel_rfl
end T255
end
namespace T255
variable {Q:PV->Ob->Prop}
def Exact(Y u w q:Int):Prop:=q*Y<=u*4294967296+w/\u*4294967296+w<(q+1)*Y
theorem XK{Y y1 y0 u w q r:Int}(hY:Y=y1*4294967296+y0)(he:q*y1+r=u)(h:q*y0>4294967296*r+w):u*4294967296+w<q*Y:=by
 subst hY;rw[yc, <-zr];generalize q*y1=A at*;generalize q*y0=C at*;omega
theorem Lw{Y y1 y0 u w q r:Int}(hY:Y=y1*4294967296+y0)(he:q*y1+r=u)(h:q*y0<=4294967296*r+w):q*Y<=u*4294967296+w:=by
 subst hY;rw[yc, <-zr];generalize q*y1=A at*;generalize q*y0=C at*;omega
theorem UE{Y u w q:Int}(hu:u<Y)(hY:0<=Y)(hw:w<4294967296)(hq:4294967296<=q):u*4294967296+w<q*Y:=by
 have:=zj hq hY;omega
theorem Uf{y1 y0 u w r:Int}{n:Nat}{Y:Int}(hY:Y=y1*4294967296+y0)(h1:0<=y1)(h0:0<=y0/\y0<4294967296)(hu:u<Y)(hw:0<=w)(he:(n:Int)*y1+r=u)(hr:4294967296<=r):(n:Int)*Y<=u*4294967296+w:=by
 have hn:(n:Int)<4294967296:=by
  rcases zz (n:Int) 4294967296 with h|h
  ·exact h
  ·have:=zj h h1;omega
 refine Lw hY he ?_;have a:=zj (show(n:Int)<=4294967295 by omega) h0.1;omega
theorem Ao(Y s y1 y0 u w z:Int)(hY:Y=y1*4294967296+y0)(h1:0<y1/\y1<4294967296)(h0:0<=y0/\y0<4294967296)(hu:u<Y)(hw:0<=w/\w<4294967296)
  (hx:∀q:Int,0<=q->Exact Y u w q->Ends eK (L2 Y s y1 y0 z q (zc zd (zc zd (zc zd (zc zd (u*(4294967296:Int))+w)-zc zd (q*Y))-zc zd (zc zd (yz (zc zd (zc zd (zc zd (u*(4294967296:Int))+w)-zc zd (q*Y))) y1)*y1))) (zc zd (zc zd (zc zd (u*(4294967296:Int))+w)-zc zd (q*Y))) (zc zd (yz (zc zd (zc zd (zc zd (u*(4294967296:Int))+w)-zc zd (q*Y))) y1))) Q):
  ∀(n:Nat) (r:Int),(n:Int)<18446744073709551616->(n:Int)*y1+r=u->0<=r->r<4294967296->u*4294967296+w<((n:Int)+1)*Y->Ends eK (L1 Y s y1 y0 u w z n r) Q:=by
 intro n;induction n with
 |zero=>
  intro r hn he r0 r1 hup;have hz:decide (y1≠0)=true:=w4 (by omega);refine yq (Au ..) (yo (by simp) (yo (w8 ?_) (ze hz (hx _ (by omega) ⟨?_,hup⟩))))
  ·rw[show((0:Nat):Int)*y0=0 by simp,wu 0 (by omega) (by omega),wu (4294967296*r) (by omega) (by omega),wu _ (by omega) (by omega)];omega
  ·exact Lw hY he (by rw[show((0:Nat):Int)*y0=0 by simp];omega)
 |succ n ih=>
  intro r hn he r0 r1 hup;have hz:decide (y1≠0)=true:=w4 (by omega);have e1:zc .u64 (((n+1:Nat):Int)-1)=(n:Int):=by rw[wu _ (by omega) (by omega)];omega
  have e2:zc .u64 (r+y1)=r+y1:=wu _ (by omega) (by omega);have hY0:0<=Y:=by omega
  have he':(n:Int)*y1+(r+y1)=u:=by
   rw[show((n+1:Nat):Int)=(n:Int)+1 by omega,z6,yp]at he;omega
  have ec:((n+1:Nat):Int)=(n:Int)+1:=by omega
  have dec:u*4294967296+w<((n:Int)+1)*Y->r+y1<4294967296->Ends eK (L1 Y s y1 y0 u w z n (r+y1)) Q:=fun h1' h2'=>
   ih (r+y1) (by omega) he' (by omega) h2' h1'
  have cut:u*4294967296+w<((n:Int)+1)*Y->4294967296<=r+y1->Exact Y u w n:=fun h1' h2'=>
   ⟨Uf hY (by omega) h0 hu hw.1 he' h2',h1'⟩
  refine yq (Au ..) ?_;conv=>zeta
  rw[e1,e2];refine zk (fun c=>?_) (fun c=>zk (fun d=>?_) (fun d=>?_))
  ·have c:=w6 c;have hb:u*4294967296+w<((n:Int)+1)*Y:=by rw[<-ec];exact UE hu hY0 hw.2 c
   exact zk (fun e=>ze hz (hx _ (by omega) (cut hb (w6 e)))) (fun e=>dec hb (by have:=w7 e;omega))
  ·have c:=w7 c;have d:=w6 d;have a:=zj (show((n+1:Nat):Int)<=4294967295 by omega) h0.1;have b:=zt (show 0<=((n+1:Nat):Int)by omega) h0.1;rw[wu (((n+1:Nat):Int)*y0) (by omega) (by omega),wu (4294967296*r) (by omega) (by omega),wu _ (by omega) (by omega)]at d;have hb:u*4294967296+w<((n:Int)+1)*Y:=by rw[<-ec];exact XK hY he d
   exact zk (fun e=>ze hz (hx _ (by omega) (cut hb (w6 e)))) (fun e=>dec hb (by have:=w7 e;omega))
  ·have c:=w7 c;have d:=w7 d;have a:=zj (show((n+1:Nat):Int)<=4294967295 by omega) h0.1;have b:=zt (show 0<=((n+1:Nat):Int)by omega) h0.1;rw[wu (((n+1:Nat):Int)*y0) (by omega) (by omega),wu (4294967296*r) (by omega) (by omega),wu _ (by omega) (by omega)]at d;exact ze hz (hx _ (by omega) ⟨Lw hY he (by omega),hup⟩)
theorem A4(Y s y1 y0 u w p:Int)(hY:Y=y1*4294967296+y0)(h1:0<y1/\y1<4294967296)(h0:0<=y0/\y0<4294967296)(hu:u<Y)(hw:0<=w/\w<4294967296)(hs:0<=s)
  (hx:∀q:Int,0<=q->Exact Y u w q->∀ob,Q (PV.tup [PV.dat (zh zd) (zc zd (zc zd (p*(4294967296:Int))+q)),PV.dat (zh zd) (zn (zc zd (zc zd (zc zd (u*(4294967296:Int))+w)-zc zd (q*Y))) ((2:Int)^qq (qz s) (64:Nat)))]) ob):
  ∀(n:Nat) (r:Int),(n:Int)<18446744073709551616->(n:Int)*y1+r=u->0<=r->r<4294967296->u*4294967296+w<((n:Int)+1)*Y->Ends eK (L2 Y s y1 y0 w p r u n) Q:=by
 intro n;induction n with
 |zero=>
  intro r hn he r0 r1 hup;have hz:decide (0<=s)=true:=w4 hs;refine yq (AV ..) (yo (by simp) (yo (w8 ?_) (ze hz (zi (hx _ (by omega) ⟨?_,hup⟩ _)))))
  ·rw[show((0:Nat):Int)*y0=0 by simp,wu 0 (by omega) (by omega),wu (4294967296*r) (by omega) (by omega),wu _ (by omega) (by omega)];omega
  ·exact Lw hY he (by rw[show((0:Nat):Int)*y0=0 by simp];omega)
 |succ n ih=>
  intro r hn he r0 r1 hup;have hz:decide (0<=s)=true:=w4 hs;have e1:zc .u64 (((n+1:Nat):Int)-1)=(n:Int):=by rw[wu _ (by omega) (by omega)];omega
  have e2:zc .u64 (r+y1)=r+y1:=wu _ (by omega) (by omega);have hY0:0<=Y:=by omega
  have he':(n:Int)*y1+(r+y1)=u:=by
   rw[show((n+1:Nat):Int)=(n:Int)+1 by omega,z6,yp]at he;omega
  have ec:((n+1:Nat):Int)=(n:Int)+1:=by omega
  have dec:u*4294967296+w<((n:Int)+1)*Y->r+y1<4294967296->Ends eK (L2 Y s y1 y0 w p (r+y1) u n) Q:=fun h1' h2'=>
   ih (r+y1) (by omega) he' (by omega) h2' h1'
  have cut:u*4294967296+w<((n:Int)+1)*Y->4294967296<=r+y1->Exact Y u w n:=fun h1' h2'=>
   ⟨Uf hY (by omega) h0 hu hw.1 he' h2',h1'⟩
  refine yq (AV ..) ?_;conv=>zeta
  rw[e1,e2];refine zk (fun c=>?_) (fun c=>zk (fun d=>?_) (fun d=>?_))
  ·have c:=w6 c;have hb:u*4294967296+w<((n:Int)+1)*Y:=by rw[<-ec];exact UE hu hY0 hw.2 c
   exact zk (fun e=>ze hz (zi (hx _ (by omega) (cut hb (w6 e)) _))) (fun e=>dec hb (by have:=w7 e;omega))
  ·have c:=w7 c;have d:=w6 d;have a:=zj (show((n+1:Nat):Int)<=4294967295 by omega) h0.1;have b:=zt (show 0<=((n+1:Nat):Int)by omega) h0.1;rw[wu (((n+1:Nat):Int)*y0) (by omega) (by omega),wu (4294967296*r) (by omega) (by omega),wu _ (by omega) (by omega)]at d;have hb:u*4294967296+w<((n:Int)+1)*Y:=by rw[<-ec];exact XK hY he d
   exact zk (fun e=>ze hz (zi (hx _ (by omega) (cut hb (w6 e)) _))) (fun e=>dec hb (by have:=w7 e;omega))
  ·have c:=w7 c;have d:=w7 d;have a:=zj (show((n+1:Nat):Int)<=4294967295 by omega) h0.1;have b:=zt (show 0<=((n+1:Nat):Int)by omega) h0.1;rw[wu (((n+1:Nat):Int)*y0) (by omega) (by omega),wu (4294967296*r) (by omega) (by omega),wu _ (by omega) (by omega)]at d;exact ze hz (zi (hx _ (by omega) ⟨Lw hY he (by omega),hup⟩ _))
end T255
theorem TC{y:Int}(h1:0<y)(h2:y<18446744073709551616):∃s:Nat,Sp.lz y=(s:Int)/\s<=63/\y*2^s<18446744073709551616/\9223372036854775808<=y*2^s:=by
 obtain⟨n,rfl⟩:=zp (yn h1);have hn:n≠0:=by omega
 have hk:n.log2<64:=(Nat.log2_lt hn).2 (by omega);have a:=Nat.log2_self_le hn;have b:=Nat.lt_log2_self (n:=n);have e1:2^n.log2*2^(63-n.log2)=2^63:=by rw[<-qy];congr 1;omega
 have e2:2^(n.log2+1)*2^(63-n.log2)=2^64:=by rw[<-qy];congr 1;omega
 have c1:2^63<=n*2^(63-n.log2):=by rw[<-e1];exact Nat.mul_le_mul_right _ a
 have c2:n*2^(63-n.log2)<2^64:=by rw[<-e2];exact Nat.mul_lt_mul_of_pos_right b (qv _)
 refine⟨63-n.log2,?_,by omega,?_,?_⟩
 ·unfold Sp.lz Sp.E7;rw[wc (by omega),zl];omega
 ·have:((n*2^(63-n.log2):Nat):Int)<18446744073709551616:=by omega
  rw[yx,yr]at this;exact this
 ·have:(9223372036854775808:Int)<=((n*2^(63-n.log2):Nat):Int):=by omega
  rw[yx,yr]at this;exact this
theorem XF{a b:Int}{s:Nat}(ha:0<=a)(hb:0<=b)(h:b<2^s)(hm:a*2^s+b<18446744073709551616):aU .u64 (a*2^s) b=a*2^s+b:=by
 obtain⟨m,rfl⟩:=zp ha;obtain⟨k,rfl⟩:=zp hb;have ep:((m:Int)*2^s)=((m*2^s:Nat):Int):=by rw[yx,yr];rfl
 have hk:k<2^s:=by
  have e:((2:Int)^s)=((2^s:Nat):Int):=by rw[yr];rfl
  rw[e]at h;omega
 rw[ep]at hm ⊢;have e:(ye 64 ((m*2^s:Nat):Int)|||ye 64 (k:Int)).toNat=m*2^s+k:=by
  rw[BitVec.toNat_or,y9,y9,qf,qf,qm (by omega),qm (by omega),Nat.mul_comm m,Nat.two_pow_add_eq_or_of_lt hk]
 show zc .u64 (((ye 64 ((m*2^s:Nat):Int)|||ye 64 (k:Int)).toNat:Nat):Int)=_;rw[e,bO _ (by omega)];omega
namespace T255
theorem start{u y1 y0 Y w:Int}(hY:Y=y1*4294967296+y0)(h1:0<y1/\y1<4294967296)(h0:0<=y0)(hu:0<=u/\u<18446744073709551616)(hw:w<4294967296):
  ∃(n:Nat) (r:Int),zc .u64 (yz u y1)=(n:Int)/\zc .u64 (u-zc .u64 ((n:Int)*y1))=r/\(n:Int)<18446744073709551616/\(n:Int)*y1+r=u/\0<=r/\r<4294967296/\u*4294967296+w<((n:Int)+1)*Y:=by
 have q0:0<=u/y1:=qw hu.1 (by omega);have q1:u/y1<=u:=Int.ediv_le_self _ hu.1;have ed:=Int.mul_ediv_add_emod u y1;have r0:=Int.emod_nonneg u (show y1≠0 by omega);have r1:=Int.emod_lt_of_pos u h1.1;rw[ya]at ed;obtain⟨n,hn⟩:=zp q0;have hp:0<=(n:Int)*y1:=zt (by omega) (by omega);rw[hn]at ed;refine⟨n,u % y1,?_,?_,by omega,ed,r0,by omega,?_⟩
 ·rw[qj hu.1,hn,wu _ (by omega) (by omega)]
 ·rw[wu ((n:Int)*y1) (by omega) (by omega),wu _ (by omega) (by omega)];omega
 ·subst hY;have a:((n:Int)+1)*(y1*4294967296+y0)=((n:Int)*y1+y1)*4294967296+((n:Int)+1)*y0:=by
   rw[yc, <-zr,z6,yp]
  have b:0<=((n:Int)+1)*y0:=zt (by omega) h0;rw[a];omega
theorem Ro{u w q Y:Int}(hE:Exact Y u w q)(hY:Y<18446744073709551616):zc .u64 (zc .u64 (zc .u64 (u*(4294967296:Int))+w)-zc .u64 (q*Y))=u*4294967296+w-q*Y:=by
 obtain⟨a,b⟩:=hE;rw[z6,yp]at b;rw[La,La,La,La];generalize q*Y=A at*;omega
theorem pL(h:Ag Bi 256 cLZ):Ey eK:=Ab h AU
set_option maxHeartbeats 1000000 in
theorem ok(hlz:Ag Bi 256 cLZ):Ag Bi 255 RJ:=by
 refine MN (X:=eK) rfl (pL hlz) (d:=9) (by kernel_rfl) (by kernel_rfl) (by kernel_rfl) (fun(i:Int×Int×Int) hi=>?_) (BD (by kernel_rfl));obtain⟨hi',lo,y⟩:=i;have hi:(zq hi'&&zq lo&&zq y&&decide (hi'<y))=true:=hi;rw[zf,zf,zf,w5]at hi;obtain⟨⟨⟨h1,h2⟩,h3⟩,h4⟩:=hi;have uy:=h3;have h1:=Sp.A2 h1;have h2:=Sp.A2 h2;have h3:=Sp.A2 h3;have hg:∀q r ob,q=Sp.dq hi' lo y->r=Sp.dr hi' lo y->Ad RJ (hi',lo,y) (PV.tup [PV.dat (zh zd) q,PV.dat (zh zd) r]) ob:=fun q r ob e1 e2=>zy rfl rfl (Prod.ext e1 e2)
 refine yj (An hi' lo y) (yo (by simp;omega) (yo (w8 (by omega)) (zk (fun c=>?_) (fun c=>?_))))
 ·have c:hi'=0:=by simpa using c
  subst c;have q0:0<=lo/y:=qw h2.1 (by omega);have q1:lo/y<=lo:=Int.ediv_le_self _ h2.1;refine ze (w4 (by omega)) (ze (w4 (by omega)) (zi (hg _ _ _ ?_ ?_)))
  ·unfold Sp.dq;rw[qj h2.1,wu _ (by omega) (by omega),Int.zero_mul,qt]
  ·unfold Sp.dr;rw[Int.tmod_eq_emod_of_nonneg h2.1,Int.zero_mul,qt]
 ·have c:hi'≠0:=by simpa using c
  obtain⟨s,hs,hs63,hlt,hge⟩:=TC (y:=y) (by omega) h3.2;have es:zc .u64 (s:Int)=(s:Int):=bO s (by omega);have em:qq s 64=s:=by omega
  have es2:zc .u64 ((64:Int)-(s:Int))=((64-s:Nat):Int):=by rw[wu _ (by omega) (by omega)];omega
  have em2:qq (64-s) 64=64-s:=by omega
  have hPR:(2:Int)^s*2^(64-s)=18446744073709551616:=by rw[<-Int.pow_add,show s+(64-s)=64 by omega];rfl
  have hP:(0:Int)<2^s:=Int.pow_pos (by decide);have hR:(0:Int)<2^(64-s):=Int.pow_pos (by decide);have a0:0<=lo/2^(64-s):=qw h2.1 (by omega);have led:=Int.mul_ediv_add_emod lo (2^(64-s));have c0:=Int.emod_nonneg lo (show(2:Int)^(64-s)≠0 by omega);have c1:=Int.emod_lt_of_pos lo hR;have aP:lo/2^(64-s)<2^s:=Int.ediv_lt_of_lt_mul hR (by rw[hPR];exact h2.2);have hiP:hi'*2^s+2^s<=y*2^s:=by
   have:=zj (show hi'+1<=y by omega) (yn hP);rw[z6,yp]at this;exact this
  have hi0:0<=hi'*2^s:=zt h1.1 (yn hP);have efd:zn lo ((2:Int)^(64-s))=lo/2^(64-s):=yi _ (by omega);have eio:aU .u64 (hi'*2^s) (lo/2^(64-s))=hi'*2^s+lo/2^(64-s):=XF h1.1 a0 aP (by omega);have cP0:0<=(lo % 2^(64-s))*2^s:=zt c0 (yn hP);have cP1:(lo % 2^(64-s))*2^s<18446744073709551616:=by
   have:=Int.mul_lt_mul_of_pos_right c1 hP;rw[ya (2^(64-s)),hPR]at this;exact this
  have loP:lo*2^s=(lo/2^(64-s))*18446744073709551616+(lo % 2^(64-s))*2^s:=by
   conv=>lhs;rw[<-led]
   rw[z6, <-hPR,ya (2^(64-s)) (lo/2^(64-s)),zr,ya (2^(64-s)) (2^s)]
  have elo:zc .u64 (lo*2^s)=(lo % 2^(64-s))*2^s:=by rw[loP,La];omega
  have hN:(hi'*2^s+lo/2^(64-s))*18446744073709551616+(lo % 2^(64-s))*2^s=(hi'*18446744073709551616+lo)*2^s:=by
   rw[z6 (hi'*18446744073709551616) lo (2^s),loP,zr hi' 18446744073709551616 (2^s),ya 18446744073709551616 ((2:Int)^s), <-zr];omega
  have ewy:zc .u64 (y*2^s)=y*2^s:=wu _ (by omega) (by omega);have ewh:zc .u64 (hi'*2^s)=hi'*2^s:=wu _ hi0 (by omega);have z0:decide ((0:Int)<=(s:Int))=true:=w4 (by omega);have fin:∀q:Int,q*(y*2^s)<=(hi'*18446744073709551616+lo)*2^s->(hi'*18446744073709551616+lo)*2^s<(q+1)*(y*2^s)->q=Sp.dq hi' lo y/\zn ((hi'*18446744073709551616+lo)*2^s-q*(y*2^s)) (2^s)=Sp.dr hi' lo y:=by
   intro q f1 f2;unfold Sp.dq Sp.dr;generalize hi'*18446744073709551616+lo=M at*;rw[<-zr]at f1 f2;have g1:q*y<=M:=Int.le_of_mul_le_mul_right f1 hP;have g2:M<(q+1)*y:=Int.lt_of_mul_lt_mul_right f2 (yn hP);rw[z6,yp]at g2;obtain⟨u1,u2⟩:=(Int.ediv_emod_unique (a:=M) (b:=y) (r:=M-q*y) (q:=q) (by omega)).2 ⟨by rw[ya y q];omega,by omega,by omega⟩;refine⟨u1.symm,?_⟩;rw[u2, <-zr, <-Int.sub_mul,yi _ (yn hP)];exact Int.mul_ediv_cancel _ (by omega)
  obtain⟨Y,eY⟩:=zp (show 0<=y*2^s by omega);obtain⟨C,eC⟩:=zp cP0;have hU0:0<=hi'*2^s+lo/2^(64-s):=by omega
  have hUY:hi'*2^s+lo/2^(64-s)<y*2^s:=by omega
  rw[hs,es,es2,zl,zl,em,em2,ewy,ewh,efd,eio,elo];rw[eC]at hN cP1 ⊢;rw[eY]at hlt hge hUY fin ⊢;generalize hU:hi'*2^s+lo/2^(64-s)=U at*;generalize hM:(hi'*18446744073709551616+lo)*2^s=M at*;rw[ZE,ZE,P9 Y (by omega),P9 C (by omega)];have hY:(Y:Int)=((Y/4294967296:Nat):Int)*4294967296+((Y % 4294967296:Nat):Int):=by omega
  have b1:0<((Y/4294967296:Nat):Int)/\((Y/4294967296:Nat):Int)<4294967296:=by omega
  have b0:0<=((Y % 4294967296:Nat):Int)/\((Y % 4294967296:Nat):Int)<4294967296:=by omega
  have w1:0<=((C/4294967296:Nat):Int)/\((C/4294967296:Nat):Int)<4294967296:=by omega
  have w0:0<=((C % 4294967296:Nat):Int)/\((C % 4294967296:Nat):Int)<4294967296:=by omega
  have hC:(C:Int)=((C/4294967296:Nat):Int)*4294967296+((C % 4294967296:Nat):Int):=by omega
  generalize ((Y/4294967296:Nat):Int)=y1 at*;generalize ((Y % 4294967296:Nat):Int)=y0 at*;generalize ((C/4294967296:Nat):Int)=w at*;generalize ((C % 4294967296:Nat):Int)=z at*;refine ze uy (ze z0 (ze rfl (ze z0 (ze (w4 (by omega)) (ze z0 (ze rfl (ze (w4 (by omega)) ?_)))))));obtain⟨n,r,e1,e2,n1,n2,n3,n4,n5⟩:=start (u:=U) (w:=w) hY b1 b0.1 (by omega) w1.2;rw[e1,e2];refine Ao (Y:Int) s y1 y0 U w z hY b1 b0 hUY w1 (fun p p0 hp=>?_) n r n1 n2 n3 n4 n5;have er:=Ro hp (by omega);rw[er];have hp1:=hp.1;have hp2:=hp.2;rw[z6,yp]at hp2;obtain⟨m,t,k1,k2,m1,m2,m3,m4,m5⟩:=start (u:=U*4294967296+w-p*Y) (w:=z) hY b1 b0.1 (by omega) w0.2;rw[k1,k2];refine A4 (Y:Int) s y1 y0 _ z p hY b1 b0 (by omega) w0 (by omega) (fun q q0 hq ob=>?_) m t m1 m2 m3 m4 m5;rw[Ro hq (by omega),zl,em];obtain⟨hq1,hq2⟩:=hq;have ez:(p*4294967296+q)*(Y:Int)=p*Y*4294967296+q*Y:=by
   rw[z6,zr,ya 4294967296 (Y:Int), <-zr]
  have ez1:(p*4294967296+q+1)*(Y:Int)=p*Y*4294967296+q*Y+Y:=by
   rw[z6,ez,yp]
  rw[z6,yp]at hq2;obtain⟨f1,f2⟩:=fin (p*4294967296+q) (by rw[ez];omega) (by rw[ez1];omega);refine hg _ _ _ ?_ ?_
  ·have hb:Sp.dq hi' lo y<18446744073709551616:=by
    unfold Sp.dq;refine Int.ediv_lt_of_lt_mul (by omega) ?_;have:=yd (show hi'+1<=y by omega) (show(0:Int)<=18446744073709551616 by decide);omega
   rw[<-f1]at hb ⊢;rw[La,La];omega
  ·rw[<-f2,ez];congr 1;omega
end T255
open Sp
theorem dQ(x k:Nat)(h:2^k<=x):x.log2=k+(x/2^k).log2:=by
 have hk:=qv k;have hz:x/2^k≠0:=by
  have:=Nat.div_pos h hk;omega
 have hx:x≠0:=by omega
 refine(Nat.log2_eq_iff hx).2 ⟨?_,?_⟩
 ·rw[qy];exact Nat.le_trans (Nat.mul_le_mul_left _ (Nat.log2_self_le hz)) (Nat.mul_div_le x (2^k))
 ·rw[Nat.add_assoc,qy];have a:x/2^k+1<=2^((x/2^k).log2+1):=Nat.lt_log2_self;have b:=Nat.mul_le_mul_left (2^k) a;have c:=Nat.lt_mul_div_succ x hk;exact Nat.lt_of_lt_of_le c b
theorem Oi(x k:Nat)(h:2^k<=x):E7 (x:Int)=(k:Int)+E7 ((x/2^k:Nat):Int):=by
 have hk:=qv k;have hz:=Nat.div_pos h hk;have e:=dQ x k h;unfold E7;rw[wc (by omega),wc (by omega),zl,zl,e];omega
theorem xX(n k:Nat):zn (n:Int) ((2:Int)^k)=((n/2^k:Nat):Int):=by
 have:(0:Int)<2^k:=Int.pow_pos (by decide);rw[yi _ (by omega),Int.natCast_ediv,yr];rfl
def xL:List UInt8:=[(0:UInt8),(1:UInt8),(2:UInt8),(2:UInt8),(3:UInt8),(3:UInt8),(3:UInt8),(3:UInt8),(4:UInt8),(4:UInt8),(4:UInt8),(4:UInt8),(4:UInt8),(4:UInt8),(4:UInt8),(4:UInt8),(5:UInt8),(5:UInt8),(5:UInt8),(5:UInt8),(5:UInt8),(5:UInt8),(5:UInt8),(5:UInt8),(5:UInt8),(5:UInt8),(5:UInt8),(5:UInt8),(5:UInt8),(5:UInt8),(5:UInt8),(5:UInt8),(6:UInt8),(6:UInt8),(6:UInt8),(6:UInt8),(6:UInt8),(6:UInt8),(6:UInt8),(6:UInt8),(6:UInt8),(6:UInt8),(6:UInt8),(6:UInt8),(6:UInt8),(6:UInt8),(6:UInt8),(6:UInt8),(6:UInt8),(6:UInt8),(6:UInt8),(6:UInt8),(6:UInt8),(6:UInt8),(6:UInt8),(6:UInt8),(6:UInt8),(6:UInt8),(6:UInt8),(6:UInt8),(6:UInt8),(6:UInt8),(6:UInt8),(6:UInt8),(7:UInt8),(7:UInt8),(7:UInt8),(7:UInt8),(7:UInt8),(7:UInt8),(7:UInt8),(7:UInt8),(7:UInt8),(7:UInt8),(7:UInt8),(7:UInt8),(7:UInt8),(7:UInt8),(7:UInt8),(7:UInt8),(7:UInt8),(7:UInt8),(7:UInt8),(7:UInt8),(7:UInt8),(7:UInt8),(7:UInt8),(7:UInt8),(7:UInt8),(7:UInt8),(7:UInt8),(7:UInt8),(7:UInt8),(7:UInt8),(7:UInt8),(7:UInt8),(7:UInt8),(7:UInt8),(7:UInt8),(7:UInt8),(7:UInt8),(7:UInt8),(7:UInt8),(7:UInt8),(7:UInt8),(7:UInt8),(7:UInt8),(7:UInt8),(7:UInt8),(7:UInt8),(7:UInt8),(7:UInt8),(7:UInt8),(7:UInt8),(7:UInt8),(7:UInt8),(7:UInt8),(7:UInt8),(7:UInt8),(7:UInt8),(7:UInt8),(7:UInt8),(7:UInt8),(7:UInt8),(7:UInt8),(7:UInt8),(7:UInt8),(7:UInt8),(8:UInt8),(8:UInt8),(8:UInt8),(8:UInt8),(8:UInt8),(8:UInt8),(8:UInt8),(8:UInt8),(8:UInt8),(8:UInt8),(8:UInt8),(8:UInt8),(8:UInt8),(8:UInt8),(8:UInt8),(8:UInt8),(8:UInt8),(8:UInt8),(8:UInt8),(8:UInt8),(8:UInt8),(8:UInt8),(8:UInt8),(8:UInt8),(8:UInt8),(8:UInt8),(8:UInt8),(8:UInt8),(8:UInt8),(8:UInt8),(8:UInt8),(8:UInt8),(8:UInt8),(8:UInt8),(8:UInt8),(8:UInt8),(8:UInt8),(8:UInt8),(8:UInt8),(8:UInt8),(8:UInt8),(8:UInt8),(8:UInt8),(8:UInt8),(8:UInt8),(8:UInt8),(8:UInt8),(8:UInt8),(8:UInt8),(8:UInt8),(8:UInt8),(8:UInt8),(8:UInt8),(8:UInt8),(8:UInt8),(8:UInt8),(8:UInt8),(8:UInt8),(8:UInt8),(8:UInt8),(8:UInt8),(8:UInt8),(8:UInt8),(8:UInt8),(8:UInt8),(8:UInt8),(8:UInt8),(8:UInt8),(8:UInt8),(8:UInt8),(8:UInt8),(8:UInt8),(8:UInt8),(8:UInt8),(8:UInt8),(8:UInt8),(8:UInt8),(8:UInt8),(8:UInt8),(8:UInt8),(8:UInt8),(8:UInt8),(8:UInt8),(8:UInt8),(8:UInt8),(8:UInt8),(8:UInt8),(8:UInt8),(8:UInt8),(8:UInt8),(8:UInt8),(8:UInt8),(8:UInt8),(8:UInt8),(8:UInt8),(8:UInt8),(8:UInt8),(8:UInt8),(8:UInt8),(8:UInt8),(8:UInt8),(8:UInt8),(8:UInt8),(8:UInt8),(8:UInt8),(8:UInt8),(8:UInt8),(8:UInt8),(8:UInt8),(8:UInt8),(8:UInt8),(8:UInt8),(8:UInt8),(8:UInt8),(8:UInt8),(8:UInt8),(8:UInt8),(8:UInt8),(8:UInt8),(8:UInt8),(8:UInt8),(8:UInt8),(8:UInt8),(8:UInt8),(8:UInt8),(8:UInt8),(8:UInt8),(8:UInt8)]
theorem YM:∀m:Fin 256,((yg (xL.getD m.val 0):Nat):Int)=E7 (m.val:Int)/\zc .u8 (m.val:Int)=(m.val:Int)/\E7 (m.val:Int)<=8/\0<=E7 (m.val:Int):=by decide+kernel
theorem MX{ACC:Int}(a z x:Nat)(hA:ACC=a)(ha:a<=64)(hz:z<256)(hx:E7 (x:Int)=(a:Int)+E7 (z:Int)):zc .i64 (ACC+zc .i64 ((yg (xL.getD (qz (zc .u8 (z:Int))) 0):Nat):Int))=E7 x:=by
 obtain⟨e1,e2,e3,e4⟩:=YM ⟨z,hz⟩;have e1:((yg (xL.getD z 0):Nat):Int)=E7 (z:Int):=e1;have e2:zc .u8 (z:Int)=(z:Int):=e2;have e3:E7 (z:Int)<=8:=e3;have e4:0<=E7 (z:Int):=e4;rw[e2,zl,e1,hA,hx,wr (E7 (z:Int)) (by omega) (by omega),wr _ (by omega) (by omega)]
theorem tA(z:Nat)(hz:z<256):(decide ((0:Sh.T (zh q9))<=zc q9 (z:Int))&&decide (zc q9 (z:Int)<(↑(256:Nat):Int)))=true:=by
 obtain⟨_,e2,_,_⟩:=YM ⟨z,hz⟩;have e2:zc .u8 (z:Int)=(z:Int):=e2;rw[e2];exact Aa (w4 (show(0:Int)<=(z:Int)by omega)) (w4 (by omega))
namespace T244
set_option maxHeartbeats 1000000 in
set_option maxRecDepth 100000 in
theorem ok:Ag Bi 244 WM:=by
 refine Cc Jf (fun(x:Int) hx=>?_);have hx:=Sp.A2 (n:=x) hx;obtain⟨x,rfl⟩:=zp hx.1;refine yj (An (x:Int)) ?_;conv=>zeta
 conv=>zeta
 rw[xX x 32,xX x 16,xX x 8,xX (x/2^32) 16,xX (x/2^32) 8,xX (x/2^32/2^16) 8,xX (x/2^16) 8];have l32:=Oi x 32;have l16:=Oi x 16;have l8:=Oi x 8;have l3216:=Oi (x/2^32) 16;have l328:=Oi (x/2^32) 8;have l32168:=Oi (x/2^32/2^16) 8;have l168:=Oi (x/2^16) 8;refine zk (fun c1=>ze rfl (zk (fun c2=>ze rfl (zk (fun c3=>ze rfl (ze (tA _ ?_) (zi (zy rfl rfl (MX 56 _ x (by decide+kernel) (by decide) ?_ ?_))))) (fun c3=>ze (tA _ ?_) (zi (zy rfl rfl (MX 48 _ x (by decide+kernel) (by decide) ?_ ?_)))))) (fun c2=>zk (fun c3=>ze rfl (ze (tA _ ?_) (zi (zy rfl rfl (MX 40 _ x (by decide+kernel) (by decide) ?_ ?_))))) (fun c3=>ze (tA _ ?_) (zi (zy rfl rfl (MX 32 _ x rfl (by decide) ?_ ?_))))))) (fun c1=>zk (fun c2=>ze rfl (zk (fun c3=>ze rfl (ze (tA _ ?_) (zi (zy rfl rfl (MX 24 _ x (by decide+kernel) (by decide) ?_ ?_))))) (fun c3=>ze (tA _ ?_) (zi (zy rfl rfl (MX 16 _ x (by decide+kernel) (by decide) ?_ ?_)))))) (fun c2=>zk (fun c3=>ze rfl (ze (tA _ ?_) (zi (zy rfl rfl (MX 8 _ x (by decide+kernel) (by decide) ?_ ?_))))) (fun c3=>ze (tA _ ?_) (zi (zy rfl rfl (MX 0 _ x rfl (by decide) ?_ ?_))))));all_goals
  first
   |replace c1:=w6 c1
   |replace c1:=w7 c1
  first
   |replace c2:=w6 c2
   |replace c2:=w7 c2
  first
   |replace c3:=w6 c3
   |replace c3:=w7 c3
  omega
end T244
theorem qM:Ey XD1:=Ab T244.ok AU
theorem Sb{n:Int}(h1:0<=n)(h2:n<18446744073709551616):0<=Sp.E7 n/\Sp.E7 n<=64:=by
 unfold Sp.E7;split
 ·omega
 ·have:n.toNat.log2<64:=(Nat.log2_lt (by omega)).2 (by omega);omega
namespace T256
theorem ok:Ag Bi 256 cLZ:=by
 refine Cc qM (fun(x:Int) hx=>?_);have h:=Sp.A2 (n:=x) hx;have hl:=Sb h.1 h.2;refine yj (An x) (ze hx (zi (zy rfl rfl ?_)));show zc .i64 (64-Sp.E7 x)=Sp.lz x;unfold Sp.lz;exact wr _ (by omega) (by omega)
end T256
theorem bN:Ag Bi 255 RJ:=T255.ok T256.ok
end Go.Pe
namespace Go.Sp
def R0(a b:List Int):Bool:=Cf a&&Cf b&&decide (a.length<=9000)&&decide (b.length<=9000)&&decide (0<Am b)
end Go.Sp
namespace Go.Pe
open Sp
open Go.Det
def Gw:Ap:=⟨[Dq,Dq],fun i=>R0 i.1 i.2,[Dq,Dq],fun i=>(Bw (Am i.1/Am i.2),Bw (Am i.1 % Am i.2)),false⟩
def JA:A6:=X7 [(199,YE),(218,Xe),(187,S7),(217,Wy),(233,WG),(255,RJ),(256,cLZ)]
end Go.Pe
namespace Go.Sp
def HL(c:UInt8):Int:=(c.toNat:Int)-48
def BT(c:UInt8):Bool:=decide (48<=c.toNat)&&decide (c.toNat<=57)
def AB(n:Int):List UInt8->Int
 |[]=>n
 |c::r=>AB (10*n+HL c) r
def Aj(s:List UInt8):Bool:=s.all BT
theorem CP:∀(n:Int) (a b:List UInt8),AB n (a++b)=AB (AB n a) b
 |_,[],_=>rfl
 |n,c::a,b=>by rw[qn,AB,AB,CP]
theorem EE:∀(s:List UInt8) (n:Int),AB n s=n*10^s.length+AB 0 s
 |[],n=>by simp[AB]
 |c::s,n=>by
  rw[AB,AB,EE s (10*n+HL c),EE s (10*0+HL c),List.length_cons,qe,z6,qp,qt,ya 10 n,zr,ya 10 (10^s.length),ql]
theorem C3{c:UInt8}(h:BT c=true):0<=HL c/\HL c<=9:=by
 unfold BT at h;rw[zf,w5,w5]at h;unfold HL;omega
theorem Be:∀ {s:List UInt8},Aj s=true->0<=AB 0 s/\AB 0 s<10^s.length
 |[],_=>by simp[AB]
 |c::s,h=>by
  unfold Aj at h;rw[List.all_cons,zf]at h;have a:=C3 h.1;have b:=Be (s:=s) h.2;have hp:=AO (show(0:Int)<10 by decide) s.length;have c1:=zt a.1 (yn hp);have c2:=zj a.2 (yn hp);rw[AB,EE,List.length_cons,qe,qp,qt,ya (10^s.length) 10];omega
theorem Bh{s:List UInt8}(h:Aj s=true)(i:Nat):Aj (s.take i)=true:=by
 unfold Aj at h ⊢;rw[y8]at h ⊢;exact fun x hx=>h x (List.mem_of_mem_take hx)
theorem BY{s:List UInt8}(h:Aj s=true)(i:Nat):Aj (s.drop i)=true:=by
 unfold Aj at h ⊢;rw[y8]at h ⊢;exact fun x hx=>h x (List.mem_of_mem_drop hx)
def AR(s:List UInt8):Bool:=decide (s≠[])&&Aj s&&(decide (s.getD 0 0≠48)||decide (s=[48]))
def Hu(a b:AT):AT:=if vI a<0/\Ae (vI a) % vI b≠0 then Ni (CI (-(Ae (vI a)/vI b))) (1,[])else CI (sg (decide (vI a<0)) (Ae (vI a)/vI b))
def tZ(a b:AT):Int:=(Hu a b).1
def uJ(a b:AT):List Int:=(Hu a b).2
def Xn(a b:AT):Int:=CE (vI a % vI b)
def Xk(a b:AT):List Int:=CC (vI a % vI b)
def gI(a b:Int):Int:=if a<0 then -(-(Int.gcd a b:Int))else(Int.gcd a b:Int)
theorem FA(a b:Int):gI a b=(Int.gcd a b:Int):=by unfold gI;split<;>omega
def M5(a b:AT):Int:=CE (gI (vI a) (vI b))
def ML(a b:AT):List Int:=CC (gI (vI a) (vI b))
def pI(a k:Int):Int:=if k<0 then -(-(a^k.toNat))else a^k.toNat
theorem RO(a k:Int):pI a k=a^k.toNat:=by unfold pI;split<;>omega
def dC(a k:Int):Bool:=decide (0<=k)&&decide (k<=100000)&&decide (Ae (pI a k)<(18446744073709551616:Int)^(4000:Nat))
def Va(a:AT)(k:Int):Int:=CE (pI (vI a) k)
def Uy(a:AT)(k:Int):List Int:=CC (pI (vI a) k)
def Ca(n:Int):List Int:=if n<0 then[]else[]
theorem Ek(n:Int):Ca n=[]:=by unfold Ca;split<;>rfl
def Ck(s:List UInt8):Int:=if s.getD 0 0=45 then -AB 0 (s.drop 1)else AB 0 s
def El(s:List UInt8):Bool:=decide (s.length<=5999)&&(if s.getD 0 0=45 then Aj (s.drop 1)else Aj s)
def Dr(s:List UInt8):Int:=CE (Ck s)
def Dg(s:List UInt8):List Int:=CC (Ck s)
end Go.Sp
namespace Go.Pe
open Sp
open Go.Det
def GR:Ap:=⟨[BN,BN],fun i=>Bc i.1&&Bc i.2&&decide (0<zg i.2),[BN,BN],fun i=>((tZ i.1 i.2,uJ i.1 i.2),(Xn i.1 i.2,Xk i.1 i.2)),false⟩
def Yi:Ap:=⟨[BN,BN],fun i=>Bc i.1&&Bc i.2,[BN],fun i=>(M5 i.1 i.2,ML i.1 i.2),false⟩
def gL:Ap:=⟨[BN,i64],fun i=>Bc i.1&&dC (zg i.1) i.2,[BN],fun i=>(Va i.1 i.2,Uy i.1 i.2),false⟩
def N8:Ap:=⟨[.str],fun s=>El s,[BN],fun s=>(Dr s,Dg s),false⟩
def Zv:Ap:=⟨[i64],fun _=>true,[BN],fun n=>(n,Ca n),false⟩
def yN:A6:=aY [(197,[9,10])] [] [(197,[(9,[3,4,5,8,12,13]),(10,[3,4,5,14,15])])] [(121,Zv),(221,Gw),(189,Pv),(190,eA),(175,bU),(146,Pz),(137,JU)]
def XF0:A6:=X7 []
def zJ:A6:=X7 [(197,GR),(196,tL),(137,JU)]
def yR:A6:=X7 [(121,Zv),(136,Re)]
end Go.Pe
namespace Go.Sp
abbrev B9:Nat:=1000000000
def JO(l:List Int):Bool:=decide (l.length<=20000)&&l.all fun d=>decide (0<=d)&&decide (d<1000000000)
def hR(l:List Int):Bool:=JO l&&decide (l.length<=9000)
def A9(l:List Int):Bool:=JO l&&wJ l
def At(l:List Int):Int:=val B9 l
def BV(n:Int):List Int:=dg B9 n
def rN(n:Int):Bool:=decide (n<0)
def rW(n:Int):List Int:=BV (Ae n)
def Cg(neg:Bool)(w:List Int):Bool:=neg&&decide (Av w≠[])
def D0(s:List UInt8):Bool:=decide (s.length<=18)&&Aj s
def BB(s:List UInt8):Int:=AB 0 s
def Fg(s:List UInt8):Bool:=rN (Ck s)
def Fe(s:List UInt8):List Int:=rW (Ck s)
def Cr(a b:List Int):List Int:=BV (gI (At a) (At b))
end Go.Sp
namespace Go.Pe
open Sp
open Go.Det
abbrev li:Sh:=.list i64
abbrev JC:Sh:=.pair .bool li
def SS:Ap:=⟨[li],fun l=>decide (qc (α:=Int) l<=20000),[li],fun l=>Av l,false⟩
def Ig:Ap:=⟨[.bool,li],fun i=>decide (qc (α:=Int) i.2<=20000),[JC],fun i=>(Cg i.1 i.2,Av i.2),false⟩
def YA:Ap:=⟨[li,li],fun i=>A9 i.1&&A9 i.2,[i64],fun i=>Co (At i.1) (At i.2),false⟩
def XH:Ap:=⟨[li,li],fun i=>Sp.hR i.1&&Sp.hR i.2,[li],fun i=>BV (At i.1*At i.2),false⟩
def VQ:Ap:=⟨[li,i64],fun i=>JO i.1&&decide (0<(i.2:Int))&&decide ((i.2:Int)<1000000000),[li,i64],fun i=>(BV (At i.1/i.2),At i.1 % i.2),false⟩
def QF:Ap:=⟨[li,li],fun i=>A9 i.1&&A9 i.2&&decide (qc (α:=Int) i.1<=9000)&&decide (qc (α:=Int) i.2<=9000)&&decide (0<At i.2),[li,li],fun i=>(BV (At i.1/At i.2),BV (At i.1 % At i.2)),false⟩
def K3:Ap:=⟨[li,li],fun i=>A9 i.1&&A9 i.2&&decide (qc (α:=Int) i.1<=9000)&&decide (qc (α:=Int) i.2<=9000),[li],fun i=>Cr i.1 i.2,false⟩
def SI:Ap:=⟨[.str],fun s=>D0 s,[i64],fun s=>BB s,false⟩
def RG:Ap:=⟨[.str],fun s=>El s,[JC],fun s=>(Fg s,Fe s),false⟩
def lG:A6:=X7 []
def aW:A6:=X7 [(202,SS)]
def LR:A6:=X7 [(161,YA),(202,SS),(201,VQ),(163,XH)]
def XG3:A6:=X7 [(157,QF)]
def bC:A6:=X7 [(151,SI),(159,Ig)]
end Go.Pe
namespace Go.Sp
def Dv:List UInt8:=[48,49,50,51,52,53,54,55,56,57]
def YS(o:List Bool):List Bool:=(List.range 256).map fun j=>o.getD j false
def sQ:List Bool:=zm 256 false
def O9(s:List UInt8):List UInt8:=((s.reverse.dropWhile BT).reverse).dropWhile BT
def Oa(s:List UInt8)(c:Int):Int:=match s.findIdx? (fun x=>x==c.toNat.toUInt8)with
 |some i=>(i:Int)
 |none=> -1
def Ay(s:List UInt8):List UInt8:=match s.findIdx? (fun x=>x==47)with
 |some i=>s.take i
 |none=>s
def AN(s:List UInt8):List UInt8:=match s.findIdx? (fun x=>x==47)with
 |some i=>s.drop (i+1)
 |none=>[]
def Bs(s:List UInt8):Bool:=s.any (fun x=>x==47)
def AZ(s:List UInt8):List UInt8:=if s.getD 0 0=45 then s.drop 1 else s
def preB(s:List UInt8):Bool:=decide (s.getD 0 0=45)
def sP(s t:List UInt8):Bool:=decide (t=Dv)&&decide (s.length<=1000000)
def uR(s t:List UInt8):Bool:=decide (t=[47])&&decide (s.length<=1000000)
def Sm(s t:List UInt8):Bool:=decide (t=[45])&&decide (s.length<=1000000)
end Go.Sp
namespace Go.Pe
open Sp
open Go.Det
def WH:Ap:=⟨[.str,.str],fun i=>sP i.1 i.2,[.str],fun i=>O9 i.1,false⟩
def tG:Ap:=⟨[.str,.int .u8],fun i=>decide (0<=(i.2:Int))&&decide ((i.2:Int)<256),[i64],fun i=>Oa i.1 i.2,false⟩
def jL:Ap:=⟨[.str,.str],fun i=>uR i.1 i.2,[.str,.str,.bool],fun i=>(Ay i.1,Sp.AN i.1,Bs i.1),false⟩
def tM:Ap:=⟨[.str,.str],fun i=>Sm i.1 i.2,[.str,.bool],fun i=>(AZ i.1,Sp.preB i.1),false⟩
def V7:Ap:=⟨[.str],fun s=>decide (s.length<=1000000),[.bool],fun s=>AR s,false⟩
def NQ:A6:=X7 []
def Y6:A6:=X7 [(231,⟨[.str,.str],fun _=>false,[.str],fun i=>i.1,false⟩),(232,⟨[.str,.str],fun _=>false,[.str],fun i=>i.1,false⟩),(226,⟨[.str,.int .u8],fun _=>false,[.str],fun i=>i.1,false⟩),(227,⟨[.str,.int .u8],fun _=>false,[.str],fun i=>i.1,false⟩)]
def XH1:A6:=X7 [(195,WH)]
def XH2:A6:=X7 [(274,tG)]
def Qk:A6:=X7 [(121,Zv),(185,gL),(136,Re),(146,Pz),(171,Vh),(249,⟨[.str,i64,i64],fun _=>false,[i64],fun _=>(0:Int),false⟩),(216,⟨[.str],fun _=>false,[i64],fun _=>(0:Int),false⟩)]
end Go.Pe
namespace Go.Sp
def Gi(a:List UInt8):Bool:=AR (Ay (AZ a))&&(!preB a||decide (Ay (AZ a)≠[48]))&&(!Bs (AZ a)||(AR (AN (AZ a))&&decide (AN (AZ a)≠[48])&&decide (AN (AZ a)≠[49])))
def sJ(a:List UInt8):Int:=AB 0 (Ay (AZ a))
def mT(a:List UInt8):Int:=AB 0 (AN (AZ a))
def Az(a:List UInt8):Int:=if Gi a=false then 1 else if 600<(Ay (AZ a)).length\/600<(AN (AZ a)).length then 4 else if Bs (AZ a)=true/\gI (sJ a) (mT a)≠1 then 1 else 0
def AY(s:List UInt8):Int:=((Ay s).length:Int)
def Da(a:List UInt8):Bool:=El (Ay a)&&El (AN a)&&decide (a.length<=5999)
def A8(a:List UInt8):Int:=Ck (Ay a)
def AI(a:List UInt8):Int:=if Bs a=true then Ck (AN a)else 1
def BE(a:List UInt8):Bool:=rN (A8 a)
def Bv(a:List UInt8):List Int:=rW (A8 a)
def Bn(a:List UInt8):Bool:=rN (AI a)
def Bf(a:List UInt8):List Int:=rW (AI a)
end Go.Sp
namespace Go.Pe
open Sp
open Go.Det
def Gr:Ap:=⟨[.str],fun s=>decide (s.length<=1000000),[i64],fun s=>Az s,false⟩
def OP:Ap:=⟨[.str],fun s=>decide (s.length<=1000000),[i64],fun s=>AY s,false⟩
def Sv:Ap:=⟨[.str],fun s=>decide (s.length<=9223372036854775807),[i64],fun s=>Az s,false⟩
def YC:Ap:=⟨[.str],fun s=>decide (s.length<=9223372036854775807),[i64],fun s=>AY s,false⟩
def SE:Ap:=⟨[.str],fun s=>decide (s.length<=9223372036854775807),[.bool],fun s=>AR s,false⟩
def Lv:Ap:=⟨[i64],fun n=>CM n,[JC],fun n=>(Sp.rN n,Sp.rW n),false⟩
def Th:Ap:=⟨[.str],fun s=>Da s,[JC,JC],fun s=>((BE s,Bv s),(Bn s,Bf s)),false⟩
def Mt:A6:=aY [(69,[4,6,7,9,10])] [] [(69,[(4,[5,6,7,8]),(6,[5,6,7,8]),(7,[5,6,7,9]),(9,[5,6,7]),(10,[10])])] [(142,J0),(143,QX),(140,tM),(131,jL),(141,V7),(144,Yi),(132,N8),(120,gT),(121,Zv)]
def tU:A6:=X7 [(159,Ig)]
def XK3:A6:=X7 [(127,OP),(155,RG),(152,Lv)]
def UZ:A6:=aY [(51,[4,7,9,11,13,14])] [] [(51,[(4,[0,3]),(7,[3,4]),(9,[3,4]),(11,[3,4]),(13,[5,6]),(14,[7])])] [(127,YC),(128,SE),(82,Th),(129,K3)]
end Go.Pe
namespace Go.Sp
abbrev Al:=(Int×List Int)×(Int×List Int)
def U0(a:AT):Bool:=Dp a&&decide (a.2.length<=4000)
def EZ(a:Al):Bool:=U0 a.1&&U0 a.2
def Mv(a:List UInt8):Int:=CE (A8 a)
def PH(a:List UInt8):List Int:=CC (A8 a)
def JY(a:List UInt8):Int:=CE (AI a)
def L0(a:List UInt8):List Int:=CC (AI a)
def iQ(a b:AT):AT:=if vI b<0 then Hu (De a) (De b)else Hu a b
def iQS(a b:AT):Int:=(iQ a b).1
def iQW(a b:AT):List Int:=(iQ a b).2
def CR(d:AT):Bool:=decide (d.2=[])&&decide (d.1=1)
def gR(n d:AT):AT:=(M5 n d,ML n d)
def Ng(n d:AT):Al:=if CR d=true then(n,d)else(iQ n (gR n d),iQ d (gR n d))
def Xs(n d:AT):Al:=if vI d<0 then Ng (De n) (De d)else Ng n d
def fWh(n:AT):Al:=(n,(1,Ca 1))
def Ge(a b:Al):Al:=if CR a.2=true/\CR b.2=true then fWh (EC a.1 b.1)else Xs (EC (F6 a.1 b.2) (F6 b.1 a.2)) (F6 a.2 b.2)
def Ha(a b:Al):Al:=Xs (F6 a.1 b.1) (F6 a.2 b.2)
def xU(a:Al):Al:=(De a.1,a.2)
def Gc(a b:Al):Al:=Ge a (xU b)
def Tt(a:Al):Al:=Xs a.2 a.1
def HJ(a b:Al):Al:=Ha a (Tt b)
def nS(f:Al):Int:=f.1.1
def nW(f:Al):List Int:=f.1.2
def dS(f:Al):Int:=f.2.1
def dW(f:Al):List Int:=f.2.2
def W1(n d:AT):Int:=nS (Xs n d)
def VS(n d:AT):List Int:=nW (Xs n d)
def VN(n d:AT):Int:=dS (Xs n d)
def Wf(n d:AT):List Int:=dW (Xs n d)
def Lp(a b:Al):Int:=nS (Ge a b)
def KQ(a b:Al):List Int:=nW (Ge a b)
def Kn(a b:Al):Int:=dS (Ge a b)
def KR(a b:Al):List Int:=dW (Ge a b)
def eP(a b:Al):Int:=nS (Gc a b)
def fT(a b:Al):List Int:=nW (Gc a b)
def gZ(a b:Al):Int:=dS (Gc a b)
def eG(a b:Al):List Int:=dW (Gc a b)
def K5(a b:Al):Int:=nS (Ha a b)
def Lz(a b:Al):List Int:=nW (Ha a b)
def KK(a b:Al):Int:=dS (Ha a b)
def Kt(a b:Al):List Int:=dW (Ha a b)
def AaD(a:Al):Int:=nS (Tt a)
def Aau(a:Al):List Int:=nW (Tt a)
def AaP(a:Al):Int:=dS (Tt a)
def yY(a:Al):List Int:=dW (Tt a)
def T8(a b:Al):Int:=nS (HJ a b)
def Vl(a b:Al):List Int:=nW (HJ a b)
def U9(a b:Al):Int:=dS (HJ a b)
def Uc(a b:Al):List Int:=dW (HJ a b)
def BL(a:Al):Bool:=EZ a&&decide (0<vI a.2)
def Mc(n d:AT):Bool:=Bc n&&Bc d&&decide (vI d≠0)
end Go.Sp
namespace Go.Pe
open Sp
open Go.Det
abbrev Bj:Sh:=.pair BN BN
def kC:Ap:=⟨[.str],fun s=>Da s,[Bj],fun s=>((Mv s,PH s),(JY s,L0 s)),false⟩
def cIQ:Ap:=⟨[BN,BN],fun i=>Mc i.1 i.2,[BN],fun i=>(Sp.iQS i.1 i.2,Sp.iQW i.1 i.2),false⟩
def uF:Ap:=⟨[BN,BN],fun i=>Mc i.1 i.2,[Bj],fun i=>((W1 i.1 i.2,VS i.1 i.2),(VN i.1 i.2,Wf i.1 i.2)),false⟩
def OC:Ap:=⟨[Bj],fun _=>true,[.bool],fun a=>CR (a:Al).2,false⟩
def cT:Ap:=⟨[BN],fun _=>true,[Bj],fun n=>((n:AT),((1:Int),Ca 1)),false⟩
def cF:Ap:=⟨[i64],fun _=>true,[Bj],fun n=>(((n:Int),Ca n),((1:Int),Ca 1)),false⟩
def tC:Ap:=⟨[Bj],fun a=>yk (a:Al).1,[Bj],fun a=>((Ef (a:Al).1,Em (a:Al).1),((a:Al).2.1,(a:Al).2.2)),false⟩
def UR:Ap:=⟨[Bj,Bj],fun i=>Sp.BL (i.1:Al)&&Sp.BL (i.2:Al),[Bj],fun i=>((Lp i.1 i.2,KQ i.1 i.2),(Kn i.1 i.2,KR i.1 i.2)),false⟩
def fF:Ap:=⟨[Bj,Bj],fun i=>Sp.BL (i.1:Al)&&Sp.BL (i.2:Al),[Bj],fun i=>((eP i.1 i.2,fT i.1 i.2),(gZ i.1 i.2,eG i.1 i.2)),false⟩
def YL:Ap:=⟨[Bj,Bj],fun i=>Sp.BL (i.1:Al)&&Sp.BL (i.2:Al),[Bj],fun i=>((K5 i.1 i.2,Lz i.1 i.2),(KK i.1 i.2,Kt i.1 i.2)),false⟩
def tK:Ap:=⟨[Bj],fun a=>Sp.BL (a:Al)&&decide (zg (a:Al).1≠0),[Bj],fun a=>((AaD a,Aau a),(AaP a,yY a)),false⟩
def tS:Ap:=⟨[Bj,Bj],fun i=>Sp.BL (i.1:Al)&&Sp.BL (i.2:Al)&&decide (zg (i.2:Al).1≠0),[Bj],fun i=>((T8 i.1 i.2,Vl i.1 i.2),(U9 i.1 i.2,Uc i.1 i.2)),false⟩
def sV:A6:=aY [(186,[3])] [] [(186,[(3,[2,3,4])])] [(137,JU),(171,Vh),(197,GR),(144,Yi),(121,Zv),(146,Pz),(136,Re),(120,gT),(131,jL),(132,N8)]
def xG:A6:=aY [(135,[3,6])] [] [(135,[(3,[2,3,4]),(6,[2,3,4,5])])] [(137,JU),(171,Vh),(144,Yi),(186,cIQ)]
def vN:A6:=aY [(71,[3])] [] [(71,[(3,[2,3,4])])] [(145,OC),(130,cT),(146,Pz),(136,Re),(135,uF)]
def XA3:A6:=X7 [(134,tC),(71,UR),(64,YL),(133,tK)]
end Go.Pe
namespace Go.Sp
def SZ(a:List UInt8):List UInt8:=if Bs a=true then AN a else[49]
def C9(a:List UInt8)(n:Int):Bool:=decide ((a.length:Int)<=2*n+2)&&decide (Az a=0)&&decide (((AZ (Ay a)).length:Int)<=n)&&decide (((SZ a).length:Int)<=n)
end Go.Sp
namespace Go.Pe
open Go.Det
def iL:Ap:=⟨[.str,i64],fun i=>decide (0<=(i.2:Int))&&decide ((i.2:Int)<=1000),[.bool],fun i=>Sp.C9 i.1 i.2,false⟩
def YI:Ap:=⟨[.str],fun s=>decide (s.length<=1000000),[.str],fun s=>Sp.AZ s,false⟩
def iN:Ap:=⟨[.str],fun s=>decide (s.length<=1000000),[.str],fun s=>Sp.Ay s,false⟩
def XS:Ap:=⟨[.str],fun s=>decide (s.length<=1000000),[.str],fun s=>Sp.SZ s,false⟩
def XM5:A6:=X7 [(127,OP)]
def XM3:A6:=X7 [(51,Gr),(52,YI),(53,iN),(54,XS)]
end Go.Pe
