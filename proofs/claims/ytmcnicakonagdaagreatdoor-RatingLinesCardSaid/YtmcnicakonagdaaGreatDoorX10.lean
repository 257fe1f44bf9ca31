import Derived.Test.YtmcnicakonagdaaGreatDoorX01
import Derived.Test.YtmcnicakonagdaaGreatDoorX09
import Derived.Lib.Mul64
/- A part of a proof (no law is stated here). Made by program out of texts by AI agents. -/
noncomputable section
open Go.IntKind renaming wrap -> zc, u64 -> zd, i64 -> yt, wrap_i64 -> qo, u8 -> q9
open Go.Pe.Ends renaming tt -> ze, leaf -> zi, ite -> zk, eq -> yj, ff -> yo, Ap -> yq
open Bool renaming and_eq_true -> zf, true_and -> yf, false_eq_true -> qi, or_eq_true -> qu
open Go.Sp renaming vI -> zg, u64 -> zq, val -> z8, Db -> yk, sg -> qh, hW -> jc
open Go.Pe.Sh renaming int -> zh, list -> zx, nlist -> z7, pair -> yy
open Int renaming mul_le_mul_of_nonneg_right -> zj, toNat_natCast -> zl, fdiv -> zn, eq_ofNat_of_zero_le -> zp, mul_assoc -> zr, mul_nonneg -> zt, lt_or_le -> zz, add_mul -> z6, mul_comm -> ya, mul_add -> yc, mul_le_mul_of_nonneg_left -> yd, lt_of_le_of_lt -> yh, fdiv_eq_ediv_of_nonneg -> yi, le_of_lt -> yn, one_mul -> yp, natCast_pow -> yr, natCast_mul -> yx, tdiv -> yz, natCast_add -> qd, pow_succ -> qe, tdiv_eq_ediv_of_nonneg -> qj, add_assoc -> ql, mul_zero -> qp, zero_add -> qt, ediv_nonneg -> qw, mul_sub -> qx, toNat -> qz
open List renaming replicate -> zm, getD_eq_getElem?_getD -> zo, take_of_length_le -> zw, getElem?_eq_getElem -> yb, take_length -> yu, drop_eq_getElem_cons -> yv, getElem?_eq_none -> y7, all_eq_true -> y8, length -> qc, append_assoc -> qk, cons_append -> qn
open Nat renaming add -> zu, mod_eq_of_lt -> qm, two_pow_pos -> qv, pow_add -> qy
open Go.Pe.Ad renaming of -> zy
open BitVec renaming ofInt -> ye, ofInt_natCast -> y9, toNat_ofNat -> qf
open UInt8 renaming toNat -> yg
open Go.Pe.PV renaming agg -> yw
open Go.Lib renaming half_mul_le -> qg
open Min renaming min -> qq
namespace Go.Sp
theorem AD(b:Int):∀(l:List Int) (i:Nat),val b (l.take (i+1))=val b (l.take i)+b^i*l.getD i 0
 |[],i=>by simp[val]
 |x::l,0=>by
  show x+b*val b (l.take 0)=0+b^0*x;simp[val]
 |x::l,i+1=>by
  have:=AD b l i;show x+b*val b (l.take (i+1))=x+b*val b (l.take i)+b^(i+1)*l.getD i 0;rw[this,yc,qe,ya (b^i) b,zr,ql]
theorem Iw{l:List Int}(h:CM l=true):l.length<=20000/\Av Ai l:=by
 unfold CM at h;rw[zf,w5,y8]at h;exact⟨h.1,fun d hd=>by
  have:=h.2 d hd;rw[zf,w5,w5]at this;exact this⟩
theorem Ed{l:List Int}(h1:l.length<=20000)(h2:Av Ai l):CM l=true:=by
 unfold CM;rw[zf,w5,y8];exact⟨h1,fun d hd=>by
  have:=h2 d hd;rw[zf,w5,w5];exact this⟩
theorem XR{l:List Int}(h:hW l=true):l.length<=9000/\Av Ai l:=by
 unfold hW at h;rw[zf,w5]at h;exact⟨h.2,(Iw h.1).2⟩
theorem AT{l:List Int}(h:Av Ai l)(i:Nat):u64 (l.getD i 0)=true:=by
 unfold u64;rw[zf,w5,w5];rcases Nat.lt_or_ge i l.length with hi|hi
 ·have:l.getD i 0∈l:=by rw[zo,yb hi];exact List.getElem_mem hi
  exact h _ this
 ·rw[zo,y7 hi];exact⟨by decide,by decide⟩
theorem A2{n:Int}(h:u64 n=true):0<=n/\n<18446744073709551616:=by
 unfold u64 at h;rw[zf,w5,w5]at h;exact h
theorem CC{n:Int}(h1:0<=n)(h2:n<18446744073709551616):u64 n=true:=by
 unfold u64;rw[zf,w5,w5];exact⟨h1,h2⟩
theorem DT{l:List Int}{x:Int}(h:Av Ai l)(hx:u64 x=true):Av Ai (l++[x]):=by
 intro d hd;rw[List.mem_append,List.mem_singleton]at hd;rcases hd with hd|rfl
 ·exact h d hd
 ·exact A2 hx
theorem J6{x y c:Int}(hx:u64 x=true)(hy:u64 y=true)(hc:0<=c/\c<=1):u64 (HI x y c)=true/\(0<=PI x y c/\PI x y c<=1)/\HI x y c+18446744073709551616*PI x y c=x+y+c:=by
 have:=A2 hx;have:=A2 hy;unfold HI PI;exact⟨CC (by omega) (by omega),⟨by omega,by omega⟩,by omega⟩
theorem G4{x y c:Int}(hx:u64 x=true)(hy:u64 y=true)(hc:0<=c/\c<=1):u64 (SV x y c)=true/\(0<=P2 x y c/\P2 x y c<=1)/\SV x y c-18446744073709551616*P2 x y c=x-y-c:=by
 have:=A2 hx;have:=A2 hy;unfold SV P2;refine⟨CC (by omega) (by omega),?_,?_⟩<;>split<;>omega
theorem EK(l:List Int)(x:Int):val Ai (l++[x])=val Ai l+(Ai:Int)^l.length*x:=by
 rw[CR];simp[val]
theorem Lp(i:Nat)(c:Int):(Ai:Int)^(i+1)*c=(Ai:Int)^i*(18446744073709551616*c):=by
 rw[qe,zr];rfl
theorem I5(p:List Int)(n i:Nat)(x:Int)(h:p.length=i)(hi:i<n):(p++zm (n-i) (0:Int)).set i x=(p++[x])++zm (n-(i+1)) 0:=by
 have:n-i=(n-(i+1))+1:=by omega
 rw[this,List.replicate_succ,Pe.Dk p _ 0 x h,qk];rfl
theorem Ll{l:List Int}(h:Av Ai l):Au l=Br (Am l):=WO (by decide) h
end Go.Sp
namespace Go.Pe
open Sp
open Go.Det
section
open List Int Prod
namespace T188
def T(n:Int):Tr:=tree aM false 9 188 (Af ([zh yt]) n)
theorem Ak(n:Int):T n=.ite (decide (n<0)) (.leaf (.dat (zh zd) (zc .u64 (zc .i64 (0-n)))) []) (.leaf (.dat (zh zd) (zc .u64 n)) []):=by kernel_rfl
end T188
namespace T189
def T(a:Int×List Int):Tr:=tree Ky false 9 189 (Af ([yy i64 (z7 (zh zd))]) a)
theorem Ak(a:Int×List Int):T a=let a':=z7 (zh zd);let b':=[(0,.box [.dat i64 (fst a),.dat a' (snd a)])];.ite (decide (0<length (snd a))) (.leaf (.tup [.dat Sh.bool (decide (fst a<0)),.dat a' (snd a)]) b') (.ite (fst a==0) (.leaf (.tup [.bl false,.nil]) b') (.ite (CA (fst a)) (.leaf (.tup [.dat Sh.bool (decide (fst a<0)),.sl (zu 0 1) 1 0 1 none]) ([(zu 0 1,.arr false 215 (zh zd) [Ae (fst a)]),(0,.box [.dat i64 (fst a),.dat a' (snd a)])])) .fail)):=by kernel_rfl
end T189
namespace T190
def T(neg:Bool)(w:List Int):Tr:=tree Ky false 9 190 (Af ([Sh.bool,zx (zh zd)]) (neg,w))
theorem Ak(neg:Bool)(w:List Int):T neg w=let c':=zx (zh zd);let e':=zc .i64 (0-zc .i64 (getD w 0 0));let f':=decide (getD w 0 0<=9223372036854775807);let g':=(length w:Int);let h':=zc .i64 (getD w 0 0);let b':Tr:=.ite neg (.leaf (yw [.dat i64 (-1:Int),.dat c' w]) ([(0,.box [.dat i64 (-1:Int),.dat c' w])])) (.leaf (yw [.dat i64 (1:Int),.dat c' w]) ([(0,.box [.dat i64 (1:Int),.dat c' w])]));let d':=decide (0<g');let a':Tr:=.ite (g'==1) (.ite d' (.ite f' (.ite d' (.leaf (yw [.dat i64 h',.nil]) ([(0,.box [.dat i64 h',.nil])])) .fail) b') .fail) b';.ite (g'==0) (.leaf (yw [.dat i64 (0:Int),.nil]) ([(0,.box [.dat i64 (0:Int),.nil])])) (.ite (g'==1) (.ite d' (.ite f' (.ite neg (.ite d' (.leaf (yw [.dat i64 e',.nil]) ([(0,.box [.dat i64 e',.nil])])) .fail) a') a') .fail) a'):=by kernel_rfl
end T190
namespace T218
def T(w:List Int):Tr:=tree aM false 9 218 (Af ([zx (zh zd)]) w)
def L1(v0:List Int)(v3:Int):Tr:=re ((T [])) (AE 21 [(0,.dat (zx (zh zd)) v0),(3,.dat i64 v3)] [] 0)
theorem Ak(w:List Int):T w=L1 w ((length w:Int)):=by kernel_rfl
theorem Ar(v0:List Int)(v3:Int):stepT aM (L1 v0 v3)=let a':Tr:=.ite (decide (0<=v3)&&decide (0<=toNat v3)&&decide (toNat v3<=length v0)) (.leaf (.dat (zx (zh zd)) (take (toNat v3) v0)) []) .fail;let b':=zc .i64 (v3-1);.ite (decide (v3>0)) (.ite (decide (0<=zc .i64 (v3-1))&&decide (zc .i64 (v3-1)<(length v0:Int))) (.ite (getD v0 (toNat b') 0==0) (L1 v0 b') a') .fail) a':=by kernel_rfl
end T218
namespace T199
def T(a b:List Int):Tr:=tree aM false 9 199 (Af ([zx (zh zd),zx (zh zd)]) (a,b))
def L1(v0 v1:List Int)(v5:Int):Tr:=re ((T [] []).R) (AE 41 [(0,.dat (zx (zh zd)) v0),(1,.dat (zx (zh zd)) v1),(5,.dat i64 v5)] [] 0)
theorem Ak(a b:List Int):T a b=let a':=(length a:Int);.ite (a' !=(length b:Int)) (.ite (decide (a'<(length b:Int))) (.leaf (.dat i64 (-1:Int)) []) (.leaf (.dat i64 (1:Int)) [])) (L1 a b (zc .i64 (a'-1))):=by kernel_rfl
theorem Ar(v0 v1:List Int)(v5:Int):stepT aM (L1 v0 v1 v5)=let a':=decide (0<=v5)&&decide (v5<(length v0:Int));let b':=decide (0<=v5)&&decide (v5<(length v1:Int));.ite (decide (v5>=0)) (.ite a' (.ite b' (.ite (getD v0 (toNat v5) 0 !=getD v1 (toNat v5) 0) (.ite a' (.ite b' (.ite (decide (getD v0 (toNat v5) 0<getD v1 (toNat v5) 0)) (.leaf (.dat i64 (-1:Int)) []) (.leaf (.dat i64 (1:Int)) [])) .fail) .fail) (L1 v0 v1 (zc .i64 (v5-1)))) .fail) .fail) (.leaf (.dat i64 (0:Int)) []):=by kernel_rfl
end T199
namespace T198
def T(x y:List Int):Tr:=tree Ky false 9 198 (Af ([zx (zh zd),zx (zh zd)]) (x,y))
def L1(v0 v1:List Int)(v5n:Nat)(v6 v21 v22:Int)(o0:List Int):Tr:=re ((T [] []).L.L) (AE 54 [(0,.dat (zx (zh zd)) v0),(1,.dat (zx (zh zd)) v1),(5,.sl 0 1 0 v5n none),(6,.dat (zh zd) v6),(21,.dat i64 v21),(22,.dat i64 v22)] [(0,.arr false 215 (zh zd) o0)] 1)
theorem Ak(x y:List Int):T x y=let a':=(length x:Int);let b':=(length y:Int);let c':=zc .i64 (b'+1);let d':=zc .i64 (a'+1);.ite (decide (a'<b')) (.ite (decide (0<=zc .i64 (b'+1))&&decide (zc .i64 (b'+1)=zc .i64 (b'+1))&&decide (8*toNat c'<=281474976710656)&&decide (zc .i64 (b'+1)<9223372036854775808)) (L1 y x (toNat c') 0 (b') 0 (replicate (toNat c') 0)) .fail) (.ite (decide (0<=zc .i64 (a'+1))&&decide (zc .i64 (a'+1)=zc .i64 (a'+1))&&decide (8*toNat d'<=281474976710656)&&decide (zc .i64 (a'+1)<9223372036854775808)) (L1 x y (toNat d') 0 (a') 0 (replicate (toNat d') 0)) .fail):=by kernel_rfl
theorem Ar(v0 v1:List Int)(v5n:Nat)(v6 v21 v22:Int)(o0:List Int):stepT Ky (L1 v0 v1 v5n v6 v21 v22 o0)=let a':=getD v0 (toNat v22) 0;let b':=(length v0:Int);let d':=getD v1 (toNat v22) 0;let e':=decide (0<=v22)&&decide (v22<(↑v5n:Int));let f':=decide ((0:Sh.T (BG [u64]))<=v6);let g':=decide (v6<=(1:Sh.T (BG [u64])));let i':=decide (toNat v22<length o0);let j':=decide (v22<(length v1:Int));let k':=zc .i64 (v22+1);let c':=set o0 (toNat b') v6;let h':=decide (0<=v22)&&decide (v22<b');.ite (decide (v22<v21)) (.ite (j') (.ite (decide (0<=v22)&&j') (.ite h' (.ite (zq a'&&zq d'&&f'&&g') (.ite e' (.ite i' (L1 v0 v1 v5n (PI a' d' v6) v21 k' (set o0 (toNat v22) (HI a' d' v6))) .fail) .fail) .fail) .fail) .fail) (.ite h' (.ite (zq a'&&zq 0&&f'&&g') (.ite e' (.ite i' (L1 v0 v1 v5n (PI a' 0 v6) v21 k' (set o0 (toNat v22) (HI a' 0 v6))) .fail) .fail) .fail) .fail)) (.ite (decide (0<=b')&&decide (b'<(↑v5n:Int))) (.ite (decide (toNat b'<length o0)) (.ite (decide (0+v5n<=length c')&&true&&CM (take v5n c')) (.leaf (.dat (zx (zh zd)) (Au (take v5n c'))) ([(0,.arr true 215 (zh zd) c')])) .fail) .fail) .fail):=by kernel_rfl
end T198
namespace T200
def T(x y:List Int):Tr:=tree Ky false 9 200 (Af ([zx (zh zd),zx (zh zd)]) (x,y))
def L1(v0 v1:List Int)(v5n:Nat)(v6 v13 v14:Int)(o0:List Int):Tr:=re ((T [] []).L) (AE 41 [(0,.dat (zx (zh zd)) v0),(1,.dat (zx (zh zd)) v1),(5,.sl 0 1 0 v5n none),(6,.dat (zh zd) v6),(13,.dat i64 v13),(14,.dat i64 v14)] [(0,.arr false 215 (zh zd) o0)] 1)
theorem Ak(x y:List Int):T x y=let a':=(length x:Int);.ite (decide (0<=a')&&decide (a'=a')&&decide (8*toNat a'<=281474976710656)&&decide (a'<9223372036854775808)) (L1 x y (toNat a') 0 (a') 0 (replicate (toNat a') 0)) .fail:=by kernel_rfl
theorem Ar(v0 v1:List Int)(v5n:Nat)(v6 v13 v14:Int)(o0:List Int):stepT Ky (L1 v0 v1 v5n v6 v13 v14 o0)=let a':=getD v0 (toNat v14) 0;let b':=decide (0<=v14)&&decide (v14<(length v0:Int));let c':=getD v1 (toNat v14) 0;let d':=decide (0<=v14)&&decide (v14<(↑v5n:Int));let e':=decide ((0:Sh.T (BG [u64]))<=v6);let f':=decide (v6<=(1:Sh.T (BG [u64])));let g':=decide (toNat v14<length o0);let h':=decide (v14<(length v1:Int));let i':=zc .i64 (v14+1);.ite (decide (v14<v13)) (.ite (h') (.ite (decide (0<=v14)&&h') (.ite b' (.ite (zq a'&&zq c'&&e'&&f') (.ite d' (.ite g' (L1 v0 v1 v5n (P2 a' c' v6) v13 i' (set o0 (toNat v14) (SV a' c' v6))) .fail) .fail) .fail) .fail) .fail) (.ite b' (.ite (zq a'&&zq 0&&e'&&f') (.ite d' (.ite g' (L1 v0 v1 v5n (P2 a' 0 v6) v13 i' (set o0 (toNat v14) (SV a' 0 v6))) .fail) .fail) .fail) .fail)) (.ite (decide (0+v5n<=length o0)&&true&&CM (take v5n o0)) (.leaf (.dat (zx (zh zd)) (Au (take v5n o0))) ([(0,.arr true 215 (zh zd) o0)])) .fail):=by kernel_rfl
end T200
namespace T187
def T(x y:Int):Tr:=tree aM false 9 187 (Af ([zh zd,zh zd]) (x,y))
theorem Ak(x y:Int):T x y=let a':=zc .u64 (zc .u64 (zn x (2^32)*Hk zd y 4294967295)+zn (zc .u64 (Hk zd x 4294967295*Hk zd y 4294967295)) (2^32));.ite true (.ite true (.ite true (.ite true (.ite true (.leaf (.tup [.dat (zh zd) (zc .u64 (zc .u64 (zc .u64 (zn x (2^32)*zn y (2^32))+zn a' (2^32))+zn (zc .u64 (Hk zd a' 4294967295+zc .u64 (Hk zd x 4294967295*zn y (2^32)))) (2^32))),.dat (zh zd) (zc .u64 (x*y))]) []) .fail) .fail) .fail) .fail) .fail:=by kernel_rfl
end T187
namespace T191
def T(x y:List Int):Tr:=tree Ky false 9 191 (Af ([zx (zh zd),zx (zh zd)]) (x,y))
def L1(v1:List Int)(v5n:Nat)(v20:List Int)(v21 v22:Int)(o0:List Int):Tr:=re ((T [] []).L) (AE 80 [(1,.dat (zx (zh zd)) v1),(5,.sl 0 1 0 v5n none),(20,.dat (zx (zh zd)) v20),(21,.dat i64 v21),(22,.dat i64 v22)] [(0,.arr false 215 (zh zd) o0)] 1)
theorem Ak(x y:List Int):T x y=let a':=(length x:Int)+(length y:Int);let b':=zc .i64 a';.ite (decide (0<=zc .i64 a')&&decide (zc .i64 a'=zc .i64 a')&&decide (8*toNat b'<=281474976710656)&&decide (zc .i64 a'<9223372036854775808)) (L1 y (toNat b') x ((length x:Int)) 0 (replicate (toNat b') 0)) .fail:=by kernel_rfl
def L2(v1:List Int)(v5n:Nat)(v6 v7 v8:Int)(v20:List Int)(v21 v22:Int)(v27:List Int)(v28 v29:Int)(o0:List Int):Tr:=re ((stepT Ky (L1 [] 0 [] 0 0 [])).L.L) (AE 80 [(1,.dat (zx (zh zd)) v1),(5,.sl 0 1 0 v5n none),(6,.dat i64 v6),(7,.dat (zh zd) v7),(8,.dat (zh zd) v8),(20,.dat (zx (zh zd)) v20),(21,.dat i64 v21),(22,.dat i64 v22),(27,.dat (zx (zh zd)) v27),(28,.dat i64 v28),(29,.dat i64 v29)] [(0,.arr false 215 (zh zd) o0)] 1)
theorem Ar(v1:List Int)(v5n:Nat)(v20:List Int)(v21 v22:Int)(o0:List Int):stepT Ky (L1 v1 v5n v20 v21 v22 o0)=.ite (decide (v22<v21)) (.ite (decide (0<=v22)&&decide (v22<(length v20:Int))) (L2 v1 v5n v22 (getD v20 (toNat v22) 0) 0 v20 v21 v22 v1 ((length v1:Int)) 0 o0) .fail) (.ite (decide (0+v5n<=length o0)&&true&&CM (take v5n o0)) (.leaf (.dat (zx (zh zd)) (Au (take v5n o0))) ([(0,.arr true 215 (zh zd) o0)])) .fail):=by kernel_rfl
theorem AV(v1:List Int)(v5n:Nat)(v6 v7 v8:Int)(v20:List Int)(v21 v22:Int)(v27:List Int)(v28 v29:Int)(o0:List Int):stepT Ky (L2 v1 v5n v6 v7 v8 v20 v21 v22 v27 v28 v29 o0)=let b':=zc .i64 (v6+v29);let c':=getD v27 (toNat v29) 0;let d':=decide (0<=zc .i64 (v6+v29))&&decide (zc .i64 (v6+v29)<(↑v5n:Int));let e':=v6+(length v1:Int);let g':=decide ((0:Sh.T (BG [u64]))<=0);let h':=decide (0<=(1:Sh.T (BG [u64])));let f':=getD o0 (toNat b') 0;let i':=decide (toNat b'<length o0);let j':=Io v7 c';let a':=HI j' f' 0;.ite (decide (v29<v28)) (.ite (decide (0<=v29)&&decide (v29<(length v27:Int))) (.ite (zq v7&&zq c') (.ite d' (.ite i' (.ite (zq j'&&zq f'&&g'&&h') (.ite (zq a'&&zq v8&&g'&&h') (.ite d' (.ite i' (L2 v1 v5n v6 v7 (zc .u64 (zc .u64 (Q4 v7 c'+PI j' f' 0)+PI a' v8 0)) v20 v21 v22 v27 v28 (zc .i64 (v29+1)) (set o0 (toNat b') (HI a' v8 0))) .fail) .fail) .fail) .fail) .fail) .fail) .fail) .fail) (.ite (decide (0<=zc .i64 e')&&decide (zc .i64 e'<(↑v5n:Int))) (.ite (decide (toNat (zc .i64 e')<length o0)) (L1 v1 v5n v20 v21 (zc .i64 (v22+1)) (set o0 (toNat (zc .i64 e')) v8)) .fail) .fail):=by kernel_rfl
end T191
end
theorem Jb:DQ aM:=fun g sp h=>by cases h
theorem wu(x:Int)(h1:0<=x)(h2:x<=18446744073709551615):zc .u64 x=x:=IntWalk.u64_in x ⟨h1,h2⟩
theorem D4{n:Int}(h:CA n=true): -9223372036854775808<=n/\n<9223372036854775808:=by
 unfold CA at h;rw[zf,w5,w5]at h;exact h
namespace T188
theorem ok:Ag Bf 188 Wb:=by
 refine BY Jb (fun(n:Int) hn=>?_);have hn:=D4 (n:=n) hn;refine yj (Ak n) (zk (fun c=>?_) (fun c=>?_))
 ·have c:=w6 c;refine zi (zy rfl rfl ?_);show zc .u64 (zc .i64 (0-n))=Ae n;simp only[Ah];rcases zz (-9223372036854775808) n with h|h
  ·rw[wr _ (by omega) (by omega),wu _ (by omega) (by omega)];omega
  ·have:n= -9223372036854775808:=by omega
   subst this;decide+kernel
 ·have c:=w7 c;refine zi (zy rfl rfl ?_);show zc .u64 n=Ae n;simp only[Ah];rw[wu _ (by omega) (by omega)];omega
end T188
namespace T218
theorem Aq{Q:PV->Ob->Prop}(w:List Int)(hw:w.length<=20000)(hq:∀ob,Q (.dat Df (Au w)) ob):∀(i:Nat),i<=w.length->Au w=Au (w.take i)->Ends aM (L1 w i) Q
 |0,hi,he=>by
  have he:Au w=[]:=he;rw[he]at hq;refine yq (Ar ..) (yo (by simp) (ze (by simp) (zi (hq _))))
 |i+1,hi,he=>by
  have e1:zc .i64 (((i+1:Nat):Int)-1)=(i:Int):=by rw[wr _ (by omega) (by omega)];omega
  have ht:w.take (i+1)=w.take i++[w.getD i 0]:=by
   rw[List.take_add_one];congr 1;rw[zo,yb (by omega)];rfl
  refine yq (Ar ..) (ze (by simp<;>omega) ?_);rw[e1,zl];refine ze (by simp<;>omega) (zk (fun c=>?_) (fun c=>?_))
  ·have c:w.getD i 0=0:=by simpa using c
   refine Aq w hw hq i (by omega) ?_;rw[he,ht,c,HT]
  ·have c:w.getD i 0≠0:=by simpa using c
   refine ze (by simp;omega) (zi ?_);have:Au w=w.take (i+1):=by rw[he,ht,Iq (X0 c)]
   rw[this]at hq;exact hq _
theorem ok:Ag Bf 218 Wo:=by
 refine BY Jb (fun(w:List Int) hw=>?_);obtain⟨h1,h2⟩:=Iw (l:=w) hw;refine yj (Ak w) (Aq w h1 (fun ob=>zy rfl rfl rfl) w.length (Nat.le_refl _) (by rw[yu]))
end T218
theorem EF{l:List Int}(h:B8 l=true):l.length<=20000/\Av Ai l/\Sp.nz l:=by
 unfold B8 at h;rw[zf]at h;have:=Iw h.1;exact⟨this.1,this.2,by
  have:=h.2;unfold uG at this;have:l.getLast?≠some 0:=w6 this;exact this⟩
namespace T199
theorem Aq{Q:PV->Ob->Prop}(a b:List Int)(ha:Av Ai a)(hb:Av Ai b)(hl:a.length=b.length)(h2:b.length<=20000)(hq:∀ob,Q (.dat i64 (Ci (Am a) (Am b))) ob):∀(i:Nat),i<=a.length->a.drop i=b.drop i->Ends aM (L1 a b ((i:Int)-1)) Q
 |0,hi,he=>by
  have he:a=b:=he;have:Ci (Am a) (Am b)=0:=by rw[he];unfold Ci;simp
  rw[this]at hq;exact yq (Ar ..) (yo (by simp) (zi (hq _)))
 |i+1,hi,he=>by
  have e1:(((i+1:Nat):Int)-1)=(i:Int):=by omega
  have da:a.drop i=a.getD i 0::a.drop (i+1):=by
   rw[zo,yb (by omega)];exact yv (by omega)
  have db:b.drop i=b.getD i 0::a.drop (i+1):=by
   rw[he,zo,yb (by omega)];exact yv (by omega)
  have ga:=Sp.A2 (AT ha i);have gb:=Sp.A2 (AT hb i);rw[e1];refine yq (Ar ..) (ze (by simp) ?_);rw[zl];refine ze (by simp;omega) (ze (by simp;omega) (zk (fun c=>ze (by simp;omega) (ze (by simp;omega) (zk (fun d=>?_) (fun d=>?_)))) (fun c=>?_)))
  ·have d:=w6 d;have:=IE (b:=Ai) (by decide) ha hb da db d;have e:Ci (Am a) (Am b)= -1:=by unfold Ci;exact wd this
   rw[e]at hq;exact zi (hq _)
  ·have d:=w7 d;have c:a.getD i 0≠b.getD i 0:=by simpa using c
   have:=IE (b:=Ai) (by decide) hb ha db da (by omega);have e:Ci (Am a) (Am b)=1:=by
    unfold Ci Am;rw[wc (by omega),wd (by omega)]
   rw[e]at hq;exact zi (hq _)
  ·have c:a.getD i 0=b.getD i 0:=by simpa using c
   rw[wr ((i:Int)-1) (by omega) (by omega)];exact Aq a b ha hb hl h2 hq i (by omega) (by rw[da,db,c])
theorem ok:Ag Bf 199 X8:=by
 refine BY Jb (fun(i:List Int×List Int) hi=>?_);obtain⟨a,b⟩:=i;have hi:(B8 a&&B8 b)=true:=hi;rw[zf]at hi;obtain⟨a1,a2,a3⟩:=EF hi.1;obtain⟨b1,b2,b3⟩:=EF hi.2;have hq:∀ob,Ad X8 (a,b) (.dat i64 (Ci (Am a) (Am b))) ob:=fun ob=>zy rfl rfl rfl
 refine yj (Ak a b) (zk (fun c=>zk (fun d=>?_) (fun d=>?_)) (fun c=>?_))
 ·have d:=w6 d;have e:Ci (Am a) (Am b)= -1:=by unfold Ci;exact wd (En (by decide) a2 b2 b3 (by omega))
  rw[e]at hq;exact zi (hq _)
 ·have d:=w7 d;have c:(a.length:Int)≠b.length:=by simpa using c
  have:=En (b:=Ai) (by decide) b2 a2 a3 (by omega);have e:Ci (Am a) (Am b)=1:=by
   unfold Ci Am;rw[wc (by omega),wd (by omega)]
  rw[e]at hq;exact zi (hq _)
 ·have c:(a.length:Int)=b.length:=by simpa using c
  rw[wr _ (by omega) (by omega)];exact Aq a b a2 b2 (by omega) b1 hq a.length (Nat.le_refl _) (by rw[List.drop_length,show a.length=b.length by omega,List.drop_length])
end T199
theorem DL{a:AU}(h:yk a=true):(-9223372036854775808<=a.1/\a.1<9223372036854775808)/\(a.2=[]\/(B8 a.2=true/\(a.1=1\/a.1= -1)/\9223372036854775808<=Am a.2)):=by
 unfold yk at h;rw[zf,qu,zf,zf,qu,w5,w5,w5,w5]at h;exact⟨D4 h.1,h.2.imp id fun h=>⟨h.1.1,h.1.2,h.2⟩⟩
theorem val_one(d:Int):z8 Ai [d]=d:=by simp[z8]
theorem sU{d:Int}(h1:0<d)(h2:d<18446744073709551616):[d]=Br d:=by
 have:=HW (b:=Ai) (l:=[d]) (by decide) (fun x hx=>by rw[List.mem_singleton]at hx;subst hx;exact⟨by omega,h2⟩) (by unfold Sp.nz;simp;omega);rw[val_one]at this;exact this
theorem Eu{s:Int}:zg (s,[])=s:=by unfold zg;exact wd rfl
namespace T189
theorem ok(hall:∀g sp,Ky.sp g=some sp->Ag Bf g sp):Ag Bf 189 Oc:=by
 refine MQ (X:=Ky) rfl hall (d:=9) (by kernel_rfl) (by kernel_rfl) (by kernel_rfl) (fun(a:Int×List Int) ha=>?_) (BA (by kernel_rfl));obtain⟨hr,hw⟩:=DL (a:=a) ha;obtain⟨s,w⟩:=a;have hr: -9223372036854775808<=s/\s<9223372036854775808:=hr;refine yj (Ak (s,w)) (zk (fun c=>?_) (fun c=>zk (fun d=>?_) (fun d=>ze ?_ ?_)))
 ·have c:0<w.length:=w6 c;have hne:w≠[]:=by rintro rfl;simp at c
  rcases hw with hw|⟨h1,h2,h3⟩
  ·exact wh hw hne
  ·obtain⟨n1,n2,n3⟩:=EF h1;have h2:s=1\/s= -1:=h2;have h3:9223372036854775808<=Am w:=h3;have ev:zg (s,w)=if s<0 then -Am w else Am w:=by unfold zg;exact wc hne
   have e1:Ae (zg (s,w))=Am w:=by rw[ev];simp only[Ah];split<;>omega
   have e2:decide (zg (s,w)<0)=decide (s<0):=by
    rw[ev];rcases h2 with rfl|rfl<;>simp<;>omega
   refine zi (zy rfl rfl ?_);show(decide (s<0),w)=(decide (zg (s,w)<0),Br (Ae (zg (s,w))));rw[e1,e2,show w=Br (Am w)from HW (by decide) n2 n3];congr 2;exact(CQ (b:=Ai) (by decide) (Az (b:=Ai) (by decide) n2)).symm
 all_goals
  have c:¬0<w.length:=w7 c;have hn:w=[]:=List.length_eq_zero_iff.1 (by omega);subst hn
 ·have d:s=0:=by simpa using d
  subst d;exact zi (zy rfl rfl rfl)
 ·show CA s=true;unfold CA;rw[zf,w5,w5];exact hr
 ·have d:s≠0:=by simpa using d
  refine zi (zy rfl rfl ?_);show(decide (s<0),[Ae s])=(decide (zg (s,[])<0),Br (Ae (zg (s,[]))));rw[Eu,sU (d:=Ae s) (by simp only[Ah];omega) (by simp only[Ah];omega)]
end T189
theorem BZ{n:Int}(h: -9223372036854775808<n/\n<9223372036854775808):CD n=(n,[]):=wd h
theorem Rj{w:List Int}(neg:Bool)(h1:Av Ai w)(h2:Sp.nz w)(h3:9223372036854775808<=Am w):CD (if neg=true then -Am w else Am w)=(if neg=true then -1 else 1,w):=by
 have e:Br (Am w)=w:=(HW (by decide) h1 h2).symm;cases neg with
 |true=>
  simp only[wk];unfold CD;rw[wc (by omega),wd (by omega)];rw[show Ae (-Am w)=Am w by simp only[Ah];omega,e]
 |false=>
  show CD (Am w)=(1,w);unfold CD;rw[wc (by omega),wc (by omega)];rw[show Ae (Am w)=Am w by simp only[Ah];omega,e]
namespace T190
theorem ok(hall:∀g sp,Ky.sp g=some sp->Ag Bf g sp):Ag Bf 190 jA:=by
 refine MQ (X:=Ky) rfl hall (d:=9) (by kernel_rfl) (by kernel_rfl) (by kernel_rfl) (fun(i:Bool×List Int) hi=>?_) (BA (by kernel_rfl));obtain⟨neg,w⟩:=i;obtain⟨n1,n2,n3⟩:=EF (l:=w) hi;refine yj (Ak neg w) ?_;conv=>zeta
 cases w with
 |nil=>
  refine ze rfl (zi (zy rfl rfl ?_));show _=CD (if neg=true then -0 else 0);rw[show(if neg=true then(-0:Int)else 0)=0 by split<;>rfl,BZ (by omega)]
 |cons d t=>
  cases t with
  |nil=>
   have hd:=n2 d (by simp);have hz:d≠0:=by intro h;subst h;exact n3 rfl
   have hd1:0<=d:=hd.1;have hd2:d<18446744073709551616:=hd.2;have ev:Am [d]=d:=val_one d;refine yo rfl (ze rfl (ze rfl (zk (fun c=>?_) (fun c=>?_))))
   ·have c:d<=9223372036854775807:=w6 c;have e1:zc .i64 d=d:=wr _ (by omega) (by omega);have e2:zc .i64 (0-d)= -d:=by rw[wr _ (by omega) (by omega)];omega
    refine zk (fun n=>ze rfl (zi (zy rfl rfl ?_))) (fun n=>ze rfl (ze rfl (ze (w4 c) (ze rfl (zi (zy rfl rfl ?_))))))
    ·show(zc .i64 (0-zc .i64 d),[])=CD (if neg=true then -Am [d]else Am [d]);rw[e1,e2,wd n,ev,BZ (by omega)]
    ·show(zc .i64 d,[])=CD (if neg=true then -Am [d]else Am [d]);subst n;rw[e1,wc (by decide),ev,BZ (by omega)]
   ·have c':¬d<=9223372036854775807:=w7 c;have hb:=Rj neg n2 n3 (by rw[ev];omega);refine ze rfl (ze rfl (yo c (zk (fun n=>zi (zy rfl rfl ?_)) (fun n=>zi (zy rfl rfl ?_)))))
    ·show(-1,[d])=CD (if neg=true then -Am [d]else Am [d]);rw[hb,wd n]
    ·show(1,[d])=CD (if neg=true then -Am [d]else Am [d]);rw[hb,n];rfl
  |cons e t=>
   have hv:9223372036854775808<=Am (d::e::t):=by
    have h:=C8 (b:=Ai) (by decide) n2 n3 (by simp);have h2:=AK (b:=Ai) (by decide) (show 1<=(d::e::t).length-1 by simp);rw[Int.pow_one]at h2;have:(9223372036854775808:Int)<=(Ai:Int):=by decide
    exact Int.le_trans this (Int.le_trans h2 h)
   have hb:=Rj neg n2 n3 hv;have z0:(((d::e::t).length:Int)==0)=false:=by simp;omega
   have z1:(((d::e::t).length:Int)==1)=false:=by simp;omega
   refine yo z0 (yo z1 (yo z1 (zk (fun n=>zi (zy rfl rfl ?_)) (fun n=>zi (zy rfl rfl ?_)))))
   ·show(-1,d::e::t)=CD (if neg=true then -Am (d::e::t)else Am (d::e::t));rw[hb,wd n]
   ·show(1,d::e::t)=CD (if neg=true then -Am (d::e::t)else Am (d::e::t));rw[hb,n];rfl
end T190
namespace T198
variable {Q:PV->Ob->Prop}
theorem Aq(x y:List Int)(hx:Av Ai x)(hy:Av Ai y)(hl:y.length<=x.length)(hm:x.length<=9000)(hq:∀ob,Q (.dat Df (Br (Am x+Am y))) ob):∀(k i:Nat) (p:List Int) (c:Int),i+k=x.length->p.length=i->Av Ai p->(0<=c/\c<=1)->z8 Ai p+(Ai:Int)^i*c=z8 Ai (x.take i)+z8 Ai (y.take i)->
  Ends Ky (L1 x y (x.length+1) c x.length i (p++zm (x.length+1-i) 0)) Q
 |0,i,p,c,hi,hp,hd,hc,he=>by
  have hi:i=x.length:=by omega
  subst hi;have er:x.length+1-x.length=1:=by omega
  have es:(p++zm (x.length+1-x.length) (0:Int)).set x.length c=p++[c]:=by
   rw[er];exact Pe.Dk p [] 0 c hp
  have ht:(p++[c]).take (x.length+1)=p++[c]:=zw (by simp;omega);have hd':Av Ai (p++[c]):=DT hd (CC hc.1 (by omega));have hv:Am (p++[c])=Am x+Am y:=by
   unfold Am;rw[EK,hp,he,yu,zw hl]
  refine yq (Ar ..) (yo (by simp) ?_);rw[zl,es,ht];refine ze (by simp<;>omega) (ze (by simp;omega) (ze ?_ (zi ?_)))
  ·rw[Ed (by simp;omega) hd'];simp;omega
  ·rw[Ll hd',hv];exact hq _
 |k+1,i,p,c,hi,hp,hd,hc,he=>by
  have gx:=AT hx i;have gy:=AT hy i;have lo:(p++zm (x.length+1-i) (0:Int)).length=x.length+1:=by simp;omega
  have step:∀z,zq z=true->z=y.getD i 0->Ends Ky (L1 x y (x.length+1) (PI (x.getD i 0) z c) x.length (zc .i64 ((i:Int)+1)) ((p++zm (x.length+1-i) 0).set i (HI (x.getD i 0) z c))) Q:=by
   intro z hz ez;obtain⟨a1,a2,a3⟩:=J6 gx hz hc;rw[wr ((i:Int)+1) (by omega) (by omega),I5 p (x.length+1) i _ hp (by omega)];refine Aq x y hx hy hl hm hq k (i+1) (p++[HI (x.getD i 0) z c]) _ (by omega) (by simp;omega) (DT hd a1) a2 ?_;rw[EK,hp,Lp,AD _ x i,AD _ y i, <-ez,ql, <-yc,a3,yc,yc];omega
  refine yq (Ar ..) (ze (by simp;omega) ?_);rw[zl];refine zk (fun d=>?_) (fun d=>?_)
  ·have d:=w6 d;refine ze (by simp;omega) (ze (by simp;omega) (ze ?_ (ze (by simp;omega) (ze (w4 (by rw[lo];omega)) (step _ gy rfl)))));rw[gx,gy,yf,yf,zf];exact⟨w4 hc.1,w4 hc.2⟩
  ·have d:=w7 d;have hz:y.getD i 0=0:=by rw[zo,y7 (by omega)];rfl
   refine ze (by simp;omega) (ze ?_ (ze (by simp;omega) (ze (w4 (by rw[lo];omega)) (step _ rfl hz.symm))));rw[gx,show zq 0=true from rfl,yf,yf,zf];exact⟨w4 hc.1,w4 hc.2⟩
theorem start(x y:List Int)(hx:Av Ai x)(hy:Av Ai y)(hl:y.length<=x.length)(hm:x.length<=9000)(hq:∀ob,Q (.dat Df (Br (Am x+Am y))) ob){t:Tr}:
  Ends Ky (.ite (decide ((0:Int)<=zc yt ((x.length:Int)+(1:Int)))&&decide (zc yt ((x.length:Int)+(1:Int))=zc yt ((x.length:Int)+(1:Int)))&&decide ((8:Nat)*qz (zc yt ((x.length:Int)+(1:Int)))<=(281474976710656:Nat))&&decide (zc yt ((x.length:Int)+(1:Int))<(9223372036854775808:Int)))
   (L1 x y (qz (zc yt ((x.length:Int)+(1:Int)))) ((0:Int)) ((x.length:Int)) ((0:Int)) (zm (qz (zc yt ((x.length:Int)+(1:Int)))) (0:Int))) t) Q:=by
 have e1:zc .i64 ((x.length:Int)+1)=((x.length+1:Nat):Int):=by rw[wr _ (by omega) (by omega)];omega
 rw[e1,zl];refine ze (by simp;omega) ?_;exact Aq x y hx hy hl hm hq x.length 0 [] 0 (by omega) rfl (fun _ h=>by cases h) (by omega) (by simp[z8])
theorem ok(hall:∀g sp,Ky.sp g=some sp->Ag Bf g sp):Ag Bf 198 fD:=by
 refine MQ (X:=Ky) rfl hall (d:=9) (by kernel_rfl) (by kernel_rfl) (by kernel_rfl) (fun(i:List Int×List Int) hi=>?_) (BA (by kernel_rfl));obtain⟨x,y⟩:=i;have hi:(jc x&&jc y)=true:=hi;rw[zf]at hi;obtain⟨x1,x2⟩:=XR hi.1;obtain⟨y1,y2⟩:=XR hi.2;have hq:∀ob,Ad fD (x,y) (.dat Df (Br (Am x+Am y))) ob:=fun ob=>zy rfl rfl rfl
 refine yj (Ak x y) (zk (fun c=>?_) (fun c=>?_))
 ·have c:=w6 c;exact start y x y2 x2 (by omega) y1 (by rw[Int.add_comm];exact hq)
 ·have c:=w7 c;exact start x y x2 y2 (by omega) x1 hq
end T198
namespace T200
variable {Q:PV->Ob->Prop}
theorem aS{b:Int}(hb:0<b){l:List Int}{n:Nat}(h:Av b l)(hv:z8 b l<b^n):z8 b (l.take n)=z8 b l:=by
 rcases Nat.lt_or_ge n l.length with hn|hn
 ·have h1:=Ca b l n (by omega);have h2:=Az (by omega) (AM h n);have h3:=Az (by omega) (Ew h n);rcases zz 0 (z8 b (l.drop n))with h4|h4
  ·have:=yd (show 1<=z8 b (l.drop n)by omega) (yn (AN hb n));rw[Int.mul_one]at this;omega
  ·have:z8 b (l.drop n)=0:=by omega
   rw[this,qp]at h1;omega
 ·rw[zw hn]
theorem Aq(x y:List Int)(hx:Av Ai x)(hy:Av Ai y)(hl:Am y<=Am x)(hm:x.length<=20000)(hq:∀ob,Q (.dat Df (Br (Am x-Am y))) ob):∀(k i:Nat) (p:List Int) (c:Int),i+k=x.length->p.length=i->Av Ai p->(0<=c/\c<=1)->z8 Ai p-(Ai:Int)^i*c=z8 Ai (x.take i)-z8 Ai (y.take i)->
  Ends Ky (L1 x y x.length c x.length i (p++zm (x.length-i) 0)) Q
 |0,i,p,c,hi,hp,hd,hc,he=>by
  have hi:i=x.length:=by omega
  subst hi;have er:p++zm (x.length-x.length) (0:Int)=p:=by rw[Nat.sub_self];simp
  have ht:p.take x.length=p:=zw (by omega);have hX:Am x<(Ai:Int)^x.length:=Bp (by decide) hx;have hP:Am p<(Ai:Int)^p.length:=Bp (by decide) hd;have hv:Am p=Am x-Am y:=by
   rw[yu,aS (by decide) hy (show z8 Ai y<_ from yh hl hX)]at he;have he:Am p-(Ai:Int)^x.length*c=Am x-Am y:=he;rw[hp]at hP;rcases zz 0 c with h|h
   ·have:c=1:=by omega
    subst this;rw[Int.mul_one]at he;omega
   ·have:c=0:=by omega
    subst this;rw[qp]at he;omega
  rw[er];refine yq (Ar ..) (yo (by simp) ?_);rw[ht];refine ze ?_ (zi ?_)
  ·rw[Ed (by omega) hd];simp;omega
  ·rw[Ll hd,hv];exact hq _
 |k+1,i,p,c,hi,hp,hd,hc,he=>by
  have gx:=AT hx i;have gy:=AT hy i;have lo:(p++zm (x.length-i) (0:Int)).length=x.length:=by simp;omega
  have step:∀z,zq z=true->z=y.getD i 0->Ends Ky (L1 x y x.length (P2 (x.getD i 0) z c) x.length (zc .i64 ((i:Int)+1)) ((p++zm (x.length-i) 0).set i (SV (x.getD i 0) z c))) Q:=by
   intro z hz ez;obtain⟨a1,a2,a3⟩:=Sp.G4 gx hz hc;rw[wr ((i:Int)+1) (by omega) (by omega),I5 p x.length i _ hp (by omega)];refine Aq x y hx hy hl hm hq k (i+1) (p++[SV (x.getD i 0) z c]) _ (by omega) (by simp;omega) (DT hd a1) a2 ?_;have e:(Ai:Int)^i*SV (x.getD i 0) z c-(Ai:Int)^i*(18446744073709551616*P2 (x.getD i 0) z c)=(Ai:Int)^i*x.getD i 0-(Ai:Int)^i*z-(Ai:Int)^i*c:=by
    rw[<-qx,a3,qx,qx]
   rw[EK,hp,Lp,AD _ x i,AD _ y i, <-ez];omega
  refine yq (Ar ..) (ze (by simp;omega) ?_);rw[zl];refine zk (fun d=>?_) (fun d=>?_)
  ·have d:=w6 d;refine ze (by simp;omega) (ze (by simp;omega) (ze ?_ (ze (by simp;omega) (ze (w4 (by rw[lo];omega)) (step _ gy rfl)))));rw[gx,gy,yf,yf,zf];exact⟨w4 hc.1,w4 hc.2⟩
  ·have d:=w7 d;have hz:y.getD i 0=0:=by rw[zo,y7 (by omega)];rfl
   refine ze (by simp;omega) (ze ?_ (ze (by simp;omega) (ze (w4 (by rw[lo];omega)) (step _ rfl hz.symm))));rw[gx,show zq 0=true from rfl,yf,yf,zf];exact⟨w4 hc.1,w4 hc.2⟩
theorem ok(hall:∀g sp,Ky.sp g=some sp->Ag Bf g sp):Ag Bf 200 iW:=by
 refine MQ (X:=Ky) rfl hall (d:=9) (by kernel_rfl) (by kernel_rfl) (by kernel_rfl) (fun(i:List Int×List Int) hi=>?_) (BA (by kernel_rfl));obtain⟨x,y⟩:=i;have hi:(CM x&&CM y&&decide (Am y<=Am x))=true:=hi;rw[zf,zf,w5]at hi;obtain⟨x1,x2⟩:=Iw hi.1.1;obtain⟨y1,y2⟩:=Iw hi.1.2;have hq:∀ob,Ad iW (x,y) (.dat Df (Br (Am x-Am y))) ob:=fun ob=>zy rfl rfl rfl
 refine yj (Ak x y) ?_;conv=>zeta
 rw[zl];refine ze (by simp;omega) ?_;exact Aq x y x2 y2 hi.2 x1 hq x.length 0 [] 0 (by omega) rfl (fun _ h=>by cases h) (by omega) (by simp[z8])
end T200
theorem KV(n:Int):zc .u64 n=n % 18446744073709551616:=by simp[zc,IntKind.bits,IntKind.signed]
theorem YA(n:Nat):zn (n:Int) ((2:Int)^(32:Nat))=((n/4294967296:Nat):Int):=by
 rw[yi _ (by decide)];rfl
theorem iO(n:Nat)(h:n<18446744073709551616):zc .u64 (n:Int)=n:=wu _ (by omega) (by omega)
theorem NT(n:Nat)(h:n<18446744073709551616):Hk .u64 (n:Int) 4294967295=((n % 4294967296:Nat):Int):=by
 have e:(ye 64 (n:Int)&&&ye 64 4294967295).toNat=n % 4294967296:=by
  rw[BitVec.toNat_and];have h1:(ye 64 (n:Int)).toNat=n:=by rw[y9,qf];exact qm h
  have h2:(ye 64 4294967295).toNat=2^32-1:=by decide
  rw[h1,h2,Nat.and_two_pow_sub_one_eq_mod]
 show zc .u64 (((ye 64 (n:Int)&&&ye 64 4294967295).toNat:Nat):Int)=_;rw[e];exact iO _ (by omega)
namespace T187
theorem ok:Ag Bf 187 SF:=by
 refine BY Jb (fun(i:Int×Int) hi=>?_);obtain⟨x,y⟩:=i;have hi:(zq x&&zq y)=true:=hi;rw[zf]at hi;have hx:=Sp.A2 hi.1;have hy:=Sp.A2 hi.2;obtain⟨x,rfl⟩:=zp hx.1;obtain⟨y,rfl⟩:=zp hy.1;have hx:x<18446744073709551616:=by omega
 have hy:y<18446744073709551616:=by omega
 obtain⟨m1,m2,m3,m4⟩:=Go.Lib.mul64_hi x y hx hy;have k1:=qg (a:=x/4294967296) (b:=y/4294967296) (by omega) (by omega);have k2:=qg (a:=x/4294967296) (b:=y % 4294967296) (by omega) (by omega);have k3:=qg (a:=x % 4294967296) (b:=y/4294967296) (by omega) (by omega);refine yj (Ak (x:Int) (y:Int)) (ze rfl (ze rfl (ze rfl (ze rfl (ze rfl (zi (zy rfl rfl ?_)))))));refine Prod.ext ?_ ?_
 ·show zc zd (zc zd (zc zd (zn (x:Int) ((2:Int)^(32:Nat))*zn (y:Int) ((2:Int)^(32:Nat)))+zn (zc zd (zc zd (zn (x:Int) ((2:Int)^(32:Nat))*Hk zd (y:Int) (4294967295:Int))+zn (zc zd (Hk zd (x:Int) (4294967295:Int)*Hk zd (y:Int) (4294967295:Int))) ((2:Int)^(32:Nat)))) ((2:Int)^(32:Nat)))+zn (zc zd (Hk zd (zc zd (zc zd (zn (x:Int) ((2:Int)^(32:Nat))*Hk zd (y:Int) (4294967295:Int))+zn (zc zd (Hk zd (x:Int) (4294967295:Int)*Hk zd (y:Int) (4294967295:Int))) ((2:Int)^(32:Nat)))) (4294967295:Int)+zc zd (Hk zd (x:Int) (4294967295:Int)*zn (y:Int) ((2:Int)^(32:Nat))))) ((2:Int)^(32:Nat)))=Q4 x y;have em:Q4 x y=((x*y/18446744073709551616:Nat):Int):=by unfold Q4;omega
  rw[em, <-m4];have hlt:x*y/18446744073709551616<18446744073709551616:=Nat.div_lt_of_lt_mul (Nat.mul_lt_mul'' hx hy);rw[<-m4]at hlt;simp only[YA,NT x hx,NT y hy];simp only[<-yx];generalize (x/4294967296)*(y/4294967296)=a at*;generalize (x/4294967296)*(y % 4294967296)=b at*;generalize (x % 4294967296)*(y/4294967296)=c at*;generalize (x % 4294967296)*(y % 4294967296)=d at*;rw[iO d (by omega),iO a (by omega),iO b (by omega),iO c (by omega),YA, <-qd,iO _ m2,YA,NT _ m2, <-qd, <-qd,iO _ m3,YA,iO (a+_) (by omega), <-qd,iO _ hlt]
 ·show zc .u64 ((x:Int)*y)=Io x y;unfold Io;exact KV _
end T187
theorem gA{x y o c:Int}(hx:zq x=true)(hy:zq y=true)(ho:zq o=true)(hc:zq c=true):
  zq (Io x y)=true/\zq (HI (Io x y) o 0)=true/\zq (HI (HI (Io x y) o 0) c 0)=true/\
  zc .u64 (zc .u64 (Q4 x y+PI (Io x y) o 0)+PI (HI (Io x y) o 0) c 0)=(x*y+o+c)/18446744073709551616/\
  zq ((x*y+o+c)/18446744073709551616)=true/\
  HI (HI (Io x y) o 0) c 0+18446744073709551616*((x*y+o+c)/18446744073709551616)=x*y+o+c:=by
 have hx:=Sp.A2 hx;have hy:=Sp.A2 hy;have ho:=Sp.A2 ho;have hc:=Sp.A2 hc;have h0:0<=x*y:=zt hx.1 hy.1;have h1:x*y<=18446744073709551615*18446744073709551615:=by
  have a:=yd (show y<=18446744073709551615 by omega) hx.1;have b:=zj (show x<=18446744073709551615 by omega) (show(0:Int)<=18446744073709551615 by omega);omega
 unfold Io Q4 HI PI;generalize x*y=P at*;refine⟨CC (by omega) (by omega),CC (by omega) (by omega),CC (by omega) (by omega),?_,CC (by omega) (by omega),by omega⟩;rw[KV,KV];omega
namespace T191
variable {Q:PV->Ob->Prop}
theorem A4(x y:List Int)(n i:Nat)(hi:i<x.length)(hn:n=x.length+y.length)(hx9:x.length<=9000)(hy9:y.length<=9000)(hx:Av Ai x)(hy:Av Ai y)(p:List Int)(hp:p.length=i+y.length)(hdp:Av Ai p)
  (hq:∀q c,q.length=i+y.length->Av Ai q->zq c=true->z8 Ai q+(Ai:Int)^(i+y.length)*c=z8 Ai p+(Ai:Int)^i*(x.getD i 0*z8 Ai y)->Ends Ky (L1 y n x x.length ((i+1:Nat):Int) ((q++[c])++zm (n-(i+y.length+1)) 0)) Q):∀(k j:Nat) (q:List Int) (c:Int),j+k=y.length->q.length=i+j->Av Ai q->zq c=true->z8 Ai q+(Ai:Int)^(i+j)*c=z8 Ai (p.take (i+j))+(Ai:Int)^i*(x.getD i 0*z8 Ai (y.take j))->
  Ends Ky (L2 y n i (x.getD i 0) c x x.length i y y.length j (q++(p.drop (i+j)++zm (n-(i+y.length)) 0))) Q
 |0,j,q,c,hj,hl,hd,hc,he=>by
  have hj:j=y.length:=by omega
  subst hj;have e1:zc .i64 ((i:Int)+(y.length:Int))=((i+y.length:Nat):Int):=by rw[wr _ (by omega) (by omega)];omega
  have e2:zc .i64 ((i:Int)+1)=((i+1:Nat):Int):=by rw[wr _ (by omega) (by omega)];omega
  have ed:p.drop (i+y.length)=[]:=List.drop_eq_nil_of_le (by omega);refine yq (AV ..) (yo (by simp) ?_);rw[e1,e2,zl,ed,List.nil_append,I5 q n _ c hl (by omega)];refine ze (by simp;omega) (ze (by simp;omega) (hq q c hl hd hc ?_));rw[he,zw (by omega),yu]
 |k+1,j,q,c,hj,hl,hd,hc,he=>by
  have gx:=AT hx i;have gy:=AT hy j;have gp:=AT hdp (i+j);have ep:p.drop (i+j)=p.getD (i+j) 0::p.drop (i+j+1):=by
   rw[zo,yb (by omega)];exact yv (by omega)
  have e1:zc .i64 ((i:Int)+(j:Int))=((i+j:Nat):Int):=by rw[wr _ (by omega) (by omega)];omega
  have e2:zc .i64 ((j:Int)+1)=((j+1:Nat):Int):=by rw[wr _ (by omega) (by omega)];omega
  have lo:(q++(p.drop (i+j)++zm (n-(i+y.length)) (0:Int))).length=n:=by simp;omega
  have g1:(q++(p.drop (i+j)++zm (n-(i+y.length)) (0:Int))).getD (i+j) 0=p.getD (i+j) 0:=by
   rw[ep,qn];exact DB _ _ _ _ hl
  have s1:∀z,(q++(p.drop (i+j)++zm (n-(i+y.length)) (0:Int))).set (i+j) z=(q++[z])++(p.drop (i+(j+1))++zm (n-(i+y.length)) 0):=by
   intro z;rw[ep,qn,Dk _ _ _ _ hl,qk];rfl
  obtain⟨m1,m2,m3,m4,m5,m6⟩:=gA gx gy gp hc;refine yq (AV ..) (ze (by simp;omega) ?_);rw[e1,e2,zl,zl,g1,s1,m4];have t1:(decide ((0:Int)<=((i+j:Nat):Int))&&decide (((i+j:Nat):Int)<(n:Int)))=true:=by simp;omega
  refine ze (by simp;omega) (ze (by rw[gx,gy];rfl) (ze t1 (ze (w4 (by rw[lo];omega)) (ze (by rw[m1,gp];rfl) (ze (by rw[m2,hc];rfl) (ze t1 (ze (w4 (by rw[lo];omega)) ?_)))))));refine A4 x y n i hi hn hx9 hy9 hx hy p hp hdp hq k (j+1) _ _ (by omega) (by simp;omega) (DT hd m3) m5 ?_;have ea:i+(j+1)=(i+j)+1:=by omega
  have eb:(Ai:Int)^i*(x.getD i 0*((Ai:Int)^j*y.getD j 0))=(Ai:Int)^(i+j)*(x.getD i 0*y.getD j 0):=by
   rw[Int.pow_add,zr,Int.mul_left_comm (x.getD i 0)]
  rw[ea,EK,hl,Lp,ql, <-yc,m6,AD _ p (i+j),AD _ y j,yc,yc,yc (x.getD i 0),yc,eb];omega
theorem Aq(x y:List Int)(n:Nat)(hn:n=x.length+y.length)(hx9:x.length<=9000)(hy9:y.length<=9000)(hx:Av Ai x)(hy:Av Ai y)(hq:∀ob,Q (.dat Df (Br (Am x*Am y))) ob):∀(k i:Nat) (p:List Int),i+k=x.length->p.length=i+y.length->Av Ai p->z8 Ai p=z8 Ai (x.take i)*z8 Ai y->
  Ends Ky (L1 y n x x.length i (p++zm (n-(i+y.length)) 0)) Q
 |0,i,p,hi,hp,hd,he=>by
  have hi:i=x.length:=by omega
  subst hi;have ez:p++zm (n-(x.length+y.length)) (0:Int)=p:=by rw[hn,Nat.sub_self];simp
  have hv:Am p=Am x*Am y:=by
   rw[yu]at he;exact he
  rw[ez];refine yq (Ar ..) (yo (by simp) ?_);rw[zw (by omega)];refine ze ?_ (zi ?_)
  ·rw[Ed (by omega) hd];simp;omega
  ·rw[Ll hd,hv];exact hq _
 |k+1,i,p,hi,hp,hd,he=>by
  refine yq (Ar ..) (ze (by simp;omega) ?_);rw[zl];refine ze (by simp;omega) ?_;have h0:z8 Ai (p.take (i+y.length))=z8 Ai p:=by rw[zw (by omega)]
  have:=A4 (Q:=Q) x y n i (by omega) hn hx9 hy9 hx hy p hp hd (fun q c hl hdq hc hv=>by
   have:=Aq x y n hn hx9 hy9 hx hy hq k (i+1) (q++[c]) (by omega) (by simp;omega) (DT hdq hc) (by
    rw[EK,hl,hv,he,AD,z6,zr])
   rw[show i+1+y.length=i+y.length+1 by omega]at this;exact this) y.length 0 (p.take i) 0 (by omega) (by simp;omega) (AM hd i) rfl (by simp[z8])
  rw[Nat.add_zero, <-qk,List.take_append_drop]at this;exact this
theorem ok(hall:∀g sp,Ky.sp g=some sp->Ag Bf g sp):Ag Bf 191 aJ:=by
 refine MQ (X:=Ky) rfl hall (d:=9) (by kernel_rfl) (by kernel_rfl) (by kernel_rfl) (fun(i:List Int×List Int) hi=>?_) (BA (by kernel_rfl));obtain⟨x,y⟩:=i;have hi:(jc x&&jc y)=true:=hi;rw[zf]at hi;obtain⟨x1,x2⟩:=XR hi.1;obtain⟨y1,y2⟩:=XR hi.2;have hq:∀ob,Ad aJ (x,y) (.dat Df (Br (Am x*Am y))) ob:=fun ob=>zy rfl rfl rfl
 have e1:zc .i64 ((x.length:Int)+(y.length:Int))=((x.length+y.length:Nat):Int):=by rw[wr _ (by omega) (by omega)];omega
 refine yj (Ak x y) ?_;conv=>zeta
 rw[e1,zl];refine ze (by simp;omega) ?_;have:=Aq x y (x.length+y.length) rfl x1 y1 x2 y2 hq x.length 0 (zm y.length 0) (by omega) (by simp) (fun d hd=>by
  obtain⟨_,rfl⟩:=List.mem_replicate.1 hd;exact⟨by decide,by decide⟩) (by rw[LW];simp[z8])
 rw[Nat.zero_add,List.replicate_append_replicate,show y.length+(x.length+y.length-y.length)=x.length+y.length by omega]at this;exact this
end T191
theorem E7:DQ Ky:=
 Ab T188.ok (Ab T217.ok (Ab T233.ok (Ab T218.ok (Ab T187.ok AQ))))
theorem RB:DQ XI2:=
 Ab (T189.ok E7) (Ab (T190.ok E7) (Ab (T198.ok E7) (Ab (T200.ok E7) (Ab T199.ok (Ab (T191.ok E7) (Ab T187.ok (Ab T188.ok AQ)))))))
end Go.Pe
namespace Go.Sp
def Ba(a:AU):Bool:=Db a&&decide (a.2.length<=9000)
def iP(a b:AU):Int:=Ci (vI a) (vI b)
def HG(a:AU):Int:=P8 (vI a)
end Go.Sp
namespace Go.Pe
open Sp
open Go.Det
def Tk:Ao:=⟨[BJ],fun a=>yk a,[BJ],fun a=>(Ee a,Ec a),false⟩
def qX:Ao:=⟨[BJ],fun a=>yk a,[BJ],fun a=>(PB a,Of a),false⟩
def JL:Ao:=⟨[BJ],fun a=>yk a,[i64],fun a=>HG a,false⟩
def OY:Ao:=⟨[BJ,BJ],fun i=>Ba i.1&&Ba i.2,[BJ],fun i=>(Iz i.1 i.2,HY i.1 i.2),false⟩
def gV:Ao:=⟨[BJ,BJ],fun i=>Ba i.1&&Ba i.2,[BJ],fun i=>(fJ i.1 i.2,cD i.1 i.2),false⟩
def QD:Ao:=⟨[BJ,BJ],fun i=>Ba i.1&&Ba i.2,[BJ],fun i=>(Fp i.1 i.2,FB i.1 i.2),false⟩
def eF:Ao:=⟨[BJ,BJ],fun i=>Ba i.1&&Ba i.2,[i64],fun i=>iP i.1 i.2,false⟩
def XJ1:A3:=X7 [(171,Tk),(146,OY)]
def XJ2:A3:=X7 [(175,gV),(137,JL)]
section
open List Int Prod
namespace T171
def T(a:Int×List Int):Tr:=tree XI2 false 9 171 (Af ([yy i64 (z7 (zh zd))]) a)
theorem Ak(a:Int×List Int):T a=let c':=z7 (zh zd);let d':=Br (Ae (zg (fst a,snd a)));let e':=zc .i64 (0-fst a);let b':=qh (!decide (zg (fst a,snd a)<0)) (Am d');let a':Tr:=.ite (yk (fst a,snd a)) (.ite (B8 d') (.leaf (yw [.dat i64 (Cx b'),.dat c' (Cw b')]) ([(zu 0 1,.box [.dat i64 (Cx b'),.dat c' (Cw b')]),(0,.box [.dat i64 (fst a),.dat c' (snd a)])])) .fail) .fail;.ite (!decide (0<length (snd a))) (.ite (fst a !=(-9223372036854775808)) (.leaf (yw [.dat i64 e',.nil]) ([(zu 0 1,.box [.dat i64 e',.nil]),(0,.box [.dat i64 (fst a),.dat c' (snd a)])])) a') a':=by kernel_rfl
end T171
namespace T146
def T(a b:Int×List Int):Tr:=tree XI2 false 9 146 (Af ([yy i64 (z7 (zh zd)),yy i64 (z7 (zh zd))]) (a,b))
theorem Ak(a b:Int×List Int):T a b=let b':=Br (Ae (zg (fst a,snd a)));let c':=Br (Ae (zg (fst b,snd b)));let d':=z7 (zh zd);let h':=decide (zg (fst a,snd a)<0);let i':=zc .i64 (fst a+fst b);let m':=decide (zg (fst b,snd b)<0);let j':=Br (Am b'+Am c');let k':=Br (Am b'-Am c');let l':=Br (Am c'-Am b');let e':=qh (h') (Am j');let f':=qh (h') (Am k');let g':=qh (m') (Am l');let a':Tr:=.ite (yk (fst a,snd a)) (.ite (yk (fst b,snd b)) (.ite (h'==m') (.ite (jc b'&&jc c') (.ite (B8 j') (.leaf (yw [.dat i64 (Cx e'),.dat d' (Cw e')]) ([(zu (zu 0 1) 1,.box [.dat i64 (Cx e'),.dat d' (Cw e')]),(zu 0 1,.box [.dat i64 (fst b),.dat d' (snd b)]),(0,.box [.dat i64 (fst a),.dat d' (snd a)])])) .fail) .fail) (.ite (B8 b'&&B8 c') (.ite (decide (Ci (Am b') (Am c')>=0)) (.ite (CM b'&&CM c'&&decide (Am c'<=Am b')) (.ite (B8 k') (.leaf (yw [.dat i64 (Cx f'),.dat d' (Cw f')]) ([(zu (zu 0 1) 1,.box [.dat i64 (Cx f'),.dat d' (Cw f')]),(zu 0 1,.box [.dat i64 (fst b),.dat d' (snd b)]),(0,.box [.dat i64 (fst a),.dat d' (snd a)])])) .fail) .fail) (.ite (CM c'&&CM b'&&decide (Am b'<=Am c')) (.ite (B8 l') (.leaf (yw [.dat i64 (Cx g'),.dat d' (Cw g')]) ([(zu (zu 0 1) 1,.box [.dat i64 (Cx g'),.dat d' (Cw g')]),(zu 0 1,.box [.dat i64 (fst b),.dat d' (snd b)]),(0,.box [.dat i64 (fst a),.dat d' (snd a)])])) .fail) .fail)) .fail)) .fail) .fail;.ite (!decide (0<length (snd a))) (.ite (!decide (0<length (snd b))) (.ite (decide (zc .i64 (fst a+fst b)>fst a)==decide (fst b>0)) (.leaf (yw [.dat i64 i',.nil]) ([(zu (zu 0 1) 1,.box [.dat i64 i',.nil]),(zu 0 1,.box [.dat i64 (fst b),.dat d' (snd b)]),(0,.box [.dat i64 (fst a),.dat d' (snd a)])])) a') a') a':=by kernel_rfl
end T146
namespace T136
def T(a b:Int×List Int):Tr:=tree XI2 false 9 136 (Af ([yy i64 (z7 (zh zd)),yy i64 (z7 (zh zd))]) (a,b))
theorem Ak(a b:Int×List Int):T a b=let c':=z7 (zh zd);let f':=Ae (fst a);let g':=Ae (fst b);let i':=Br (Ae (zg (fst a,snd a)));let j':=Br (Ae (zg (fst b,snd b)));let d':=Io f' g';let e':=Br (Am i'*Am j');let b':=qh (!decide (zg (fst a,snd a)<0)==decide (zg (fst b,snd b)<0)) (Am e');let h':=zc .i64 (0-zc .i64 d');let a':Tr:=.ite (yk (fst a,snd a)) (.ite (yk (fst b,snd b)) (.ite (jc i'&&jc j') (.ite (B8 e') (.leaf (yw [.dat i64 (Cx b'),.dat c' (Cw b')]) ([(zu (zu 0 1) 1,.box [.dat i64 (Cx b'),.dat c' (Cw b')]),(zu 0 1,.box [.dat i64 (fst b),.dat c' (snd b)]),(0,.box [.dat i64 (fst a),.dat c' (snd a)])])) .fail) .fail) .fail) .fail;.ite (!decide (0<length (snd a))) (.ite (!decide (0<length (snd b))) (.ite (CA (fst a)) (.ite (CA (fst b)) (.ite (zq f'&&zq g') (.ite (Q4 f' g'==0) (.ite (decide (Io f' g'<=9223372036854775807)) (.ite (!decide (fst a<0)==decide (fst b<0)) (.leaf (yw [.dat i64 h',.nil]) ([(zu (zu 0 1) 1,.box [.dat i64 h',.nil]),(zu 0 1,.box [.dat i64 (fst b),.dat c' (snd b)]),(0,.box [.dat i64 (fst a),.dat c' (snd a)])])) (.leaf (yw [.dat i64 (zc .i64 d'),.nil]) ([(zu (zu 0 1) 1,.box [.dat i64 (zc .i64 d'),.nil]),(zu 0 1,.box [.dat i64 (fst b),.dat c' (snd b)]),(0,.box [.dat i64 (fst a),.dat c' (snd a)])]))) a') a') .fail) .fail) .fail) a') a':=by kernel_rfl
end T136
namespace T196
def T(a:Int×List Int):Tr:=tree XJ1 false 9 196 (Af ([yy i64 (z7 (zh zd))]) a)
theorem Ak(a:Int×List Int):T a=let a':=z7 (zh zd);let b':=Ee (fst a,snd a);let c':=Ec (fst a,snd a);.ite (decide (fst a<0)) (.ite (yk (fst a,snd a)) (.leaf (yw [.dat i64 b',.dat a' c']) ([(zu 0 1,.box [.dat i64 b',.dat a' c']),(0,.box [.dat i64 (fst a),.dat a' (snd a)])])) .fail) (.leaf (yw [.dat i64 (fst a),.dat a' (snd a)]) ([(zu 0 1,.box [.dat i64 (fst a),.dat a' (snd a)]),(0,.box [.dat i64 (fst a),.dat a' (snd a)])])):=by kernel_rfl
end T196
namespace T137
def T(a:Int×List Int):Tr:=tree aM false 9 137 (Af ([yy i64 (z7 (zh zd))]) a)
theorem Ak(a:Int×List Int):T a=.leaf (.dat i64 (imax (-1) (Er 1 (fst a)))) ([(0,.box [.dat i64 (fst a),.dat (z7 (zh zd)) (snd a)])]):=by kernel_rfl
end T137
namespace T175
def T(a b:Int×List Int):Tr:=tree XJ1 false 9 175 (Af ([yy i64 (z7 (zh zd)),yy i64 (z7 (zh zd))]) (a,b))
theorem Ak(a b:Int×List Int):T a b=let a':=(Ee (fst b,snd b),Ec (fst b,snd b));let b':=z7 (zh zd);let c':=Iz (fst a,snd a) a';let d':=HY (fst a,snd a) a';.ite (yk (fst b,snd b)) (.ite (Ba (fst a,snd a)&&Ba a') (.leaf (yw [.dat i64 c',.dat b' d']) ([(zu (zu 0 1) 1,.box [.dat i64 c',.dat b' d']),(zu 0 1,.box [.dat i64 (fst b),.dat b' (snd b)]),(0,.box [.dat i64 (fst a),.dat b' (snd a)])])) .fail) .fail:=by kernel_rfl
end T175
namespace T120
def T(a b:Int×List Int):Tr:=tree XJ2 false 9 120 (Af ([yy i64 (z7 (zh zd)),yy i64 (z7 (zh zd))]) (a,b))
theorem Ak(a b:Int×List Int):T a b=let c':=(fJ (fst a,snd a) (fst b,snd b),cD (fst a,snd a) (fst b,snd b));let d':=z7 (zh zd);let a':=[(zu 0 1,.box [.dat i64 (fst b),.dat d' (snd b)]),(0,.box [.dat i64 (fst a),.dat d' (snd a)])];let b':Tr:=.ite (Ba (fst a,snd a)&&Ba (fst b,snd b)) (.ite (yk c') (.leaf (.dat i64 (HG c')) a') .fail) .fail;.ite (!decide (0<length (snd a))) (.ite (!decide (0<length (snd b))) (.ite (decide (fst a<fst b)) (.leaf (.dat i64 (-1:Int)) a') (.ite (decide (fst a>fst b)) (.leaf (.dat i64 (1:Int)) a') (.leaf (.dat i64 (0:Int)) a'))) b') b':=by kernel_rfl
end T120
end
theorem R9(k:Nat):((Ai^k:Nat):Int)=(Ai:Int)^k:=yr ..
theorem JD{n:Int}{k:Nat}(h0:0<=n)(h:n<(Ai:Int)^k):(Br n).length<=k:=by
 refine Nk Ai (by decide) k n.toNat n.toNat ?_;rw[<-R9]at h;generalize Ai^k=P at*;omega
theorem CX{n:Int}{k:Nat}(h0:0<=n)(h:n<(Ai:Int)^k)(hk:k<=20000):B8 (Br n)=true/\CM (Br n)=true/\Am (Br n)=n:=by
 have h1:=JD h0 h;have h2:CM (Br n)=true:=Ed (by omega) (Fa (by decide) n);have h3:uG (Br n)=true:=by
  unfold uG;exact w4 (XF (by decide) n)
 exact⟨by unfold B8;rw[h2,h3];rfl,h2,CQ (by decide) h0⟩
theorem BV{a:AU}(h:Ba a=true):yk a=true/\a.2.length<=9000:=by
 unfold Ba at h;rw[zf,w5]at h;exact h
theorem Vw{s:Int}{w:List Int}(hw:w≠[]):zg (s,w)=if s<0 then -Am w else Am w:=by unfold zg;exact wc hw
theorem Pv{a:AU}(h:yk a=true):(a.2=[]/\Ae (zg a)<=9223372036854775808)\/(Br (Ae (zg a))=a.2):=by
 obtain⟨hr,hw⟩:=DL h;obtain⟨s,w⟩:=a;have hr: -9223372036854775808<=s/\s<9223372036854775808:=hr;rcases hw with hw|⟨h1,h2,h3⟩
 ·have hw:w=[]:=hw;subst hw;refine .inl ⟨rfl,?_⟩;rw[Eu];simp only[Ah];omega
 ·obtain⟨n1,n2,n3⟩:=EF (l:=w) h1;have h2:s=1\/s= -1:=h2;have h3:9223372036854775808<=Am w:=h3;have hne:w≠[]:=by rintro rfl;exact wh h3 (by decide)
  refine .inr ?_;have e1:Ae (zg (s,w))=Am w:=by rw[Vw hne];simp only[Ah];split<;>omega
  rw[e1];exact(HW (by decide) n2 n3).symm
theorem AF(n:Int):0<=Ae n:=by simp only[Ah];omega
theorem Ia{a:AU}(h:yk a=true){k:Nat}(hk:a.2.length<=k)(h1:1<=k):Ae (zg a)<(Ai:Int)^k:=by
 rcases Pv h with⟨_,hb⟩|he
 ·have:=AK (b:=Ai) (by decide) h1;rw[Int.pow_one]at this;have h3:(9223372036854775808:Int)<(Ai:Int):=by decide
  exact yh hb (Int.lt_of_lt_of_le h3 this)
 ·have hv:=CQ (b:=Ai) (by decide) (AF (zg a));have:=Bp (b:=Ai) (by decide) (Fa (b:=Ai) (by decide) (Ae (zg a)));rw[hv,show Sp.dg Ai (Ae (zg a))=a.2 from he]at this;exact Int.lt_of_lt_of_le this (AK (by decide) hk)
theorem LB{x y:Int}(hx:0<=x)(h1:x<(Ai:Int)^9000)(h2:y<(Ai:Int)^9000):x+y<(Ai:Int)^9001/\x*y<(Ai:Int)^18000:=by
 have e1:(Ai:Int)^9001=(Ai:Int)^9000*Ai:=qe ..;have e2:(Ai:Int)^18000=(Ai:Int)^9000*(Ai:Int)^9000:=Int.pow_add _ 9000 9000;rw[e1,e2];generalize (Ai:Int)^9000=P at*;refine⟨?_,?_⟩
 ·show x+y<P*18446744073709551616;omega
 ·have a:=yd (show y<=P-1 by omega) hx;have b:=zj (show x<=P-1 by omega) (show 0<=P-1 by omega);have c:(P-1)*(P-1)=P*P-P-P+1:=by
   rw[Int.sub_mul,qx];omega
  omega
theorem Dp(n:Bool)(v:Int):qh n v=if n=true then -v else v:=rfl
theorem Cr(n:Int):zg (CD n)=n:=by
 unfold CD;split
 ·exact Eu
 ·have hv:=CQ (b:=Ai) (by decide) (AF n);have hne:Br (Ae n)≠[]:=by
   intro h;rw[show Sp.dg Ai (Ae n)=[]from h]at hv;have:(0:Int)=Ae n:=hv;simp only[Ah]at this;omega
  rw[Vw hne,show Am (Br (Ae n))=Ae n from hv];simp only[Ah];split<;>split<;>omega
theorem WX{a:AU}{c:Bool}(h:(!decide (0<a.2.length))=c):(c=true->a.2=[])/\(c=false->a.2≠[]):=by
 subst h;rcases a with⟨s,w⟩
 cases w<;>simp
theorem Px{a:AU}(h:(!decide (0<a.2.length))=true):a.2=[]:=(WX h).1 rfl
theorem bF{a:AU}(h:(!decide (0<a.2.length))=false):a.2≠[]:=(WX h).2 rfl
theorem Bk{a:AU}(h:a.2=[]):zg a=a.1:=by unfold zg;exact wd h
theorem words{a:AU}(h:Ba a=true):yk a=true/\jc (Br (Ae (zg a)))=true/\B8 (Br (Ae (zg a)))=true/\CM (Br (Ae (zg a)))=true/\Am (Br (Ae (zg a)))=Ae (zg a)/\Ae (zg a)<(Ai:Int)^9000:=by
 obtain⟨h1,h2⟩:=BV h;have hb:=Ia h1 h2 (by omega);obtain⟨n,d,v⟩:=CX (AF _) hb (by omega);have hl:=JD (AF _) hb;refine⟨h1,?_,n,d,v,hb⟩;unfold jc;rw[d,yf];exact w4 hl
theorem Aa{a b:Bool}(h1:a=true)(h2:b=true):(a&&b)=true:=by rw[h1,h2];rfl
theorem Kg(n:Int):Sp.P8 n=if n<0 then -1 else if n>0 then 1 else 0:=rfl
theorem vS{a:AU}(h:yk a=true):imax (-1) (Er 1 a.1)=Sp.P8 (zg a):=by
 obtain⟨hr,hw⟩:=DL h;obtain⟨s,w⟩:=a;rcases hw with hw|⟨h1,h2,h3⟩
 ·have hw:w=[]:=hw;subst hw;rw[Eu,Kg,aT];show imax (-1) (if (1:Int)<=s then 1 else s)=_;unfold imax;split<;>split<;>split<;>(try split)<;>omega
 ·have h2:s=1\/s= -1:=h2;have h3:9223372036854775808<=Am w:=h3;have hne:w≠[]:=by rintro rfl;exact wh h3 (by decide)
  rw[Vw hne,Kg];rcases h2 with rfl|rfl
  ·have e:(if (1:Int)<0 then -Am w else Am w)=Am w:=wc (by decide);rw[e,wc (show ¬Am w<0 by omega),wd (show Am w>0 by omega)];show imax (-1) (Er 1 1)=1;decide
  ·have e:(if (-1:Int)<0 then -Am w else Am w)= -Am w:=wd (by decide);rw[e,wd (show -Am w<0 by omega)];show imax (-1) (Er 1 (-1))= -1;decide
namespace T171
theorem ok:Ag Bf 171 Tk:=by
 refine BY RB (fun(a:Int×List Int) ha=>?_);have ha:yk a=true:=ha;have hn:B8 (Br (Ae (zg a)))=true/\Am (Br (Ae (zg a)))=Ae (zg a):=by
  refine⟨?_,CQ (by decide) (AF _)⟩;rcases Pv ha with⟨_,hb⟩|he
  ·have:(9223372036854775808:Int)<(Ai:Int)^1:=by decide
   exact(CX (AF _) (yh hb this) (by omega)).1
  ·obtain⟨_,hw⟩:=DL ha;rw[he];rcases hw with hw|⟨h1,_⟩
   ·rw[hw];decide+kernel
   ·exact h1
 have hv:qh (!decide (zg a<0)) (Am (Br (Ae (zg a))))= -zg a:=by
  rw[hn.2,Dp,Ah];rcases zz (zg a) 0 with h|h
  ·rw[w4 h];simp;omega
  ·rw[w8 (by omega)];simp;omega
 have hr:=(DL ha).1;refine yj (Ak a) (zk (fun c=>zk (fun d=>zi (zy rfl rfl ?_)) (fun d=>ze ha (ze hn.1 (zi (zy rfl rfl ?_))))) (fun c=>ze ha (ze hn.1 (zi (zy rfl rfl ?_)))))
 ·have c:=Px c;have d:a.1≠ -9223372036854775808:=by simpa using d
  show(zc .i64 (0-a.1),[])=C4 a;unfold C4;rw[wd ⟨c,d⟩,wr _ (by omega) (by omega),Int.zero_sub]
 ·have d:a.1= -9223372036854775808:=by simpa using d
  show CD (qh (!decide (zg a<0)) (Am (Br (Ae (zg a)))))=C4 a;unfold C4;rw[wc (fun h=>h.2 d),hv]
 ·have c:=bF c;show CD (qh (!decide (zg a<0)) (Am (Br (Ae (zg a)))))=C4 a;unfold C4;rw[wc (fun h=>c h.1),hv]
end T171
namespace T146
theorem ok:Ag Bf 146 OY:=by
 refine BY RB (fun(i:(Int×List Int)×(Int×List Int)) hi=>?_);obtain⟨a,b⟩:=i;have hi:(Ba a&&Ba b)=true:=hi;rw[zf]at hi;obtain⟨a1,a2,a3,a4,a5,a6⟩:=words hi.1;obtain⟨b1,b2,b3,b4,b5,b6⟩:=words hi.2;have hra:=(DL a1).1;have hrb:=(DL b1).1;have na:=AF (zg a);have nb:=AF (zg b);obtain⟨t1,_⟩:=LB na a6 b6;have hq:∀v ob,Em a b=CD v->Ad OY (a,b) (.agg [.dat i64 (Cx v),.dat (.nlist (.int .u64)) (Cw v)]) ob:=fun v ob h=>zy rfl rfl (by
  show CD v=Em a b;rw[h])
 have mono:(Ai:Int)^9000<=(Ai:Int)^9001:=AK (by decide) (by omega);have slow1:decide (zg a<0)=decide (zg b<0)->qh (decide (zg a<0)) (Am (Br (Am (Br (Ae (zg a)))+Am (Br (Ae (zg b))))))=zg a+zg b:=by
  intro e;rw[a5,b5,show Am (Br (Ae (zg a)+Ae (zg b)))=_ from CQ (by decide) (by omega),Dp,Ah,Ah];rcases zz (zg a) 0 with h|h
  ·rw[w4 h]at e ⊢;have:=w6 e.symm;simp only[wk];omega
  ·rw[w8 (by omega)]at e ⊢;have:=w7 e.symm;simp only[qi,ve];omega
 have slow2:decide (zg a<0)≠decide (zg b<0)->Ae (zg b)<=Ae (zg a)->qh (decide (zg a<0)) (Am (Br (Am (Br (Ae (zg a)))-Am (Br (Ae (zg b))))))=zg a+zg b:=by
  intro e hle;rw[a5,b5,show Am (Br (Ae (zg a)-Ae (zg b)))=_ from CQ (by decide) (by omega),Dp,Ah,Ah];rcases zz (zg a) 0 with h|h
  ·rw[w4 h]at e ⊢;have:¬zg b<0:=fun h=>e (w4 h).symm
   simp only[wk];omega
  ·rw[w8 (by omega)]at e ⊢;have:zg b<0:=by
    rcases zz (zg b) 0 with h|h
    ·exact h
    ·exact wh (w8 (by omega)).symm e
   simp only[qi,ve];omega
 have slow3:decide (zg a<0)≠decide (zg b<0)->Ae (zg a)<=Ae (zg b)->qh (decide (zg b<0)) (Am (Br (Am (Br (Ae (zg b)))-Am (Br (Ae (zg a))))))=zg a+zg b:=by
  intro e hle;rw[a5,b5,show Am (Br (Ae (zg b)-Ae (zg a)))=_ from CQ (by decide) (by omega),Dp,Ah,Ah];rcases zz (zg b) 0 with h|h
  ·rw[w4 h]at e ⊢;have:¬zg a<0:=fun h=>e (w4 h)
   simp only[wk];omega
  ·rw[w8 (show ¬zg b<0 by omega)]at e ⊢;have:zg a<0:=by
    rcases zz (zg a) 0 with h|h
    ·exact h
    ·exact wh (w8 (by omega)) e
   simp only[qi,ve];omega
 have n1:B8 (Br (Am (Br (Ae (zg a)))+Am (Br (Ae (zg b)))))=true:=by
  rw[a5,b5];exact(CX (by omega) t1 (by omega)).1
 have n2:Ae (zg b)<=Ae (zg a)->B8 (Br (Am (Br (Ae (zg a)))-Am (Br (Ae (zg b)))))=true:=by
  intro h;rw[a5,b5];exact(CX (by omega) (yh (by omega) a6) (by omega)).1
 have n3:Ae (zg a)<=Ae (zg b)->B8 (Br (Am (Br (Ae (zg b)))-Am (Br (Ae (zg a)))))=true:=by
  intro h;rw[a5,b5];exact(CX (by omega) (yh (by omega) b6) (by omega)).1
 have cge:∀ {c:Bool},decide (Ci (Am (Br (Ae (zg a)))) (Am (Br (Ae (zg b))))>=0)=c->(c=true->Ae (zg b)<=Ae (zg a))/\(c=false->Ae (zg a)<=Ae (zg b)):=by
  intro c h;subst h;rw[a5,b5,w5,w9];unfold Ci;constructor
  ·intro h;split at h<;>omega
  ·intro h;split at h
   ·omega
   ·split at h<;>omega
 refine yj (Ak a b) (zk (fun c1=>zk (fun c2=>zk (fun c3=>zi (zy rfl rfl ?_)) (fun c3=>?_)) (fun c2=>?_)) (fun c1=>?_))
 ·have c1:=Px c1;have c2:=Px c2;have hs:zc .i64 (a.1+b.1)=a.1+b.1:=by
   rw[wj]at c3;rcases zz (a.1+b.1) (-9223372036854775808)with h|h
   ·exfalso;have e:zc .i64 (a.1+b.1)=a.1+b.1+18446744073709551616:=by rw[qo];omega
    rw[e,w4 (by omega),w8 (by omega)]at c3;cases c3
   ·rcases zz (a.1+b.1) 9223372036854775808 with h2|h2
    ·exact wr _ (by omega) (by omega)
    ·exfalso;have e:zc .i64 (a.1+b.1)=a.1+b.1-18446744073709551616:=by rw[qo];omega
     rw[e,w8 (by omega),w4 (by omega)]at c3;cases c3
  have hr:CA (a.1+b.1)=true:=by
   have: -9223372036854775808<=zc .i64 (a.1+b.1)/\zc .i64 (a.1+b.1)<9223372036854775808:=by rw[qo];omega
   rw[hs]at this;unfold CA;rw[zf,w5,w5];exact this
  show(zc .i64 (a.1+b.1),[])=Em a b;unfold Em;rw[wd ⟨c1,c2,hr⟩,hs]
 all_goals
  have hm:Em a b=CD (zg a+zg b):=by
   unfold Em;refine wc (fun h=>?_);obtain⟨h1,h2,h3⟩:=h;first
    |exact bF c1 h1
    |exact bF c2 h2
    |(have h3:=D4 h3
      have hs:zc .i64 (a.1+b.1)=a.1+b.1:=wr _ (by omega) (by omega);rw[hs,beq_eq_false_iff_ne]at c3;refine c3 ?_;rcases zz 0 b.1 with h|h
      ·rw[w4 (show a.1+b.1>a.1 by omega),w4 h]
      ·rw[w8 (show ¬a.1+b.1>a.1 by omega),w8 (show ¬b.1>0 by omega)])
  refine ze a1 (ze b1 (zk (fun e=>ze (Aa a2 b2) (ze n1 (zi (hq _ _ ?_)))) (fun e=>ze (Aa a3 b3) (zk (fun d=>ze ?_ (ze (n2 ((cge d).1 rfl)) (zi (hq _ _ ?_)))) (fun d=>ze ?_ (ze (n3 ((cge d).2 rfl)) (zi (hq _ _ ?_))))))))
  ·rw[hm];exact wi _ (slow1 (by simpa using e)).symm
  ·refine Aa (Aa a4 b4) (w4 ?_);rw[a5,b5];exact(cge d).1 rfl
  ·rw[hm];exact wi _ (slow2 (by simpa using e) ((cge d).1 rfl)).symm
  ·refine Aa (Aa b4 a4) (w4 ?_);rw[a5,b5];exact(cge d).2 rfl
  ·rw[hm];exact wi _ (slow3 (by simpa using e) ((cge d).2 rfl)).symm
end T146
theorem DF{n:Int}(h1: -9223372036854775808<=n)(h2:n<9223372036854775808):CA n=true:=by
 unfold CA;rw[zf,w5,w5];exact⟨h1,h2⟩
theorem KJ{n:Int}(h:CA n=true):yk (n,[])=true:=by
 unfold yk;rw[h];rfl
theorem NC{n:Int}{k:Nat}(h:Ae n<(Ai:Int)^k)(hk:k<=20000):yk (CD n)=true/\(CD n).2.length<=k:=by
 unfold CD;split
 ·next c=>exact⟨KJ (DF (by omega) (by omega)),Nat.zero_le _⟩
 ·next c=>
  obtain⟨n1,n2,n3⟩:=CX (AF n) h hk;refine⟨?_,JD (AF n) h⟩;have hb:9223372036854775808<=Ae n:=by rw[Ah];omega
  unfold yk;refine Aa (DF ?_ ?_) ?_
  ·show -9223372036854775808<=(if n<0 then -1 else 1);split<;>decide
  ·show(if n<0 then -1 else 1)<9223372036854775808;split<;>decide
  ·rw[qu];refine .inr (Aa (Aa n1 ?_) (w4 (by show _<=Am (Br (Ae n));rw[n3];exact hb)));show(decide ((if n<0 then(-1:Int)else 1)=1)||decide ((if n<0 then(-1:Int)else 1)= -1))=true;split<;>rfl
theorem Iu(a:AU):zg (C4 a)= -zg a:=by
 unfold C4;split
 ·next h=>rw[Eu,Bk h.1]
 ·exact Cr _
theorem Ij(n:Int):Ae (-n)=Ae n:=by rw[Ah,Ah];omega
theorem VW{a:AU}(h:yk a=true){k:Nat}(h1:1<=k)(hk:k<=20000)(hl:a.2.length<=k):yk (C4 a)=true/\(C4 a).2.length<=k:=by
 have hr:=(DL h).1;unfold C4;split
 ·next c=>exact⟨KJ (DF (by omega) (by omega)),Nat.zero_le _⟩
 ·exact NC (by rw[Ij];exact Ia h hl h1) hk
theorem Uz{a:AU}(h:Ba a=true):Ba (C4 a)=true:=by
 obtain⟨h1,h2⟩:=BV h;obtain⟨h3,h4⟩:=VW h1 (k:=9000) (by omega) (by omega) h2;unfold Ba;exact Aa h3 (w4 h4)
theorem oA{a:AU}(h:yk a=true):a.1<0↔zg a<0:=by
 obtain⟨_,hw⟩:=DL h;obtain⟨s,w⟩:=a;rcases hw with hw|⟨_,h2,h3⟩
 ·have hw:w=[]:=hw;subst hw;rw[Eu]
 ·have h2:s=1\/s= -1:=h2;have h3:9223372036854775808<=Am w:=h3;have hne:w≠[]:=by rintro rfl;exact wh h3 (by decide)
  rw[Vw hne];show s<0↔_;split<;>omega
theorem Vi(a b:AU):zg (Em a b)=zg a+zg b:=by
 unfold Em;split
 ·next h=>rw[Eu,Bk h.1,Bk h.2.1]
 ·exact Cr _
theorem lL(x y:Int):Ae (x+y)<=Ae x+Ae y:=by
 rw[Ah,Ah,Ah];omega
theorem IZ(x y:Int):Ae (x*y)=Ae x*Ae y:=by
 rw[Ah,Ah,Ah,Int.natAbs_mul,yx]
theorem bounds{a:AU}(h:Ba a=true):Ae (zg a)<(Ai:Int)^9000:=(words h).2.2.2.2.2
theorem SH{a b:AU}(ha:Ba a=true)(hb:Ba b=true):yk (Em a b)=true:=by
 unfold Em;split
 ·next h=>exact KJ h.2.2
 ·exact(NC (yh (lL _ _) (LB (AF _) (bounds ha) (bounds hb)).1) (by omega)).1
theorem aL(a b:AU):zg (M7 a b)=zg a-zg b:=by
 unfold M7;rw[Vi,Iu];omega
theorem D8(a b:AU):zg (FF a b)=zg a*zg b:=Cr _
theorem W3:DQ XJ1:=
 Ab T171.ok (Ab T146.ok AQ)
namespace T137
theorem ok:Ag Bf 137 JL:=by
 refine BY Jb (fun(a:Int×List Int) ha=>?_);have ha:yk a=true:=ha;exact yj (Ak a) (zi (zy rfl rfl (vS ha)))
end T137
namespace T196
theorem ok:Ag Bf 196 qX:=by
 refine BY W3 (fun(a:Int×List Int) ha=>?_);have ha:yk a=true:=ha;refine yj (Ak a) (zk (fun c=>ze ha (zi (zy rfl rfl ?_))) (fun c=>zi (zy rfl rfl ?_)))
 ·show C4 a=UH a;unfold UH;rw[wd (w6 c)]
 ·show a=UH a;unfold UH;rw[wc (w7 c)]
end T196
namespace T175
theorem ok:Ag Bf 175 gV:=by
 refine BY W3 (fun(i:(Int×List Int)×(Int×List Int)) hi=>?_);obtain⟨a,b⟩:=i;have hi:(Ba a&&Ba b)=true:=hi;rw[zf]at hi;exact yj (Ak a b) (ze (BV hi.2).1 (ze (Aa hi.1 (Uz hi.2)) (zi (zy rfl rfl rfl))))
end T175
theorem mH:DQ XJ2:=
 Ab T175.ok (Ab T137.ok AQ)
theorem pK(x y:Int):Sp.P8 (x-y)=Ci x y:=by
 unfold Sp.P8 Ci;split
 ·rw[wd (by omega)]
 ·split
  ·rw[wc (by omega),wd (by omega)]
  ·rw[wc (by omega),wc (by omega)]
namespace T120
theorem ok:Ag Bf 120 eF:=by
 refine BY mH (fun(i:(Int×List Int)×(Int×List Int)) hi=>?_);obtain⟨a,b⟩:=i;have hi:(Ba a&&Ba b)=true:=hi;have hi2:=hi;rw[zf]at hi2;have hs:yk (M7 a b)=true:=by
  unfold M7;exact SH hi2.1 (Uz hi2.2)
 have hv:HG (M7 a b)=iP a b:=by
  show Sp.P8 (zg (M7 a b))=Ci (zg a) (zg b);rw[aL,pK]
 refine yj (Ak a b) (zk (fun c1=>zk (fun c2=>zk (fun d=>zi (zy rfl rfl ?_)) (fun d=>zk (fun e=>zi (zy rfl rfl ?_)) (fun e=>zi (zy rfl rfl ?_)))) (fun c2=>ze hi (ze hs (zi (zy rfl rfl hv))))) (fun c1=>ze hi (ze hs (zi (zy rfl rfl hv)))));all_goals
  have e1:=Bk (Px c1);have e2:=Bk (Px c2);show _=Ci (zg a) (zg b);rw[e1,e2];unfold Ci
 ·rw[wd (w6 d)]
 ·rw[wc (w7 d),wd (w6 e)]
 ·rw[wc (w7 d),wc (w7 e)]
end T120
theorem RF(x y:Int):x*y=qh (!(decide (x<0)==decide (y<0))) (Ae x*Ae y):=by
 unfold Ae;rw[Dp];by_cases h1:x<0<;>by_cases h2:y<0<;>simp[h1,h2,Int.neg_mul,Int.mul_neg]
namespace T136
theorem ok:Ag Bf 136 QD:=by
 refine BY RB (fun(i:(Int×List Int)×(Int×List Int)) hi=>?_);obtain⟨a,b⟩:=i;have hi:(Ba a&&Ba b)=true:=hi;rw[zf]at hi;obtain⟨a1,a2,a3,a4,a5,a6⟩:=words hi.1;obtain⟨b1,b2,b3,b4,b5,b6⟩:=words hi.2;have hra:=(DL a1).1;have hrb:=(DL b1).1;have na:=AF (zg a);have nb:=AF (zg b);obtain⟨_,t2⟩:=LB na a6 b6;have np:0<=Ae (zg a)*Ae (zg b):=zt na nb;have n1:B8 (Br (Am (Br (Ae (zg a)))*Am (Br (Ae (zg b)))))=true:=by
  rw[a5,b5];exact(CX np t2 (by omega)).1
 have hv:qh (!(decide (zg a<0)==decide (zg b<0))) (Am (Br (Am (Br (Ae (zg a)))*Am (Br (Ae (zg b))))))=zg a*zg b:=by
  rw[a5,b5,show Am (Br (Ae (zg a)*Ae (zg b)))=_ from CQ (by decide) np, <-RF]
 have hq:∀ob,Ad QD (a,b) (.agg [.dat i64 (Cx (qh (!(decide (zg a<0)==decide (zg b<0))) (Am (Br (Am (Br (Ae (zg a)))*Am (Br (Ae (zg b)))))))),.dat (.nlist (.int .u64)) (Cw (qh (!(decide (zg a<0)==decide (zg b<0))) (Am (Br (Am (Br (Ae (zg a)))*Am (Br (Ae (zg b))))))))]) ob:=fun ob=>zy rfl rfl (by
  show CD _=CD (zg a*zg b);rw[hv])
 have ua:zq (Ae a.1)=true:=CC (AF _) (by rw[Ah];omega);have ub:zq (Ae b.1)=true:=CC (AF _) (by rw[Ah];omega);refine yj (Ak a b) (zk (fun c1=>zk (fun c2=>ze (DF hra.1 hra.2) (ze (DF hrb.1 hrb.2) (ze (Aa ua ub) (zk (fun c3=>zk (fun c4=>zk (fun c5=>zi (zy rfl rfl ?_)) (fun c5=>zi (zy rfl rfl ?_))) (fun c4=>?_)) (fun c3=>?_))))) (fun c2=>?_)) (fun c1=>?_))
 ·have e1:=Bk (Px c1);have e2:=Bk (Px c2);have c3:(Ae a.1*Ae b.1)/18446744073709551616=0:=by simpa [Q4]using c3
  have c4:(Ae a.1*Ae b.1) % 18446744073709551616<=9223372036854775807:=w6 c4;have p0:0<=Ae a.1*Ae b.1:=zt (AF _) (AF _);have hm:=RF a.1 b.1;have c5:(!(decide (a.1<0)==decide (b.1<0)))=true:=c5;rw[c5,Dp,wd rfl]at hm;show(zc .i64 (0-zc .i64 ((Ae a.1*Ae b.1) % 18446744073709551616)),[])=CD (zg a*zg b);rw[e1,e2,hm,BZ (by omega),wr ((Ae a.1*Ae b.1) % 18446744073709551616) (by omega) (by omega),wr _ (by omega) (by omega)];congr 1;omega
 ·have e1:=Bk (Px c1);have e2:=Bk (Px c2);have c3:(Ae a.1*Ae b.1)/18446744073709551616=0:=by simpa [Q4]using c3
  have c4:(Ae a.1*Ae b.1) % 18446744073709551616<=9223372036854775807:=w6 c4;have p0:0<=Ae a.1*Ae b.1:=zt (AF _) (AF _);have hm:=RF a.1 b.1;have c5:(!(decide (a.1<0)==decide (b.1<0)))=false:=c5;rw[c5,Dp,wc (by decide)]at hm;show(zc .i64 ((Ae a.1*Ae b.1) % 18446744073709551616),[])=CD (zg a*zg b);rw[e1,e2,hm,BZ (by omega),wr ((Ae a.1*Ae b.1) % 18446744073709551616) (by omega) (by omega)];congr 1;omega
 all_goals exact ze a1 (ze b1 (ze (Aa a2 b2) (ze n1 (zi (hq _)))))
end T136
end Go.Pe
namespace Go.Sp
def EL(n:Int):Int:=if n<=0 then 0 else(n.toNat.log2:Int)+1
def lz(n:Int):Int:=64-EL n
def dq(h l y:Int):Int:=(h*18446744073709551616+l)/y
def dr(h l y:Int):Int:=(h*18446744073709551616+l) % y
end Go.Sp
namespace Go.Pe
open Go.Det
def Wv:Ao:=⟨[u64],fun n=>zq n,[i64],fun n=>Sp.EL n,false⟩
def xN:Ao:=⟨[u64],fun n=>zq n,[i64],fun n=>Sp.lz n,false⟩
def Sm:Ao:=⟨[u64,u64,u64],fun i=>zq i.1&&zq i.2.1&&zq i.2.2&&decide ((i.1:Int)<i.2.2),[u64,u64],fun i=>(Sp.dq i.1 i.2.1 i.2.2,Sp.dr i.1 i.2.1 i.2.2),false⟩
def XD1:A3:=X7 [(244,Wv)]
def fA:A3:=X7 [(256,xN)]
section
open List Int Prod
namespace T244
def T(x:Int):Tr:=tree aM false 9 244 (Af ([zh zd]) x)
theorem Ak(x:Int):T x=let a':=([0,1,2,2,3,3,3,3,4,4,4,4,4,4,4,4,5,5,5,5,5,5,5,5,5,5,5,5,5,5,5,5,6,6,6,6,6,6,6,6,6,6,6,6,6,6,6,6,6,6,6,6,6,6,6,6,6,6,6,6,6,6,6,6,7,7,7,7,7,7,7,7,7,7,7,7,7,7,7,7,7,7,7,7,7,7,7,7,7,7,7,7,7,7,7,7,7,7,7,7,7,7,7,7,7,7,7,7,7,7,7,7,7,7,7,7,7,7,7,7,7,7,7,7,7,7,7,7,8,8,8,8,8,8,8,8,8,8,8,8,8,8,8,8,8,8,8,8,8,8,8,8,8,8,8,8,8,8,8,8,8,8,8,8,8,8,8,8,8,8,8,8,8,8,8,8,8,8,8,8,8,8,8,8,8,8,8,8,8,8,8,8,8,8,8,8,8,8,8,8,8,8,8,8,8,8,8,8,8,8,8,8,8,8,8,8,8,8,8,8,8,8,8,8,8,8,8,8,8,8,8,8,8,8,8,8,8,8,8,8,8,8,8,8,8,8,8,8,8,8,8,8,8,8,8,8]:List UInt8);let b':=zn x (2^32);let c':=(0:Sh.T (zh q9));let e':=zn x (2^16);let i':=zn x (2^8);let d':=zn b' (2^16);let g':=zn b' (2^8);let h':=zn e' (2^8);let f':=zn d' (2^8);.ite (decide (x>=4294967296)) (.ite true (.ite (decide (zn x (2^32)>=65536)) (.ite true (.ite (decide (zn b' (2^16)>=256)) (.ite true (.ite (decide (c'<=zc .u8 f')&&decide (zc .u8 f'<(↑256:Int))) (.leaf (.dat i64 (zc .i64 (zc .i64 (zc .i64 (32+16)+8)+zc .i64 (↑(yg (getD a' (toNat (zc .u8 f')) (0:UInt8))):Int)))) []) .fail) .fail) (.ite (decide (c'<=zc .u8 d')&&decide (zc .u8 d'<(↑256:Int))) (.leaf (.dat i64 (zc .i64 (zc .i64 (32+16)+zc .i64 (↑(yg (getD a' (toNat (zc .u8 d')) (0:UInt8))):Int)))) []) .fail)) .fail) (.ite (decide (zn x (2^32)>=256)) (.ite true (.ite (decide (c'<=zc .u8 g')&&decide (zc .u8 g'<(↑256:Int))) (.leaf (.dat i64 (zc .i64 (zc .i64 (32+8)+zc .i64 (↑(yg (getD a' (toNat (zc .u8 g')) (0:UInt8))):Int)))) []) .fail) .fail) (.ite (decide (c'<=zc .u8 b')&&decide (zc .u8 b'<(↑256:Int))) (.leaf (.dat i64 (zc .i64 (32+zc .i64 (↑(yg (getD a' (toNat (zc .u8 b')) (0:UInt8))):Int)))) []) .fail))) .fail) (.ite (decide (x>=65536)) (.ite true (.ite (decide (zn x (2^16)>=256)) (.ite true (.ite (decide (c'<=zc .u8 h')&&decide (zc .u8 h'<(↑256:Int))) (.leaf (.dat i64 (zc .i64 (zc .i64 (zc .i64 (0+16)+8)+zc .i64 (↑(yg (getD a' (toNat (zc .u8 h')) (0:UInt8))):Int)))) []) .fail) .fail) (.ite (decide (c'<=zc .u8 e')&&decide (zc .u8 e'<(↑256:Int))) (.leaf (.dat i64 (zc .i64 (zc .i64 (0+16)+zc .i64 (↑(yg (getD a' (toNat (zc .u8 e')) (0:UInt8))):Int)))) []) .fail)) .fail) (.ite (decide (x>=256)) (.ite true (.ite (decide (c'<=zc .u8 i')&&decide (zc .u8 i'<(↑256:Int))) (.leaf (.dat i64 (zc .i64 (zc .i64 (0+8)+zc .i64 (↑(yg (getD a' (toNat (zc .u8 i')) (0:UInt8))):Int)))) []) .fail) .fail) (.ite (decide (c'<=zc .u8 x)&&decide (zc .u8 x<(↑256:Int))) (.leaf (.dat i64 (zc .i64 (0+zc .i64 (↑(yg (getD a' (toNat (zc .u8 x)) (0:UInt8))):Int)))) []) .fail))):=by kernel_rfl
end T244
namespace T256
def T(x:Int):Tr:=tree XD1 false 9 256 (Af ([zh zd]) x)
theorem Ak(x:Int):T x=.ite (zq x) (.leaf (.dat i64 (zc .i64 (64-Sp.EL x))) []) .fail:=by kernel_rfl
end T256
namespace T255
def T(hi lo y:Int):Tr:=tree fA false 9 255 (Af ([zh zd,zh zd,zh zd]) (hi,lo,y))
def L1(v2 v8 v9 v10 v11 v13 v14 v15 v16:Int):Tr:=re ((T 0 0 0).R.R.R.L.L.L.L.L.L.L.L) (AE 135 [(2,.dat (zh zd) v2),(8,.dat (zh zd) v8),(9,.dat (zh zd) v9),(10,.dat (zh zd) v10),(11,.dat (zh zd) v11),(13,.dat (zh zd) v13),(14,.dat (zh zd) v14),(15,.dat (zh zd) v15),(16,.dat (zh zd) v16)] [] 0)
theorem Ak(hi lo y:Int):T hi lo y=let e':=decide (0<=zc .u64 (Sp.lz y));let i':=64-zc .u64 (Sp.lz y);let j':=zc .u64 (Sp.lz y);let c':=toNat j';let d':=zn lo (2^qq (toNat (zc .u64 i')) 64);let a':=zc .u64 (y*2^qq c' 64);let f':=zc .u64 (lo*2^qq c' 64);let g':=zc .u64 (hi*2^qq c' 64);let b':=YB zd g' d';let h':=zn a' (2^32);.ite (y==0) .fail (.ite (decide (y<=hi)) .fail (.ite (hi==0) (.ite (decide (y≠0)) (.ite (decide (y≠0)) (.leaf (.tup [.dat (zh zd) (zc .u64 (yz lo y)),.dat (zh zd) (Int.tmod lo y)]) []) .fail) .fail) (.ite (zq y) (.ite e' (.ite true (.ite e' (.ite (decide (0<=zc .u64 i')) (.ite e' (.ite true (.ite (decide (zn a' (2^32)≠0)) (L1 a' j' h' (Hk zd a' 4294967295) b' (zn f' (2^32)) (Hk zd f' 4294967295) (zc .u64 (yz b' h')) (zc .u64 (YB zd g' d'-zc .u64 (zc .u64 (yz b' h')*zn a' (2^32))))) .fail) .fail) .fail) .fail) .fail) .fail) .fail) .fail))):=by kernel_rfl
def L2(v2 v8 v9 v10 v14 v15 v16 v17 v18:Int):Tr:=re ((stepT fA (L1 0 0 0 0 0 0 0 0 0)).L.L.L) (AE 135 [(2,.dat (zh zd) v2),(8,.dat (zh zd) v8),(9,.dat (zh zd) v9),(10,.dat (zh zd) v10),(14,.dat (zh zd) v14),(15,.dat (zh zd) v15),(16,.dat (zh zd) v16),(17,.dat (zh zd) v17),(18,.dat (zh zd) v18)] [] 0)
theorem Ar(v2 v8 v9 v10 v11 v13 v14 v15 v16:Int):stepT fA (L1 v2 v8 v9 v10 v11 v13 v14 v15 v16)=let f':=zc .u64 (v11*4294967296)+v13;let g':=zc .u64 (v15-1);let b':=zc .u64 f'-zc .u64 (zc .u64 (v15-1)*v2);let c':=zc .u64 f'-zc .u64 (v15*v2);let d':=zc .u64 c';let e':=zc .u64 b';let a':Tr:=.ite (decide (zc .u64 (v16+v9)>=4294967296)) (.ite (decide (v9≠0)) (L2 v2 v8 v9 v10 v14 g' (zc .u64 (zc .u64 b'-zc .u64 (zc .u64 (yz e' v9)*v9))) e' (zc .u64 (yz e' v9))) .fail) (L1 v2 v8 v9 v10 v11 v13 v14 g' (zc .u64 (v16+v9)));.ite (decide (v15>=4294967296)) a' (.ite (decide (zc .u64 (v15*v10)>zc .u64 (zc .u64 (4294967296*v16)+v13))) a' (.ite (decide (v9≠0)) (L2 v2 v8 v9 v10 v14 v15 (zc .u64 (zc .u64 c'-zc .u64 (zc .u64 (yz d' v9)*v9))) d' (zc .u64 (yz d' v9))) .fail)):=by kernel_rfl
theorem AV(v2 v8 v9 v10 v14 v15 v16 v17 v18:Int):stepT fA (L2 v2 v8 v9 v10 v14 v15 v16 v17 v18)=let b':=zh zd;let c':=zc .u64 (v17*4294967296)+v14;let d':=2^qq (toNat v8) 64;let a':Tr:=.ite (decide (zc .u64 (v16+v9)>=4294967296)) (.ite (decide (0<=v8)) (.leaf (.tup [.dat b' (zc .u64 (zc .u64 (v15*4294967296)+zc .u64 (v18-1))),.dat b' (zn (zc .u64 (zc .u64 c'-zc .u64 (zc .u64 (v18-1)*v2))) d')]) []) .fail) (L2 v2 v8 v9 v10 v14 v15 (zc .u64 (v16+v9)) v17 (zc .u64 (v18-1)));.ite (decide (v18>=4294967296)) a' (.ite (decide (zc .u64 (v18*v10)>zc .u64 (zc .u64 (4294967296*v16)+v14))) a' (.ite (decide (0<=v8)) (.leaf (.tup [.dat b' (zc .u64 (zc .u64 (v15*4294967296)+v18)),.dat b' (zn (zc .u64 (zc .u64 c'-zc .u64 (v18*v2))) d')]) []) .fail)):=by kernel_rfl
end T255
end
namespace T255
variable {Q:PV->Ob->Prop}
def Exact(Y u w q:Int):Prop:=q*Y<=u*4294967296+w/\u*4294967296+w<(q+1)*Y
theorem XZ{Y y1 y0 u w q r:Int}(hY:Y=y1*4294967296+y0)(he:q*y1+r=u)(h:q*y0>4294967296*r+w):u*4294967296+w<q*Y:=by
 subst hY;rw[yc, <-zr];generalize q*y1=A at*;generalize q*y0=C at*;omega
theorem Lc{Y y1 y0 u w q r:Int}(hY:Y=y1*4294967296+y0)(he:q*y1+r=u)(h:q*y0<=4294967296*r+w):q*Y<=u*4294967296+w:=by
 subst hY;rw[yc, <-zr];generalize q*y1=A at*;generalize q*y0=C at*;omega
theorem Ud{Y u w q:Int}(hu:u<Y)(hY:0<=Y)(hw:w<4294967296)(hq:4294967296<=q):u*4294967296+w<q*Y:=by
 have:=zj hq hY;omega
theorem SZ{y1 y0 u w r:Int}{n:Nat}{Y:Int}(hY:Y=y1*4294967296+y0)(h1:0<=y1)(h0:0<=y0/\y0<4294967296)(hu:u<Y)(hw:0<=w)(he:(n:Int)*y1+r=u)(hr:4294967296<=r):(n:Int)*Y<=u*4294967296+w:=by
 have hn:(n:Int)<4294967296:=by
  rcases zz (n:Int) 4294967296 with h|h
  ·exact h
  ·have:=zj h h1;omega
 refine Lc hY he ?_;have a:=zj (show(n:Int)<=4294967295 by omega) h0.1;omega
theorem Aq(Y s y1 y0 u w z:Int)(hY:Y=y1*4294967296+y0)(h1:0<y1/\y1<4294967296)(h0:0<=y0/\y0<4294967296)(hu:u<Y)(hw:0<=w/\w<4294967296)
  (hx:∀q:Int,0<=q->Exact Y u w q->Ends fA (L2 Y s y1 y0 z q (zc zd (zc zd (zc zd (zc zd (u*(4294967296:Int))+w)-zc zd (q*Y))-zc zd (zc zd (yz (zc zd (zc zd (zc zd (u*(4294967296:Int))+w)-zc zd (q*Y))) y1)*y1))) (zc zd (zc zd (zc zd (u*(4294967296:Int))+w)-zc zd (q*Y))) (zc zd (yz (zc zd (zc zd (zc zd (u*(4294967296:Int))+w)-zc zd (q*Y))) y1))) Q):
  ∀(n:Nat) (r:Int),(n:Int)<18446744073709551616->(n:Int)*y1+r=u->0<=r->r<4294967296->u*4294967296+w<((n:Int)+1)*Y->Ends fA (L1 Y s y1 y0 u w z n r) Q:=by
 intro n;induction n with
 |zero=>
  intro r hn he r0 r1 hup;have hz:decide (y1≠0)=true:=w4 (by omega);refine yq (Ar ..) (yo (by simp) (yo (w8 ?_) (ze hz (hx _ (by omega) ⟨?_,hup⟩))))
  ·rw[show((0:Nat):Int)*y0=0 by simp,wu 0 (by omega) (by omega),wu (4294967296*r) (by omega) (by omega),wu _ (by omega) (by omega)];omega
  ·exact Lc hY he (by rw[show((0:Nat):Int)*y0=0 by simp];omega)
 |succ n ih=>
  intro r hn he r0 r1 hup;have hz:decide (y1≠0)=true:=w4 (by omega);have e1:zc .u64 (((n+1:Nat):Int)-1)=(n:Int):=by rw[wu _ (by omega) (by omega)];omega
  have e2:zc .u64 (r+y1)=r+y1:=wu _ (by omega) (by omega);have hY0:0<=Y:=by omega
  have he':(n:Int)*y1+(r+y1)=u:=by
   rw[show((n+1:Nat):Int)=(n:Int)+1 by omega,z6,yp]at he;omega
  have ec:((n+1:Nat):Int)=(n:Int)+1:=by omega
  have dec:u*4294967296+w<((n:Int)+1)*Y->r+y1<4294967296->Ends fA (L1 Y s y1 y0 u w z n (r+y1)) Q:=fun h1' h2'=>
   ih (r+y1) (by omega) he' (by omega) h2' h1'
  have cut:u*4294967296+w<((n:Int)+1)*Y->4294967296<=r+y1->Exact Y u w n:=fun h1' h2'=>
   ⟨SZ hY (by omega) h0 hu hw.1 he' h2',h1'⟩
  refine yq (Ar ..) ?_;conv=>zeta
  rw[e1,e2];refine zk (fun c=>?_) (fun c=>zk (fun d=>?_) (fun d=>?_))
  ·have c:=w6 c;have hb:u*4294967296+w<((n:Int)+1)*Y:=by rw[<-ec];exact Ud hu hY0 hw.2 c
   exact zk (fun e=>ze hz (hx _ (by omega) (cut hb (w6 e)))) (fun e=>dec hb (by have:=w7 e;omega))
  ·have c:=w7 c;have d:=w6 d;have a:=zj (show((n+1:Nat):Int)<=4294967295 by omega) h0.1;have b:=zt (show 0<=((n+1:Nat):Int)by omega) h0.1;rw[wu (((n+1:Nat):Int)*y0) (by omega) (by omega),wu (4294967296*r) (by omega) (by omega),wu _ (by omega) (by omega)]at d;have hb:u*4294967296+w<((n:Int)+1)*Y:=by rw[<-ec];exact XZ hY he d
   exact zk (fun e=>ze hz (hx _ (by omega) (cut hb (w6 e)))) (fun e=>dec hb (by have:=w7 e;omega))
  ·have c:=w7 c;have d:=w7 d;have a:=zj (show((n+1:Nat):Int)<=4294967295 by omega) h0.1;have b:=zt (show 0<=((n+1:Nat):Int)by omega) h0.1;rw[wu (((n+1:Nat):Int)*y0) (by omega) (by omega),wu (4294967296*r) (by omega) (by omega),wu _ (by omega) (by omega)]at d;exact ze hz (hx _ (by omega) ⟨Lc hY he (by omega),hup⟩)
theorem A4(Y s y1 y0 u w p:Int)(hY:Y=y1*4294967296+y0)(h1:0<y1/\y1<4294967296)(h0:0<=y0/\y0<4294967296)(hu:u<Y)(hw:0<=w/\w<4294967296)(hs:0<=s)
  (hx:∀q:Int,0<=q->Exact Y u w q->∀ob,Q (PV.tup [PV.dat (zh zd) (zc zd (zc zd (p*(4294967296:Int))+q)),PV.dat (zh zd) (zn (zc zd (zc zd (zc zd (u*(4294967296:Int))+w)-zc zd (q*Y))) ((2:Int)^qq (qz s) (64:Nat)))]) ob):
  ∀(n:Nat) (r:Int),(n:Int)<18446744073709551616->(n:Int)*y1+r=u->0<=r->r<4294967296->u*4294967296+w<((n:Int)+1)*Y->Ends fA (L2 Y s y1 y0 w p r u n) Q:=by
 intro n;induction n with
 |zero=>
  intro r hn he r0 r1 hup;have hz:decide (0<=s)=true:=w4 hs;refine yq (AV ..) (yo (by simp) (yo (w8 ?_) (ze hz (zi (hx _ (by omega) ⟨?_,hup⟩ _)))))
  ·rw[show((0:Nat):Int)*y0=0 by simp,wu 0 (by omega) (by omega),wu (4294967296*r) (by omega) (by omega),wu _ (by omega) (by omega)];omega
  ·exact Lc hY he (by rw[show((0:Nat):Int)*y0=0 by simp];omega)
 |succ n ih=>
  intro r hn he r0 r1 hup;have hz:decide (0<=s)=true:=w4 hs;have e1:zc .u64 (((n+1:Nat):Int)-1)=(n:Int):=by rw[wu _ (by omega) (by omega)];omega
  have e2:zc .u64 (r+y1)=r+y1:=wu _ (by omega) (by omega);have hY0:0<=Y:=by omega
  have he':(n:Int)*y1+(r+y1)=u:=by
   rw[show((n+1:Nat):Int)=(n:Int)+1 by omega,z6,yp]at he;omega
  have ec:((n+1:Nat):Int)=(n:Int)+1:=by omega
  have dec:u*4294967296+w<((n:Int)+1)*Y->r+y1<4294967296->Ends fA (L2 Y s y1 y0 w p (r+y1) u n) Q:=fun h1' h2'=>
   ih (r+y1) (by omega) he' (by omega) h2' h1'
  have cut:u*4294967296+w<((n:Int)+1)*Y->4294967296<=r+y1->Exact Y u w n:=fun h1' h2'=>
   ⟨SZ hY (by omega) h0 hu hw.1 he' h2',h1'⟩
  refine yq (AV ..) ?_;conv=>zeta
  rw[e1,e2];refine zk (fun c=>?_) (fun c=>zk (fun d=>?_) (fun d=>?_))
  ·have c:=w6 c;have hb:u*4294967296+w<((n:Int)+1)*Y:=by rw[<-ec];exact Ud hu hY0 hw.2 c
   exact zk (fun e=>ze hz (zi (hx _ (by omega) (cut hb (w6 e)) _))) (fun e=>dec hb (by have:=w7 e;omega))
  ·have c:=w7 c;have d:=w6 d;have a:=zj (show((n+1:Nat):Int)<=4294967295 by omega) h0.1;have b:=zt (show 0<=((n+1:Nat):Int)by omega) h0.1;rw[wu (((n+1:Nat):Int)*y0) (by omega) (by omega),wu (4294967296*r) (by omega) (by omega),wu _ (by omega) (by omega)]at d;have hb:u*4294967296+w<((n:Int)+1)*Y:=by rw[<-ec];exact XZ hY he d
   exact zk (fun e=>ze hz (zi (hx _ (by omega) (cut hb (w6 e)) _))) (fun e=>dec hb (by have:=w7 e;omega))
  ·have c:=w7 c;have d:=w7 d;have a:=zj (show((n+1:Nat):Int)<=4294967295 by omega) h0.1;have b:=zt (show 0<=((n+1:Nat):Int)by omega) h0.1;rw[wu (((n+1:Nat):Int)*y0) (by omega) (by omega),wu (4294967296*r) (by omega) (by omega),wu _ (by omega) (by omega)]at d;exact ze hz (zi (hx _ (by omega) ⟨Lc hY he (by omega),hup⟩ _))
end T255
theorem Ut{y:Int}(h1:0<y)(h2:y<18446744073709551616):∃s:Nat,Sp.lz y=(s:Int)/\s<=63/\y*2^s<18446744073709551616/\9223372036854775808<=y*2^s:=by
 obtain⟨n,rfl⟩:=zp (yn h1);have hn:n≠0:=by omega
 have hk:n.log2<64:=(Nat.log2_lt hn).2 (by omega);have a:=Nat.log2_self_le hn;have b:=Nat.lt_log2_self (n:=n);have e1:2^n.log2*2^(63-n.log2)=2^63:=by rw[<-qy];congr 1;omega
 have e2:2^(n.log2+1)*2^(63-n.log2)=2^64:=by rw[<-qy];congr 1;omega
 have c1:2^63<=n*2^(63-n.log2):=by rw[<-e1];exact Nat.mul_le_mul_right _ a
 have c2:n*2^(63-n.log2)<2^64:=by rw[<-e2];exact Nat.mul_lt_mul_of_pos_right b (qv _)
 refine⟨63-n.log2,?_,by omega,?_,?_⟩
 ·unfold Sp.lz Sp.EL;rw[wc (by omega),zl];omega
 ·have:((n*2^(63-n.log2):Nat):Int)<18446744073709551616:=by omega
  rw[yx,yr]at this;exact this
 ·have:(9223372036854775808:Int)<=((n*2^(63-n.log2):Nat):Int):=by omega
  rw[yx,yr]at this;exact this
theorem XV{a b:Int}{s:Nat}(ha:0<=a)(hb:0<=b)(h:b<2^s)(hm:a*2^s+b<18446744073709551616):YB .u64 (a*2^s) b=a*2^s+b:=by
 obtain⟨m,rfl⟩:=zp ha;obtain⟨k,rfl⟩:=zp hb;have ep:((m:Int)*2^s)=((m*2^s:Nat):Int):=by rw[yx,yr];rfl
 have hk:k<2^s:=by
  have e:((2:Int)^s)=((2^s:Nat):Int):=by rw[yr];rfl
  rw[e]at h;omega
 rw[ep]at hm ⊢;have e:(ye 64 ((m*2^s:Nat):Int)|||ye 64 (k:Int)).toNat=m*2^s+k:=by
  rw[BitVec.toNat_or,y9,y9,qf,qf,qm (by omega),qm (by omega),Nat.mul_comm m,Nat.two_pow_add_eq_or_of_lt hk]
 show zc .u64 (((ye 64 ((m*2^s:Nat):Int)|||ye 64 (k:Int)).toNat:Nat):Int)=_;rw[e,iO _ (by omega)];omega
namespace T255
theorem start{u y1 y0 Y w:Int}(hY:Y=y1*4294967296+y0)(h1:0<y1/\y1<4294967296)(h0:0<=y0)(hu:0<=u/\u<18446744073709551616)(hw:w<4294967296):
  ∃(n:Nat) (r:Int),zc .u64 (yz u y1)=(n:Int)/\zc .u64 (u-zc .u64 ((n:Int)*y1))=r/\(n:Int)<18446744073709551616/\(n:Int)*y1+r=u/\0<=r/\r<4294967296/\u*4294967296+w<((n:Int)+1)*Y:=by
 have q0:0<=u/y1:=qw hu.1 (by omega);have q1:u/y1<=u:=Int.ediv_le_self _ hu.1;have ed:=Int.mul_ediv_add_emod u y1;have r0:=Int.emod_nonneg u (show y1≠0 by omega);have r1:=Int.emod_lt_of_pos u h1.1;rw[ya]at ed;obtain⟨n,hn⟩:=zp q0;have hp:0<=(n:Int)*y1:=zt (by omega) (by omega);rw[hn]at ed;refine⟨n,u % y1,?_,?_,by omega,ed,r0,by omega,?_⟩
 ·rw[qj hu.1,hn,wu _ (by omega) (by omega)]
 ·rw[wu ((n:Int)*y1) (by omega) (by omega),wu _ (by omega) (by omega)];omega
 ·subst hY;have a:((n:Int)+1)*(y1*4294967296+y0)=((n:Int)*y1+y1)*4294967296+((n:Int)+1)*y0:=by
   rw[yc, <-zr,z6,yp]
  have b:0<=((n:Int)+1)*y0:=zt (by omega) h0;rw[a];omega
theorem Qq{u w q Y:Int}(hE:Exact Y u w q)(hY:Y<18446744073709551616):zc .u64 (zc .u64 (zc .u64 (u*(4294967296:Int))+w)-zc .u64 (q*Y))=u*4294967296+w-q*Y:=by
 obtain⟨a,b⟩:=hE;rw[z6,yp]at b;rw[KV,KV,KV,KV];generalize q*Y=A at*;omega
theorem nD(h:Ag Bf 256 xN):DQ fA:=Ab h AQ
set_option maxHeartbeats 1000000 in
theorem ok(hlz:Ag Bf 256 xN):Ag Bf 255 Sm:=by
 refine MQ (X:=fA) rfl (nD hlz) (d:=9) (by kernel_rfl) (by kernel_rfl) (by kernel_rfl) (fun(i:Int×Int×Int) hi=>?_) (BA (by kernel_rfl));obtain⟨hi',lo,y⟩:=i;have hi:(zq hi'&&zq lo&&zq y&&decide (hi'<y))=true:=hi;rw[zf,zf,zf,w5]at hi;obtain⟨⟨⟨h1,h2⟩,h3⟩,h4⟩:=hi;have uy:=h3;have h1:=Sp.A2 h1;have h2:=Sp.A2 h2;have h3:=Sp.A2 h3;have hg:∀q r ob,q=Sp.dq hi' lo y->r=Sp.dr hi' lo y->Ad Sm (hi',lo,y) (PV.tup [PV.dat (zh zd) q,PV.dat (zh zd) r]) ob:=fun q r ob e1 e2=>zy rfl rfl (Prod.ext e1 e2)
 refine yj (Ak hi' lo y) (yo (by simp;omega) (yo (w8 (by omega)) (zk (fun c=>?_) (fun c=>?_))))
 ·have c:hi'=0:=by simpa using c
  subst c;have q0:0<=lo/y:=qw h2.1 (by omega);have q1:lo/y<=lo:=Int.ediv_le_self _ h2.1;refine ze (w4 (by omega)) (ze (w4 (by omega)) (zi (hg _ _ _ ?_ ?_)))
  ·unfold Sp.dq;rw[qj h2.1,wu _ (by omega) (by omega),Int.zero_mul,qt]
  ·unfold Sp.dr;rw[Int.tmod_eq_emod_of_nonneg h2.1,Int.zero_mul,qt]
 ·have c:hi'≠0:=by simpa using c
  obtain⟨s,hs,hs63,hlt,hge⟩:=Ut (y:=y) (by omega) h3.2;have es:zc .u64 (s:Int)=(s:Int):=iO s (by omega);have em:qq s 64=s:=by omega
  have es2:zc .u64 ((64:Int)-(s:Int))=((64-s:Nat):Int):=by rw[wu _ (by omega) (by omega)];omega
  have em2:qq (64-s) 64=64-s:=by omega
  have hPR:(2:Int)^s*2^(64-s)=18446744073709551616:=by rw[<-Int.pow_add,show s+(64-s)=64 by omega];rfl
  have hP:(0:Int)<2^s:=Int.pow_pos (by decide);have hR:(0:Int)<2^(64-s):=Int.pow_pos (by decide);have a0:0<=lo/2^(64-s):=qw h2.1 (by omega);have led:=Int.mul_ediv_add_emod lo (2^(64-s));have c0:=Int.emod_nonneg lo (show(2:Int)^(64-s)≠0 by omega);have c1:=Int.emod_lt_of_pos lo hR;have aP:lo/2^(64-s)<2^s:=Int.ediv_lt_of_lt_mul hR (by rw[hPR];exact h2.2);have hiP:hi'*2^s+2^s<=y*2^s:=by
   have:=zj (show hi'+1<=y by omega) (yn hP);rw[z6,yp]at this;exact this
  have hi0:0<=hi'*2^s:=zt h1.1 (yn hP);have efd:zn lo ((2:Int)^(64-s))=lo/2^(64-s):=yi _ (by omega);have eio:YB .u64 (hi'*2^s) (lo/2^(64-s))=hi'*2^s+lo/2^(64-s):=XV h1.1 a0 aP (by omega);have cP0:0<=(lo % 2^(64-s))*2^s:=zt c0 (yn hP);have cP1:(lo % 2^(64-s))*2^s<18446744073709551616:=by
   have:=Int.mul_lt_mul_of_pos_right c1 hP;rw[ya (2^(64-s)),hPR]at this;exact this
  have loP:lo*2^s=(lo/2^(64-s))*18446744073709551616+(lo % 2^(64-s))*2^s:=by
   conv=>lhs;rw[<-led]
   rw[z6, <-hPR,ya (2^(64-s)) (lo/2^(64-s)),zr,ya (2^(64-s)) (2^s)]
  have elo:zc .u64 (lo*2^s)=(lo % 2^(64-s))*2^s:=by rw[loP,KV];omega
  have hN:(hi'*2^s+lo/2^(64-s))*18446744073709551616+(lo % 2^(64-s))*2^s=(hi'*18446744073709551616+lo)*2^s:=by
   rw[z6 (hi'*18446744073709551616) lo (2^s),loP,zr hi' 18446744073709551616 (2^s),ya 18446744073709551616 ((2:Int)^s), <-zr];omega
  have ewy:zc .u64 (y*2^s)=y*2^s:=wu _ (by omega) (by omega);have ewh:zc .u64 (hi'*2^s)=hi'*2^s:=wu _ hi0 (by omega);have z0:decide ((0:Int)<=(s:Int))=true:=w4 (by omega);have fin:∀q:Int,q*(y*2^s)<=(hi'*18446744073709551616+lo)*2^s->(hi'*18446744073709551616+lo)*2^s<(q+1)*(y*2^s)->q=Sp.dq hi' lo y/\zn ((hi'*18446744073709551616+lo)*2^s-q*(y*2^s)) (2^s)=Sp.dr hi' lo y:=by
   intro q f1 f2;unfold Sp.dq Sp.dr;generalize hi'*18446744073709551616+lo=M at*;rw[<-zr]at f1 f2;have g1:q*y<=M:=Int.le_of_mul_le_mul_right f1 hP;have g2:M<(q+1)*y:=Int.lt_of_mul_lt_mul_right f2 (yn hP);rw[z6,yp]at g2;obtain⟨u1,u2⟩:=(Int.ediv_emod_unique (a:=M) (b:=y) (r:=M-q*y) (q:=q) (by omega)).2 ⟨by rw[ya y q];omega,by omega,by omega⟩;refine⟨u1.symm,?_⟩;rw[u2, <-zr, <-Int.sub_mul,yi _ (yn hP)];exact Int.mul_ediv_cancel _ (by omega)
  obtain⟨Y,eY⟩:=zp (show 0<=y*2^s by omega);obtain⟨C,eC⟩:=zp cP0;have hU0:0<=hi'*2^s+lo/2^(64-s):=by omega
  have hUY:hi'*2^s+lo/2^(64-s)<y*2^s:=by omega
  rw[hs,es,es2,zl,zl,em,em2,ewy,ewh,efd,eio,elo];rw[eC]at hN cP1 ⊢;rw[eY]at hlt hge hUY fin ⊢;generalize hU:hi'*2^s+lo/2^(64-s)=U at*;generalize hM:(hi'*18446744073709551616+lo)*2^s=M at*;rw[YA,YA,NT Y (by omega),NT C (by omega)];have hY:(Y:Int)=((Y/4294967296:Nat):Int)*4294967296+((Y % 4294967296:Nat):Int):=by omega
  have b1:0<((Y/4294967296:Nat):Int)/\((Y/4294967296:Nat):Int)<4294967296:=by omega
  have b0:0<=((Y % 4294967296:Nat):Int)/\((Y % 4294967296:Nat):Int)<4294967296:=by omega
  have w1:0<=((C/4294967296:Nat):Int)/\((C/4294967296:Nat):Int)<4294967296:=by omega
  have w0:0<=((C % 4294967296:Nat):Int)/\((C % 4294967296:Nat):Int)<4294967296:=by omega
  have hC:(C:Int)=((C/4294967296:Nat):Int)*4294967296+((C % 4294967296:Nat):Int):=by omega
  generalize ((Y/4294967296:Nat):Int)=y1 at*;generalize ((Y % 4294967296:Nat):Int)=y0 at*;generalize ((C/4294967296:Nat):Int)=w at*;generalize ((C % 4294967296:Nat):Int)=z at*;refine ze uy (ze z0 (ze rfl (ze z0 (ze (w4 (by omega)) (ze z0 (ze rfl (ze (w4 (by omega)) ?_)))))));obtain⟨n,r,e1,e2,n1,n2,n3,n4,n5⟩:=start (u:=U) (w:=w) hY b1 b0.1 (by omega) w1.2;rw[e1,e2];refine Aq (Y:Int) s y1 y0 U w z hY b1 b0 hUY w1 (fun p p0 hp=>?_) n r n1 n2 n3 n4 n5;have er:=Qq hp (by omega);rw[er];have hp1:=hp.1;have hp2:=hp.2;rw[z6,yp]at hp2;obtain⟨m,t,k1,k2,m1,m2,m3,m4,m5⟩:=start (u:=U*4294967296+w-p*Y) (w:=z) hY b1 b0.1 (by omega) w0.2;rw[k1,k2];refine A4 (Y:Int) s y1 y0 _ z p hY b1 b0 (by omega) w0 (by omega) (fun q q0 hq ob=>?_) m t m1 m2 m3 m4 m5;rw[Qq hq (by omega),zl,em];obtain⟨hq1,hq2⟩:=hq;have ez:(p*4294967296+q)*(Y:Int)=p*Y*4294967296+q*Y:=by
   rw[z6,zr,ya 4294967296 (Y:Int), <-zr]
  have ez1:(p*4294967296+q+1)*(Y:Int)=p*Y*4294967296+q*Y+Y:=by
   rw[z6,ez,yp]
  rw[z6,yp]at hq2;obtain⟨f1,f2⟩:=fin (p*4294967296+q) (by rw[ez];omega) (by rw[ez1];omega);refine hg _ _ _ ?_ ?_
  ·have hb:Sp.dq hi' lo y<18446744073709551616:=by
    unfold Sp.dq;refine Int.ediv_lt_of_lt_mul (by omega) ?_;have:=yd (show hi'+1<=y by omega) (show(0:Int)<=18446744073709551616 by decide);omega
   rw[<-f1]at hb ⊢;rw[KV,KV];omega
  ·rw[<-f2,ez];congr 1;omega
end T255
open Sp
theorem fX(x k:Nat)(h:2^k<=x):x.log2=k+(x/2^k).log2:=by
 have hk:=qv k;have hz:x/2^k≠0:=by
  have:=Nat.div_pos h hk;omega
 have hx:x≠0:=by omega
 refine(Nat.log2_eq_iff hx).2 ⟨?_,?_⟩
 ·rw[qy];exact Nat.le_trans (Nat.mul_le_mul_left _ (Nat.log2_self_le hz)) (Nat.mul_div_le x (2^k))
 ·rw[Nat.add_assoc,qy];have a:x/2^k+1<=2^((x/2^k).log2+1):=Nat.lt_log2_self;have b:=Nat.mul_le_mul_left (2^k) a;have c:=Nat.lt_mul_div_succ x hk;exact Nat.lt_of_lt_of_le c b
theorem PZ(x k:Nat)(h:2^k<=x):EL (x:Int)=(k:Int)+EL ((x/2^k:Nat):Int):=by
 have hk:=qv k;have hz:=Nat.div_pos h hk;have e:=fX x k h;unfold EL;rw[wc (by omega),wc (by omega),zl,zl,e];omega
theorem vP(n k:Nat):zn (n:Int) ((2:Int)^k)=((n/2^k:Nat):Int):=by
 have:(0:Int)<2^k:=Int.pow_pos (by decide);rw[yi _ (by omega),Int.natCast_ediv,yr];rfl
def wB:List UInt8:=[(0:UInt8),(1:UInt8),(2:UInt8),(2:UInt8),(3:UInt8),(3:UInt8),(3:UInt8),(3:UInt8),(4:UInt8),(4:UInt8),(4:UInt8),(4:UInt8),(4:UInt8),(4:UInt8),(4:UInt8),(4:UInt8),(5:UInt8),(5:UInt8),(5:UInt8),(5:UInt8),(5:UInt8),(5:UInt8),(5:UInt8),(5:UInt8),(5:UInt8),(5:UInt8),(5:UInt8),(5:UInt8),(5:UInt8),(5:UInt8),(5:UInt8),(5:UInt8),(6:UInt8),(6:UInt8),(6:UInt8),(6:UInt8),(6:UInt8),(6:UInt8),(6:UInt8),(6:UInt8),(6:UInt8),(6:UInt8),(6:UInt8),(6:UInt8),(6:UInt8),(6:UInt8),(6:UInt8),(6:UInt8),(6:UInt8),(6:UInt8),(6:UInt8),(6:UInt8),(6:UInt8),(6:UInt8),(6:UInt8),(6:UInt8),(6:UInt8),(6:UInt8),(6:UInt8),(6:UInt8),(6:UInt8),(6:UInt8),(6:UInt8),(6:UInt8),(7:UInt8),(7:UInt8),(7:UInt8),(7:UInt8),(7:UInt8),(7:UInt8),(7:UInt8),(7:UInt8),(7:UInt8),(7:UInt8),(7:UInt8),(7:UInt8),(7:UInt8),(7:UInt8),(7:UInt8),(7:UInt8),(7:UInt8),(7:UInt8),(7:UInt8),(7:UInt8),(7:UInt8),(7:UInt8),(7:UInt8),(7:UInt8),(7:UInt8),(7:UInt8),(7:UInt8),(7:UInt8),(7:UInt8),(7:UInt8),(7:UInt8),(7:UInt8),(7:UInt8),(7:UInt8),(7:UInt8),(7:UInt8),(7:UInt8),(7:UInt8),(7:UInt8),(7:UInt8),(7:UInt8),(7:UInt8),(7:UInt8),(7:UInt8),(7:UInt8),(7:UInt8),(7:UInt8),(7:UInt8),(7:UInt8),(7:UInt8),(7:UInt8),(7:UInt8),(7:UInt8),(7:UInt8),(7:UInt8),(7:UInt8),(7:UInt8),(7:UInt8),(7:UInt8),(7:UInt8),(7:UInt8),(7:UInt8),(7:UInt8),(7:UInt8),(8:UInt8),(8:UInt8),(8:UInt8),(8:UInt8),(8:UInt8),(8:UInt8),(8:UInt8),(8:UInt8),(8:UInt8),(8:UInt8),(8:UInt8),(8:UInt8),(8:UInt8),(8:UInt8),(8:UInt8),(8:UInt8),(8:UInt8),(8:UInt8),(8:UInt8),(8:UInt8),(8:UInt8),(8:UInt8),(8:UInt8),(8:UInt8),(8:UInt8),(8:UInt8),(8:UInt8),(8:UInt8),(8:UInt8),(8:UInt8),(8:UInt8),(8:UInt8),(8:UInt8),(8:UInt8),(8:UInt8),(8:UInt8),(8:UInt8),(8:UInt8),(8:UInt8),(8:UInt8),(8:UInt8),(8:UInt8),(8:UInt8),(8:UInt8),(8:UInt8),(8:UInt8),(8:UInt8),(8:UInt8),(8:UInt8),(8:UInt8),(8:UInt8),(8:UInt8),(8:UInt8),(8:UInt8),(8:UInt8),(8:UInt8),(8:UInt8),(8:UInt8),(8:UInt8),(8:UInt8),(8:UInt8),(8:UInt8),(8:UInt8),(8:UInt8),(8:UInt8),(8:UInt8),(8:UInt8),(8:UInt8),(8:UInt8),(8:UInt8),(8:UInt8),(8:UInt8),(8:UInt8),(8:UInt8),(8:UInt8),(8:UInt8),(8:UInt8),(8:UInt8),(8:UInt8),(8:UInt8),(8:UInt8),(8:UInt8),(8:UInt8),(8:UInt8),(8:UInt8),(8:UInt8),(8:UInt8),(8:UInt8),(8:UInt8),(8:UInt8),(8:UInt8),(8:UInt8),(8:UInt8),(8:UInt8),(8:UInt8),(8:UInt8),(8:UInt8),(8:UInt8),(8:UInt8),(8:UInt8),(8:UInt8),(8:UInt8),(8:UInt8),(8:UInt8),(8:UInt8),(8:UInt8),(8:UInt8),(8:UInt8),(8:UInt8),(8:UInt8),(8:UInt8),(8:UInt8),(8:UInt8),(8:UInt8),(8:UInt8),(8:UInt8),(8:UInt8),(8:UInt8),(8:UInt8),(8:UInt8),(8:UInt8),(8:UInt8),(8:UInt8),(8:UInt8),(8:UInt8),(8:UInt8),(8:UInt8),(8:UInt8)]
theorem WD:∀m:Fin 256,((yg (wB.getD m.val 0):Nat):Int)=EL (m.val:Int)/\zc .u8 (m.val:Int)=(m.val:Int)/\EL (m.val:Int)<=8/\0<=EL (m.val:Int):=by decide+kernel
theorem Mr{ACC:Int}(a z x:Nat)(hA:ACC=a)(ha:a<=64)(hz:z<256)(hx:EL (x:Int)=(a:Int)+EL (z:Int)):zc .i64 (ACC+zc .i64 ((yg (wB.getD (qz (zc .u8 (z:Int))) 0):Nat):Int))=EL x:=by
 obtain⟨e1,e2,e3,e4⟩:=WD ⟨z,hz⟩;have e1:((yg (wB.getD z 0):Nat):Int)=EL (z:Int):=e1;have e2:zc .u8 (z:Int)=(z:Int):=e2;have e3:EL (z:Int)<=8:=e3;have e4:0<=EL (z:Int):=e4;rw[e2,zl,e1,hA,hx,wr (EL (z:Int)) (by omega) (by omega),wr _ (by omega) (by omega)]
theorem qY(z:Nat)(hz:z<256):(decide ((0:Sh.T (zh q9))<=zc q9 (z:Int))&&decide (zc q9 (z:Int)<(↑(256:Nat):Int)))=true:=by
 obtain⟨_,e2,_,_⟩:=WD ⟨z,hz⟩;have e2:zc .u8 (z:Int)=(z:Int):=e2;rw[e2];exact Aa (w4 (show(0:Int)<=(z:Int)by omega)) (w4 (by omega))
namespace T244
set_option maxHeartbeats 1000000 in
set_option maxRecDepth 100000 in
theorem ok:Ag Bf 244 Wv:=by
 refine BY Jb (fun(x:Int) hx=>?_);have hx:=Sp.A2 (n:=x) hx;obtain⟨x,rfl⟩:=zp hx.1;refine yj (Ak (x:Int)) ?_;conv=>zeta
 conv=>zeta
 rw[vP x 32,vP x 16,vP x 8,vP (x/2^32) 16,vP (x/2^32) 8,vP (x/2^32/2^16) 8,vP (x/2^16) 8];have l32:=PZ x 32;have l16:=PZ x 16;have l8:=PZ x 8;have l3216:=PZ (x/2^32) 16;have l328:=PZ (x/2^32) 8;have l32168:=PZ (x/2^32/2^16) 8;have l168:=PZ (x/2^16) 8;refine zk (fun c1=>ze rfl (zk (fun c2=>ze rfl (zk (fun c3=>ze rfl (ze (qY _ ?_) (zi (zy rfl rfl (Mr 56 _ x (by decide+kernel) (by decide) ?_ ?_))))) (fun c3=>ze (qY _ ?_) (zi (zy rfl rfl (Mr 48 _ x (by decide+kernel) (by decide) ?_ ?_)))))) (fun c2=>zk (fun c3=>ze rfl (ze (qY _ ?_) (zi (zy rfl rfl (Mr 40 _ x (by decide+kernel) (by decide) ?_ ?_))))) (fun c3=>ze (qY _ ?_) (zi (zy rfl rfl (Mr 32 _ x rfl (by decide) ?_ ?_))))))) (fun c1=>zk (fun c2=>ze rfl (zk (fun c3=>ze rfl (ze (qY _ ?_) (zi (zy rfl rfl (Mr 24 _ x (by decide+kernel) (by decide) ?_ ?_))))) (fun c3=>ze (qY _ ?_) (zi (zy rfl rfl (Mr 16 _ x (by decide+kernel) (by decide) ?_ ?_)))))) (fun c2=>zk (fun c3=>ze rfl (ze (qY _ ?_) (zi (zy rfl rfl (Mr 8 _ x (by decide+kernel) (by decide) ?_ ?_))))) (fun c3=>ze (qY _ ?_) (zi (zy rfl rfl (Mr 0 _ x rfl (by decide) ?_ ?_))))));all_goals
  first
   |replace c1:=w6 c1
   |replace c1:=w7 c1
  first
   |replace c2:=w6 c2
   |replace c2:=w7 c2
  first
   |replace c3:=w6 c3
   |replace c3:=w7 c3
  omega
end T244
theorem lS:DQ XD1:=Ab T244.ok AQ
theorem Sf{n:Int}(h1:0<=n)(h2:n<18446744073709551616):0<=Sp.EL n/\Sp.EL n<=64:=by
 unfold Sp.EL;split
 ·omega
 ·have:n.toNat.log2<64:=(Nat.log2_lt (by omega)).2 (by omega);omega
namespace T256
theorem ok:Ag Bf 256 xN:=by
 refine BY lS (fun(x:Int) hx=>?_);have h:=Sp.A2 (n:=x) hx;have hl:=Sf h.1 h.2;refine yj (Ak x) (ze hx (zi (zy rfl rfl ?_)));show zc .i64 (64-Sp.EL x)=Sp.lz x;unfold Sp.lz;exact wr _ (by omega) (by omega)
end T256
theorem bE:Ag Bf 255 Sm:=T255.ok T256.ok
end Go.Pe
namespace Go.Sp
def SG(a b:List Int):Bool:=B8 a&&B8 b&&decide (a.length<=9000)&&decide (b.length<=9000)&&decide (0<Am b)
end Go.Sp
namespace Go.Pe
open Sp
open Go.Det
def F9:Ao:=⟨[Df,Df],fun i=>SG i.1 i.2,[Df,Df],fun i=>(Br (Am i.1/Am i.2),Br (Am i.1 % Am i.2)),false⟩
def Jh:A3:=X7 [(199,X8),(218,Wo),(187,SF),(217,Vh),(233,V2),(255,Sm),(256,xN)]
end Go.Pe
namespace Go.Sp
def Hl(c:UInt8):Int:=(c.toNat:Int)-48
def BO(c:UInt8):Bool:=decide (48<=c.toNat)&&decide (c.toNat<=57)
def AA(n:Int):List UInt8->Int
 |[]=>n
 |c::r=>AA (10*n+Hl c) r
def Aj(s:List UInt8):Bool:=s.all BO
theorem CL:∀(n:Int) (a b:List UInt8),AA n (a++b)=AA (AA n a) b
 |_,[],_=>rfl
 |n,c::a,b=>by rw[qn,AA,AA,CL]
theorem Ep:∀(s:List UInt8) (n:Int),AA n s=n*10^s.length+AA 0 s
 |[],n=>by simp[AA]
 |c::s,n=>by
  rw[AA,AA,Ep s (10*n+Hl c),Ep s (10*0+Hl c),List.length_cons,qe,z6,qp,qt,ya 10 n,zr,ya 10 (10^s.length),ql]
theorem CV{c:UInt8}(h:BO c=true):0<=Hl c/\Hl c<=9:=by
 unfold BO at h;rw[zf,w5,w5]at h;unfold Hl;omega
theorem Be:∀ {s:List UInt8},Aj s=true->0<=AA 0 s/\AA 0 s<10^s.length
 |[],_=>by simp[AA]
 |c::s,h=>by
  unfold Aj at h;rw[List.all_cons,zf]at h;have a:=CV h.1;have b:=Be (s:=s) h.2;have hp:=AN (show(0:Int)<10 by decide) s.length;have c1:=zt a.1 (yn hp);have c2:=zj a.2 (yn hp);rw[AA,Ep,List.length_cons,qe,qp,qt,ya (10^s.length) 10];omega
theorem Bc{s:List UInt8}(h:Aj s=true)(i:Nat):Aj (s.take i)=true:=by
 unfold Aj at h ⊢;rw[y8]at h ⊢;exact fun x hx=>h x (List.mem_of_mem_take hx)
theorem BS{s:List UInt8}(h:Aj s=true)(i:Nat):Aj (s.drop i)=true:=by
 unfold Aj at h ⊢;rw[y8]at h ⊢;exact fun x hx=>h x (List.mem_of_mem_drop hx)
def AX(s:List UInt8):Bool:=decide (s≠[])&&Aj s&&(decide (s.getD 0 0≠48)||decide (s=[48]))
def Hr(a b:AU):AU:=if vI a<0/\Ae (vI a) % vI b≠0 then M7 (CD (-(Ae (vI a)/vI b))) (1,[])else CD (sg (decide (vI a<0)) (Ae (vI a)/vI b))
def rR(a b:AU):Int:=(Hr a b).1
def qV(a b:AU):List Int:=(Hr a b).2
def W5(a b:AU):Int:=Cx (vI a % vI b)
def WG(a b:AU):List Int:=Cw (vI a % vI b)
def gI(a b:Int):Int:=if a<0 then -(-(Int.gcd a b:Int))else(Int.gcd a b:Int)
theorem Gv(a b:Int):gI a b=(Int.gcd a b:Int):=by unfold gI;split<;>omega
def Mt(a b:AU):Int:=Cx (gI (vI a) (vI b))
def MX(a b:AU):List Int:=Cw (gI (vI a) (vI b))
def pI(a k:Int):Int:=if k<0 then -(-(a^k.toNat))else a^k.toNat
theorem Rg(a k:Int):pI a k=a^k.toNat:=by unfold pI;split<;>omega
def cE(a k:Int):Bool:=decide (0<=k)&&decide (k<=100000)&&decide (Ae (pI a k)<(18446744073709551616:Int)^(4000:Nat))
def TX(a:AU)(k:Int):Int:=Cx (pI (vI a) k)
def UP(a:AU)(k:Int):List Int:=Cw (pI (vI a) k)
def Ck(n:Int):List Int:=if n<0 then[]else[]
theorem Eb(n:Int):Ck n=[]:=by unfold Ck;split<;>rfl
def Ce(s:List UInt8):Int:=if s.getD 0 0=45 then -AA 0 (s.drop 1)else AA 0 s
def Ei(s:List UInt8):Bool:=decide (s.length<=5999)&&(if s.getD 0 0=45 then Aj (s.drop 1)else Aj s)
def C9(s:List UInt8):Int:=Cx (Ce s)
def De(s:List UInt8):List Int:=Cw (Ce s)
end Go.Sp
namespace Go.Pe
open Sp
open Go.Det
def GQ:Ao:=⟨[BJ,BJ],fun i=>Ba i.1&&Ba i.2&&decide (0<zg i.2),[BJ,BJ],fun i=>((rR i.1 i.2,qV i.1 i.2),(W5 i.1 i.2,WG i.1 i.2)),false⟩
def Yl:Ao:=⟨[BJ,BJ],fun i=>Ba i.1&&Ba i.2,[BJ],fun i=>(Mt i.1 i.2,MX i.1 i.2),false⟩
def gG:Ao:=⟨[BJ,i64],fun i=>Ba i.1&&cE (zg i.1) i.2,[BJ],fun i=>(TX i.1 i.2,UP i.1 i.2),false⟩
def OX:Ao:=⟨[.str],fun s=>Ei s,[BJ],fun s=>(C9 s,De s),false⟩
def ZY:Ao:=⟨[i64],fun _=>true,[BJ],fun n=>(n,Ck n),false⟩
def wY:A3:=Z0 [(197,[9,10])] [] [(197,[(9,[3,4,5,8,12,13]),(10,[3,4,5,14,15])])] [(121,ZY),(221,F9),(189,Oc),(190,jA),(175,gV),(146,OY),(137,JL)]
def XF0:A3:=X7 []
def zN:A3:=X7 [(197,GQ),(196,qX),(137,JL)]
def wX:A3:=X7 [(121,ZY),(136,QD)]
end Go.Pe
namespace Go.Sp
abbrev B9:Nat:=1000000000
def Jy(l:List Int):Bool:=decide (l.length<=20000)&&l.all fun d=>decide (0<=d)&&decide (d<1000000000)
def hR(l:List Int):Bool:=Jy l&&decide (l.length<=9000)
def A8(l:List Int):Bool:=Jy l&&uG l
def At(l:List Int):Int:=val B9 l
def BQ(n:Int):List Int:=dg B9 n
def rN(n:Int):Bool:=decide (n<0)
def rW(n:Int):List Int:=BQ (Ae n)
def Cd(neg:Bool)(w:List Int):Bool:=neg&&decide (Au w≠[])
def DM(s:List UInt8):Bool:=decide (s.length<=18)&&Aj s
def By(s:List UInt8):Int:=AA 0 s
def EV(s:List UInt8):Bool:=rN (Ce s)
def ES(s:List UInt8):List Int:=rW (Ce s)
def Cm(a b:List Int):List Int:=BQ (gI (At a) (At b))
end Go.Sp
namespace Go.Pe
open Sp
open Go.Det
abbrev li:Sh:=.list i64
abbrev Jg:Sh:=.pair .bool li
def SE:Ao:=⟨[li],fun l=>decide (qc (α:=Int) l<=20000),[li],fun l=>Au l,false⟩
def H9:Ao:=⟨[.bool,li],fun i=>decide (qc (α:=Int) i.2<=20000),[Jg],fun i=>(Cd i.1 i.2,Au i.2),false⟩
def Ya:Ao:=⟨[li,li],fun i=>A8 i.1&&A8 i.2,[i64],fun i=>Ci (At i.1) (At i.2),false⟩
def XP:Ao:=⟨[li,li],fun i=>Sp.hR i.1&&Sp.hR i.2,[li],fun i=>BQ (At i.1*At i.2),false⟩
def U0:Ao:=⟨[li,i64],fun i=>Jy i.1&&decide (0<(i.2:Int))&&decide ((i.2:Int)<1000000000),[li,i64],fun i=>(BQ (At i.1/i.2),At i.1 % i.2),false⟩
def Qi:Ao:=⟨[li,li],fun i=>A8 i.1&&A8 i.2&&decide (qc (α:=Int) i.1<=9000)&&decide (qc (α:=Int) i.2<=9000)&&decide (0<At i.2),[li,li],fun i=>(BQ (At i.1/At i.2),BQ (At i.1 % At i.2)),false⟩
def Ko:Ao:=⟨[li,li],fun i=>A8 i.1&&A8 i.2&&decide (qc (α:=Int) i.1<=9000)&&decide (qc (α:=Int) i.2<=9000),[li],fun i=>Cm i.1 i.2,false⟩
def Q8:Ao:=⟨[.str],fun s=>DM s,[i64],fun s=>By s,false⟩
def RO:Ao:=⟨[.str],fun s=>Ei s,[Jg],fun s=>(EV s,ES s),false⟩
def jN:A3:=X7 []
def Z5:A3:=X7 [(202,SE)]
def Mf:A3:=X7 [(161,Ya),(202,SE),(201,U0),(163,XP)]
def xJ:A3:=X7 [(157,Qi)]
def Z4:A3:=X7 [(151,Q8),(159,H9)]
end Go.Pe
namespace Go.Sp
def Dj:List UInt8:=[48,49,50,51,52,53,54,55,56,57]
def Yk(o:List Bool):List Bool:=(List.range 256).map fun j=>o.getD j false
def sK:List Bool:=zm 256 false
def NP(s:List UInt8):List UInt8:=((s.reverse.dropWhile BO).reverse).dropWhile BO
def Pr(s:List UInt8)(c:Int):Int:=match s.findIdx? (fun x=>x==c.toNat.toUInt8)with
 |some i=>(i:Int)
 |none=> -1
def Ay(s:List UInt8):List UInt8:=match s.findIdx? (fun x=>x==47)with
 |some i=>s.take i
 |none=>s
def AL(s:List UInt8):List UInt8:=match s.findIdx? (fun x=>x==47)with
 |some i=>s.drop (i+1)
 |none=>[]
def Bq(s:List UInt8):Bool:=s.any (fun x=>x==47)
def AZ(s:List UInt8):List UInt8:=if s.getD 0 0=45 then s.drop 1 else s
def preB(s:List UInt8):Bool:=decide (s.getD 0 0=45)
def qZ(s t:List UInt8):Bool:=decide (t=Dj)&&decide (s.length<=1000000)
def vJ(s t:List UInt8):Bool:=decide (t=[47])&&decide (s.length<=1000000)
def SB(s t:List UInt8):Bool:=decide (t=[45])&&decide (s.length<=1000000)
end Go.Sp
namespace Go.Pe
open Sp
open Go.Det
def VH:Ao:=⟨[.str,.str],fun i=>qZ i.1 i.2,[.str],fun i=>NP i.1,false⟩
def sF:Ao:=⟨[.str,.int .u8],fun i=>decide (0<=(i.2:Int))&&decide ((i.2:Int)<256),[i64],fun i=>Pr i.1 i.2,false⟩
def cQ:Ao:=⟨[.str,.str],fun i=>vJ i.1 i.2,[.str,.str,.bool],fun i=>(Ay i.1,Sp.AL i.1,Bq i.1),false⟩
def sC:Ao:=⟨[.str,.str],fun i=>SB i.1 i.2,[.str,.bool],fun i=>(AZ i.1,Sp.preB i.1),false⟩
def LZ:Ao:=⟨[.str],fun s=>decide (s.length<=1000000),[.bool],fun s=>AX s,false⟩
def Nw:A3:=X7 []
def YY:A3:=X7 [(231,⟨[.str,.str],fun _=>false,[.str],fun i=>i.1,false⟩),(232,⟨[.str,.str],fun _=>false,[.str],fun i=>i.1,false⟩),(226,⟨[.str,.int .u8],fun _=>false,[.str],fun i=>i.1,false⟩),(227,⟨[.str,.int .u8],fun _=>false,[.str],fun i=>i.1,false⟩)]
def XH1:A3:=X7 [(195,VH)]
def XH2:A3:=X7 [(274,sF)]
def Qb:A3:=X7 [(121,ZY),(185,gG),(136,QD),(146,OY),(171,Tk),(249,⟨[.str,i64,i64],fun _=>false,[i64],fun _=>(0:Int),false⟩),(216,⟨[.str],fun _=>false,[i64],fun _=>(0:Int),false⟩)]
end Go.Pe
namespace Go.Sp
def HJ(a:List UInt8):Bool:=AX (Ay (AZ a))&&(!preB a||decide (Ay (AZ a)≠[48]))&&(!Bq (AZ a)||(AX (AL (AZ a))&&decide (AL (AZ a)≠[48])&&decide (AL (AZ a)≠[49])))
def uP(a:List UInt8):Int:=AA 0 (Ay (AZ a))
def vU(a:List UInt8):Int:=AA 0 (AL (AZ a))
def AG(a:List UInt8):Int:=if HJ a=false then 1 else if 600<(Ay (AZ a)).length\/600<(AL (AZ a)).length then 4 else if Bq (AZ a)=true/\gI (uP a) (vU a)≠1 then 1 else 0
def A0(s:List UInt8):Int:=((Ay s).length:Int)
def Dd(a:List UInt8):Bool:=Ei (Ay a)&&Ei (AL a)&&decide (a.length<=5999)
def A6(a:List UInt8):Int:=Ce (Ay a)
def AH(a:List UInt8):Int:=if Bq a=true then Ce (AL a)else 1
def BB(a:List UInt8):Bool:=rN (A6 a)
def Bu(a:List UInt8):List Int:=rW (A6 a)
def Bj(a:List UInt8):Bool:=rN (AH a)
def Bg(a:List UInt8):List Int:=rW (AH a)
end Go.Sp
namespace Go.Pe
open Sp
open Go.Det
def Fc:Ao:=⟨[.str],fun s=>decide (s.length<=1000000),[i64],fun s=>AG s,false⟩
def Mh:Ao:=⟨[.str],fun s=>decide (s.length<=1000000),[i64],fun s=>A0 s,false⟩
def Ja:Ao:=⟨[i64],fun n=>CA n,[Jg],fun n=>(Sp.rN n,Sp.rW n),false⟩
def RV:Ao:=⟨[.str],fun s=>Dd s,[Jg,Jg],fun s=>((BB s,Bu s),(Bj s,Bg s)),false⟩
def Mm:A3:=Z0 [(69,[4,6,7,9,10])] [] [(69,[(4,[5,6,7,8]),(6,[5,6,7,8]),(7,[5,6,7,9]),(9,[5,6,7]),(10,[10])])] [(142,JO),(143,Qp),(140,sC),(131,cQ),(141,LZ),(144,Yl),(132,OX),(120,eF),(121,ZY)]
def sI:A3:=X7 [(159,H9)]
def XK3:A3:=X7 [(127,Mh),(155,RO),(152,Ja)]
def Uh:A3:=Z0 [(51,[4,7,9,11,13,14])] [] [(51,[(4,[0,3]),(7,[3,4]),(9,[3,4]),(11,[3,4]),(13,[5,6]),(14,[7])])] [(127,Mh),(128,LZ),(82,RV),(129,Ko)]
end Go.Pe
namespace Go.Sp
abbrev An:=(Int×List Int)×(Int×List Int)
def TV(a:AU):Bool:=Db a&&decide (a.2.length<=4000)
def E8(a:An):Bool:=TV a.1&&TV a.2
def Mc(a:List UInt8):Int:=Cx (A6 a)
def Po(a:List UInt8):List Int:=Cw (A6 a)
def J3(a:List UInt8):Int:=Cx (AH a)
def LQ(a:List UInt8):List Int:=Cw (AH a)
def iQ(a b:AU):AU:=if vI b<0 then Hr (C4 a) (C4 b)else Hr a b
def iQS(a b:AU):Int:=(iQ a b).1
def iQW(a b:AU):List Int:=(iQ a b).2
def CN(d:AU):Bool:=decide (d.2=[])&&decide (d.1=1)
def gR(n d:AU):AU:=(Mt n d,MX n d)
def M9(n d:AU):An:=if CN d=true then(n,d)else(iQ n (gR n d),iQ d (gR n d))
def Xk(n d:AU):An:=if vI d<0 then M9 (C4 n) (C4 d)else M9 n d
def fWh(n:AU):An:=(n,(1,Ck 1))
def Gs(a b:An):An:=if CN a.2=true/\CN b.2=true then fWh (Em a.1 b.1)else Xk (Em (FF a.1 b.2) (FF b.1 a.2)) (FF a.2 b.2)
def G6(a b:An):An:=Xk (FF a.1 b.1) (FF a.2 b.2)
def uM(a:An):An:=(C4 a.1,a.2)
def FM(a b:An):An:=Gs a (uM b)
def SY(a:An):An:=Xk a.2 a.1
def HP(a b:An):An:=G6 a (SY b)
def nS(f:An):Int:=f.1.1
def nW(f:An):List Int:=f.1.2
def dS(f:An):Int:=f.2.1
def dW(f:An):List Int:=f.2.2
def Wu(n d:AU):Int:=nS (Xk n d)
def We(n d:AU):List Int:=nW (Xk n d)
def Vb(n d:AU):Int:=dS (Xk n d)
def VB(n d:AU):List Int:=dW (Xk n d)
def Mq(a b:An):Int:=nS (Gs a b)
def Mz(a b:An):List Int:=nW (Gs a b)
def MY(a b:An):Int:=dS (Gs a b)
def MV(a b:An):List Int:=dW (Gs a b)
def dY(a b:An):Int:=nS (FM a b)
def jB(a b:An):List Int:=nW (FM a b)
def cB(a b:An):Int:=dS (FM a b)
def iC(a b:An):List Int:=dW (FM a b)
def Kr(a b:An):Int:=nS (G6 a b)
def Kc(a b:An):List Int:=nW (G6 a b)
def K3(a b:An):Int:=dS (G6 a b)
def KM(a b:An):List Int:=dW (G6 a b)
def yT(a:An):Int:=nS (SY a)
def xY(a:An):List Int:=nW (SY a)
def zL(a:An):Int:=dS (SY a)
def yM(a:An):List Int:=dW (SY a)
def Ye(a b:An):Int:=nS (HP a b)
def Xg(a b:An):List Int:=nW (HP a b)
def WW(a b:An):Int:=dS (HP a b)
def WQ(a b:An):List Int:=dW (HP a b)
def BK(a:An):Bool:=E8 a&&decide (0<vI a.2)
def L0(n d:AU):Bool:=Ba n&&Ba d&&decide (vI d≠0)
end Go.Sp
namespace Go.Pe
open Sp
open Go.Det
abbrev Bh:Sh:=.pair BJ BJ
def iN:Ao:=⟨[.str],fun s=>Dd s,[Bh],fun s=>((Mc s,Po s),(J3 s,LQ s)),false⟩
def cIQ:Ao:=⟨[BJ,BJ],fun i=>L0 i.1 i.2,[BJ],fun i=>(Sp.iQS i.1 i.2,Sp.iQW i.1 i.2),false⟩
def rA:Ao:=⟨[BJ,BJ],fun i=>L0 i.1 i.2,[Bh],fun i=>((Wu i.1 i.2,We i.1 i.2),(Vb i.1 i.2,VB i.1 i.2)),false⟩
def PH:Ao:=⟨[Bh],fun _=>true,[.bool],fun a=>CN (a:An).2,false⟩
def dC:Ao:=⟨[BJ],fun _=>true,[Bh],fun n=>((n:AU),((1:Int),Ck 1)),false⟩
def cF:Ao:=⟨[i64],fun _=>true,[Bh],fun n=>(((n:Int),Ck n),((1:Int),Ck 1)),false⟩
def rT:Ao:=⟨[Bh],fun a=>yk (a:An).1,[Bh],fun a=>((Ee (a:An).1,Ec (a:An).1),((a:An).2.1,(a:An).2.2)),false⟩
def Uq:Ao:=⟨[Bh,Bh],fun i=>Sp.BK (i.1:An)&&Sp.BK (i.2:An),[Bh],fun i=>((Mq i.1 i.2,Mz i.1 i.2),(MY i.1 i.2,MV i.1 i.2)),false⟩
def dG:Ao:=⟨[Bh,Bh],fun i=>Sp.BK (i.1:An)&&Sp.BK (i.2:An),[Bh],fun i=>((dY i.1 i.2,jB i.1 i.2),(cB i.1 i.2,iC i.1 i.2)),false⟩
def X6:Ao:=⟨[Bh,Bh],fun i=>Sp.BK (i.1:An)&&Sp.BK (i.2:An),[Bh],fun i=>((Kr i.1 i.2,Kc i.1 i.2),(K3 i.1 i.2,KM i.1 i.2)),false⟩
def rV:Ao:=⟨[Bh],fun a=>Sp.BK (a:An)&&decide (zg (a:An).1≠0),[Bh],fun a=>((yT a,xY a),(zL a,yM a)),false⟩
def rI:Ao:=⟨[Bh,Bh],fun i=>Sp.BK (i.1:An)&&Sp.BK (i.2:An)&&decide (zg (i.2:An).1≠0),[Bh],fun i=>((Ye i.1 i.2,Xg i.1 i.2),(WW i.1 i.2,WQ i.1 i.2)),false⟩
def rF:A3:=Z0 [(186,[3])] [] [(186,[(3,[2,3,4])])] [(137,JL),(171,Tk),(197,GQ),(144,Yl),(121,ZY),(146,OY),(136,QD),(120,eF),(131,cQ),(132,OX)]
def vZ:A3:=Z0 [(135,[3,6])] [] [(135,[(3,[2,3,4]),(6,[2,3,4,5])])] [(137,JL),(171,Tk),(144,Yl),(186,cIQ)]
def wM:A3:=Z0 [(71,[3])] [] [(71,[(3,[2,3,4])])] [(145,PH),(130,dC),(146,OY),(136,QD),(135,rA)]
def XA3:A3:=X7 [(134,rT),(71,Uq),(64,X6),(133,rV)]
end Go.Pe
namespace Go.Sp
def Mo(a:List UInt8):List UInt8:=if Bq a=true then AL a else[49]
def JN(a:List UInt8)(n:Int):Bool:=decide ((a.length:Int)<=2*n+2)&&decide (AG a=0)&&decide (((AZ (Ay a)).length:Int)<=n)&&decide (((Mo a).length:Int)<=n)
end Go.Sp
namespace Go.Pe
open Go.Det
def dN:Ao:=⟨[.str,i64],fun i=>decide (0<=(i.2:Int))&&decide ((i.2:Int)<=1000),[.bool],fun i=>Sp.JN i.1 i.2,false⟩
def WA:Ao:=⟨[.str],fun s=>decide (s.length<=1000000),[.str],fun s=>Sp.AZ s,false⟩
def cS:Ao:=⟨[.str],fun s=>decide (s.length<=1000000),[.str],fun s=>Sp.Ay s,false⟩
def XG:Ao:=⟨[.str],fun s=>decide (s.length<=1000000),[.str],fun s=>Sp.Mo s,false⟩
def XM5:A3:=X7 [(127,Mh)]
def XM3:A3:=X7 [(51,Fc),(52,WA),(53,cS),(54,XG)]
end Go.Pe
