import Derived.Test.YtknhdhchejmpgaaGreatDoorX01
import Derived.Test.YtknhdhchejmpgaaGreatDoorX09
import Derived.Lib.Mul64
/- A part of a proof (no law is stated here). Made by program out of texts by AI agents. -/
noncomputable section
open Go.IntKind renaming wrap -> zc, u64 -> ze, i64 -> yv, wrap_i64 -> qq, u8 -> je
open Go.Pe.Ends renaming tt -> zg, leaf -> zl, ite -> zn, eq -> yo, ff -> yq, Av -> yt
open Bool renaming and_eq_true -> zh, true_and -> yj, false_eq_true -> qk, or_eq_true -> qw
open Go.Sp renaming vI -> zj, u64 -> zu, val -> yd, sg -> qj, hW -> jf
open Go.Pe.Sh renaming int -> zk, list -> z7, nlist -> yc, pair -> y7
open Int renaming mul_le_mul_of_nonneg_right -> zm, toNat_natCast -> zo, fdiv -> zq, eq_ofNat_of_zero_le -> zt, mul_assoc -> zw, mul_nonneg -> zx, lt_or_le -> ya, add_mul -> yb, mul_comm -> ye, mul_add -> yg, mul_le_mul_of_nonneg_left -> yh, lt_of_le_of_lt -> ym, fdiv_eq_ediv_of_nonneg -> yn, le_of_lt -> yp, one_mul -> yr, natCast_pow -> yu, natCast_mul -> yz, tdiv -> y8, natCast_add -> qf, pow_succ -> qg, tdiv_eq_ediv_of_nonneg -> ql, add_assoc -> qn, mul_zero -> qt, zero_add -> qv, ediv_nonneg -> qy, mul_sub -> qz, toNat -> jc
open List renaming replicate -> zp, getD_eq_getElem?_getD -> zr, take_of_length_le -> zz, getElem?_eq_getElem -> yf, take_length -> yw, drop_eq_getElem_cons -> yx, getElem?_eq_none -> y9, all_eq_true -> qc, length -> qe, append_assoc -> qm, cons_append -> qp
open Nat renaming add -> zy, mod_eq_of_lt -> qo, two_pow_pos -> qx, pow_add -> q9
open Go.Pe.Ad renaming of -> z8
open BitVec renaming ofInt -> yi, ofInt_natCast -> qd, toNat_ofNat -> qh
open UInt8 renaming toNat -> yk
open Go.Pe.PV renaming agg -> yy
open Go.Lib renaming half_mul_le -> qi
open Min renaming min -> qu
namespace Go.Sp
theorem AE(b:Int):∀(l:List Int) (i:Nat),val b (l.take (i+1))=val b (l.take i)+b^i*l.getD i 0
 |[],i=>by simp[val]
 |x::l,0=>by
  show x+b*val b (l.take 0)=0+b^0*x;simp[val]
 |x::l,i+1=>by
  have:=AE b l i;show x+b*val b (l.take (i+1))=x+b*val b (l.take i)+b^(i+1)*l.getD i 0;rw[this,yg,qg,ye (b^i) b,zw,qn]
theorem IG{l:List Int}(h:CI l=true):l.length<=20000/\Aw Ak l:=by
 unfold CI at h;rw[zh,w5,qc]at h;exact⟨h.1,fun d hd=>by
  have:=h.2 d hd;rw[zh,w5,w5]at this;exact this⟩
theorem D5{l:List Int}(h1:l.length<=20000)(h2:Aw Ak l):CI l=true:=by
 unfold CI;rw[zh,w5,qc];exact⟨h1,fun d hd=>by
  have:=h2 d hd;rw[zh,w5,w5];exact this⟩
theorem WS{l:List Int}(h:hW l=true):l.length<=9000/\Aw Ak l:=by
 unfold hW at h;rw[zh,w5]at h;exact⟨h.2,(IG h.1).2⟩
theorem AV{l:List Int}(h:Aw Ak l)(i:Nat):u64 (l.getD i 0)=true:=by
 unfold u64;rw[zh,w5,w5];rcases Nat.lt_or_ge i l.length with hi|hi
 ·have:l.getD i 0∈l:=by rw[zr,yf hi];exact List.getElem_mem hi
  exact h _ this
 ·rw[zr,y9 hi];exact⟨by decide,by decide⟩
theorem A0{n:Int}(h:u64 n=true):0<=n/\n<18446744073709551616:=by
 unfold u64 at h;rw[zh,w5,w5]at h;exact h
theorem CB{n:Int}(h1:0<=n)(h2:n<18446744073709551616):u64 n=true:=by
 unfold u64;rw[zh,w5,w5];exact⟨h1,h2⟩
theorem DS{l:List Int}{x:Int}(h:Aw Ak l)(hx:u64 x=true):Aw Ak (l++[x]):=by
 intro d hd;rw[List.mem_append,List.mem_singleton]at hd;rcases hd with hd|rfl
 ·exact h d hd
 ·exact A0 hx
theorem K4{x y c:Int}(hx:u64 x=true)(hy:u64 y=true)(hc:0<=c/\c<=1):u64 (HN x y c)=true/\(0<=Pa x y c/\Pa x y c<=1)/\HN x y c+18446744073709551616*Pa x y c=x+y+c:=by
 have:=A0 hx;have:=A0 hy;unfold HN Pa;exact⟨CB (by omega) (by omega),⟨by omega,by omega⟩,by omega⟩
theorem G4{x y c:Int}(hx:u64 x=true)(hy:u64 y=true)(hc:0<=c/\c<=1):u64 (S2 x y c)=true/\(0<=PU x y c/\PU x y c<=1)/\S2 x y c-18446744073709551616*PU x y c=x-y-c:=by
 have:=A0 hx;have:=A0 hy;unfold S2 PU;refine⟨CB (by omega) (by omega),?_,?_⟩<;>split<;>omega
theorem EL(l:List Int)(x:Int):val Ak (l++[x])=val Ak l+(Ak:Int)^l.length*x:=by
 rw[CQ];simp[val]
theorem KX(i:Nat)(c:Int):(Ak:Int)^(i+1)*c=(Ak:Int)^i*(18446744073709551616*c):=by
 rw[qg,zw];rfl
theorem IS(p:List Int)(n i:Nat)(x:Int)(h:p.length=i)(hi:i<n):(p++zp (n-i) (0:Int)).set i x=(p++[x])++zp (n-(i+1)) 0:=by
 have:n-i=(n-(i+1))+1:=by omega
 rw[this,List.replicate_succ,Pe.Di p _ 0 x h,qm];rfl
theorem KV{l:List Int}(h:Aw Ak l):Aq l=Bs (Ao l):=Yo (by decide) h
end Go.Sp
namespace Go.Pe
open Sp
open Go.Det
section
open List Int Prod
namespace T224
def T(n:Int):Tr:=tree eR false 9 224 (Af ([zk yv]) n)
theorem Am(n:Int):T n=.ite (decide (n<0)) (.leaf (.dat (zk ze) (zc .u64 (zc .i64 (0-n)))) []) (.leaf (.dat (zk ze) (zc .u64 n)) []):=by kernel_rfl
end T224
namespace T218
def T(a:Int×List Int):Tr:=tree KP false 9 218 (Af ([y7 i64 (yc (zk ze))]) a)
theorem Am(a:Int×List Int):T a=let a':=yc (zk ze);let b':=[(0,.box [.dat i64 (fst a),.dat a' (snd a)])];.ite (decide (0<length (snd a))) (.leaf (.tup [.dat Sh.bool (decide (fst a<0)),.dat a' (snd a)]) b') (.ite (fst a==0) (.leaf (.tup [.bl false,.nil]) b') (.ite (CG (fst a)) (.leaf (.tup [.dat Sh.bool (decide (fst a<0)),.sl (zy 0 1) 1 0 1 none]) ([(zy 0 1,.arr false 130 (zk ze) [Ae (fst a)]),(0,.box [.dat i64 (fst a),.dat a' (snd a)])])) .fail)):=by kernel_rfl
end T218
namespace T219
def T(neg:Bool)(w:List Int):Tr:=tree KP false 9 219 (Af ([Sh.bool,z7 (zk ze)]) (neg,w))
theorem Am(neg:Bool)(w:List Int):T neg w=let c':=z7 (zk ze);let e':=zc .i64 (0-zc .i64 (getD w 0 0));let f':=decide (getD w 0 0<=9223372036854775807);let g':=(length w:Int);let h':=zc .i64 (getD w 0 0);let b':Tr:=.ite neg (.leaf (yy [.dat i64 (-1:Int),.dat c' w]) ([(0,.box [.dat i64 (-1:Int),.dat c' w])])) (.leaf (yy [.dat i64 (1:Int),.dat c' w]) ([(0,.box [.dat i64 (1:Int),.dat c' w])]));let d':=decide (0<g');let a':Tr:=.ite (g'==1) (.ite d' (.ite f' (.ite d' (.leaf (yy [.dat i64 h',.nil]) ([(0,.box [.dat i64 h',.nil])])) .fail) b') .fail) b';.ite (g'==0) (.leaf (yy [.dat i64 (0:Int),.nil]) ([(0,.box [.dat i64 (0:Int),.nil])])) (.ite (g'==1) (.ite d' (.ite f' (.ite neg (.ite d' (.leaf (yy [.dat i64 e',.nil]) ([(0,.box [.dat i64 e',.nil])])) .fail) a') a') .fail) a'):=by kernel_rfl
end T219
namespace T269
def T(w:List Int):Tr:=tree eR false 9 269 (Af ([z7 (zk ze)]) w)
def L1(v0:List Int)(v3:Int):Tr:=re ((T [])) (AG 21 [(0,.dat (z7 (zk ze)) v0),(3,.dat i64 v3)] [] 0)
theorem Am(w:List Int):T w=L1 w ((length w:Int)):=by kernel_rfl
theorem Ar(v0:List Int)(v3:Int):stepT eR (L1 v0 v3)=let a':Tr:=.ite (decide (0<=v3)&&decide (0<=toNat v3)&&decide (toNat v3<=length v0)) (.leaf (.dat (z7 (zk ze)) (take (toNat v3) v0)) []) .fail;let b':=zc .i64 (v3-1);.ite (decide (v3>0)) (.ite (decide (0<=zc .i64 (v3-1))&&decide (zc .i64 (v3-1)<(length v0:Int))) (.ite (getD v0 (toNat b') 0==0) (L1 v0 b') a') .fail) a':=by kernel_rfl
end T269
namespace T221
def T(a b:List Int):Tr:=tree eR false 9 221 (Af ([z7 (zk ze),z7 (zk ze)]) (a,b))
def L1(v0 v1:List Int)(v5:Int):Tr:=re ((T [] []).R) (AG 41 [(0,.dat (z7 (zk ze)) v0),(1,.dat (z7 (zk ze)) v1),(5,.dat i64 v5)] [] 0)
theorem Am(a b:List Int):T a b=let a':=(length a:Int);.ite (a' !=(length b:Int)) (.ite (decide (a'<(length b:Int))) (.leaf (.dat i64 (-1:Int)) []) (.leaf (.dat i64 (1:Int)) [])) (L1 a b (zc .i64 (a'-1))):=by kernel_rfl
theorem Ar(v0 v1:List Int)(v5:Int):stepT eR (L1 v0 v1 v5)=let a':=decide (0<=v5)&&decide (v5<(length v0:Int));let b':=decide (0<=v5)&&decide (v5<(length v1:Int));.ite (decide (v5>=0)) (.ite a' (.ite b' (.ite (getD v0 (toNat v5) 0 !=getD v1 (toNat v5) 0) (.ite a' (.ite b' (.ite (decide (getD v0 (toNat v5) 0<getD v1 (toNat v5) 0)) (.leaf (.dat i64 (-1:Int)) []) (.leaf (.dat i64 (1:Int)) [])) .fail) .fail) (L1 v0 v1 (zc .i64 (v5-1)))) .fail) .fail) (.leaf (.dat i64 (0:Int)) []):=by kernel_rfl
end T221
namespace T220
def T(x y:List Int):Tr:=tree KP false 9 220 (Af ([z7 (zk ze),z7 (zk ze)]) (x,y))
def L1(v0 v1:List Int)(v5n:Nat)(v6 v21 v22:Int)(o0:List Int):Tr:=re ((T [] []).L.L) (AG 54 [(0,.dat (z7 (zk ze)) v0),(1,.dat (z7 (zk ze)) v1),(5,.sl 0 1 0 v5n none),(6,.dat (zk ze) v6),(21,.dat i64 v21),(22,.dat i64 v22)] [(0,.arr false 130 (zk ze) o0)] 1)
theorem Am(x y:List Int):T x y=let a':=(length x:Int);let b':=(length y:Int);let c':=zc .i64 (b'+1);let d':=zc .i64 (a'+1);.ite (decide (a'<b')) (.ite (decide (0<=zc .i64 (b'+1))&&decide (zc .i64 (b'+1)=zc .i64 (b'+1))&&decide (8*toNat c'<=281474976710656)&&decide (zc .i64 (b'+1)<9223372036854775808)) (L1 y x (toNat c') 0 (b') 0 (replicate (toNat c') 0)) .fail) (.ite (decide (0<=zc .i64 (a'+1))&&decide (zc .i64 (a'+1)=zc .i64 (a'+1))&&decide (8*toNat d'<=281474976710656)&&decide (zc .i64 (a'+1)<9223372036854775808)) (L1 x y (toNat d') 0 (a') 0 (replicate (toNat d') 0)) .fail):=by kernel_rfl
theorem Ar(v0 v1:List Int)(v5n:Nat)(v6 v21 v22:Int)(o0:List Int):stepT KP (L1 v0 v1 v5n v6 v21 v22 o0)=let a':=getD v0 (toNat v22) 0;let b':=(length v0:Int);let d':=getD v1 (toNat v22) 0;let e':=decide (0<=v22)&&decide (v22<(↑v5n:Int));let f':=decide ((0:Sh.T (BC [u64]))<=v6);let g':=decide (v6<=(1:Sh.T (BC [u64])));let i':=decide (toNat v22<length o0);let j':=decide (v22<(length v1:Int));let k':=zc .i64 (v22+1);let c':=set o0 (toNat b') v6;let h':=decide (0<=v22)&&decide (v22<b');.ite (decide (v22<v21)) (.ite (j') (.ite (decide (0<=v22)&&j') (.ite h' (.ite (zu a'&&zu d'&&f'&&g') (.ite e' (.ite i' (L1 v0 v1 v5n (Pa a' d' v6) v21 k' (set o0 (toNat v22) (HN a' d' v6))) .fail) .fail) .fail) .fail) .fail) (.ite h' (.ite (zu a'&&zu 0&&f'&&g') (.ite e' (.ite i' (L1 v0 v1 v5n (Pa a' 0 v6) v21 k' (set o0 (toNat v22) (HN a' 0 v6))) .fail) .fail) .fail) .fail)) (.ite (decide (0<=b')&&decide (b'<(↑v5n:Int))) (.ite (decide (toNat b'<length o0)) (.ite (decide (0+v5n<=length c')&&true&&CI (take v5n c')) (.leaf (.dat (z7 (zk ze)) (Aq (take v5n c'))) ([(0,.arr true 130 (zk ze) c')])) .fail) .fail) .fail):=by kernel_rfl
end T220
namespace T222
def T(x y:List Int):Tr:=tree KP false 9 222 (Af ([z7 (zk ze),z7 (zk ze)]) (x,y))
def L1(v0 v1:List Int)(v5n:Nat)(v6 v13 v14:Int)(o0:List Int):Tr:=re ((T [] []).L) (AG 41 [(0,.dat (z7 (zk ze)) v0),(1,.dat (z7 (zk ze)) v1),(5,.sl 0 1 0 v5n none),(6,.dat (zk ze) v6),(13,.dat i64 v13),(14,.dat i64 v14)] [(0,.arr false 130 (zk ze) o0)] 1)
theorem Am(x y:List Int):T x y=let a':=(length x:Int);.ite (decide (0<=a')&&decide (a'=a')&&decide (8*toNat a'<=281474976710656)&&decide (a'<9223372036854775808)) (L1 x y (toNat a') 0 (a') 0 (replicate (toNat a') 0)) .fail:=by kernel_rfl
theorem Ar(v0 v1:List Int)(v5n:Nat)(v6 v13 v14:Int)(o0:List Int):stepT KP (L1 v0 v1 v5n v6 v13 v14 o0)=let a':=getD v0 (toNat v14) 0;let b':=decide (0<=v14)&&decide (v14<(length v0:Int));let c':=getD v1 (toNat v14) 0;let d':=decide (0<=v14)&&decide (v14<(↑v5n:Int));let e':=decide ((0:Sh.T (BC [u64]))<=v6);let f':=decide (v6<=(1:Sh.T (BC [u64])));let g':=decide (toNat v14<length o0);let h':=decide (v14<(length v1:Int));let i':=zc .i64 (v14+1);.ite (decide (v14<v13)) (.ite (h') (.ite (decide (0<=v14)&&h') (.ite b' (.ite (zu a'&&zu c'&&e'&&f') (.ite d' (.ite g' (L1 v0 v1 v5n (PU a' c' v6) v13 i' (set o0 (toNat v14) (S2 a' c' v6))) .fail) .fail) .fail) .fail) .fail) (.ite b' (.ite (zu a'&&zu 0&&e'&&f') (.ite d' (.ite g' (L1 v0 v1 v5n (PU a' 0 v6) v13 i' (set o0 (toNat v14) (S2 a' 0 v6))) .fail) .fail) .fail) .fail)) (.ite (decide (0+v5n<=length o0)&&true&&CI (take v5n o0)) (.leaf (.dat (z7 (zk ze)) (Aq (take v5n o0))) ([(0,.arr true 130 (zk ze) o0)])) .fail):=by kernel_rfl
end T222
namespace T223
def T(x y:Int):Tr:=tree eR false 9 223 (Af ([zk ze,zk ze]) (x,y))
theorem Am(x y:Int):T x y=let a':=zc .u64 (zc .u64 (zq x (2^32)*Hc ze y 4294967295)+zq (zc .u64 (Hc ze x 4294967295*Hc ze y 4294967295)) (2^32));.ite true (.ite true (.ite true (.ite true (.ite true (.leaf (.tup [.dat (zk ze) (zc .u64 (zc .u64 (zc .u64 (zq x (2^32)*zq y (2^32))+zq a' (2^32))+zq (zc .u64 (Hc ze a' 4294967295+zc .u64 (Hc ze x 4294967295*zq y (2^32)))) (2^32))),.dat (zk ze) (zc .u64 (x*y))]) []) .fail) .fail) .fail) .fail) .fail:=by kernel_rfl
end T223
namespace T225
def T(x y:List Int):Tr:=tree KP false 9 225 (Af ([z7 (zk ze),z7 (zk ze)]) (x,y))
def L1(v1:List Int)(v5n:Nat)(v20:List Int)(v21 v22:Int)(o0:List Int):Tr:=re ((T [] []).L) (AG 80 [(1,.dat (z7 (zk ze)) v1),(5,.sl 0 1 0 v5n none),(20,.dat (z7 (zk ze)) v20),(21,.dat i64 v21),(22,.dat i64 v22)] [(0,.arr false 130 (zk ze) o0)] 1)
theorem Am(x y:List Int):T x y=let a':=(length x:Int)+(length y:Int);let b':=zc .i64 a';.ite (decide (0<=zc .i64 a')&&decide (zc .i64 a'=zc .i64 a')&&decide (8*toNat b'<=281474976710656)&&decide (zc .i64 a'<9223372036854775808)) (L1 y (toNat b') x ((length x:Int)) 0 (replicate (toNat b') 0)) .fail:=by kernel_rfl
def L2(v1:List Int)(v5n:Nat)(v6 v7 v8:Int)(v20:List Int)(v21 v22:Int)(v27:List Int)(v28 v29:Int)(o0:List Int):Tr:=re ((stepT KP (L1 [] 0 [] 0 0 [])).L.L) (AG 80 [(1,.dat (z7 (zk ze)) v1),(5,.sl 0 1 0 v5n none),(6,.dat i64 v6),(7,.dat (zk ze) v7),(8,.dat (zk ze) v8),(20,.dat (z7 (zk ze)) v20),(21,.dat i64 v21),(22,.dat i64 v22),(27,.dat (z7 (zk ze)) v27),(28,.dat i64 v28),(29,.dat i64 v29)] [(0,.arr false 130 (zk ze) o0)] 1)
theorem Ar(v1:List Int)(v5n:Nat)(v20:List Int)(v21 v22:Int)(o0:List Int):stepT KP (L1 v1 v5n v20 v21 v22 o0)=.ite (decide (v22<v21)) (.ite (decide (0<=v22)&&decide (v22<(length v20:Int))) (L2 v1 v5n v22 (getD v20 (toNat v22) 0) 0 v20 v21 v22 v1 ((length v1:Int)) 0 o0) .fail) (.ite (decide (0+v5n<=length o0)&&true&&CI (take v5n o0)) (.leaf (.dat (z7 (zk ze)) (Aq (take v5n o0))) ([(0,.arr true 130 (zk ze) o0)])) .fail):=by kernel_rfl
theorem AZ(v1:List Int)(v5n:Nat)(v6 v7 v8:Int)(v20:List Int)(v21 v22:Int)(v27:List Int)(v28 v29:Int)(o0:List Int):stepT KP (L2 v1 v5n v6 v7 v8 v20 v21 v22 v27 v28 v29 o0)=let b':=zc .i64 (v6+v29);let c':=getD v27 (toNat v29) 0;let d':=decide (0<=zc .i64 (v6+v29))&&decide (zc .i64 (v6+v29)<(↑v5n:Int));let e':=v6+(length v1:Int);let g':=decide ((0:Sh.T (BC [u64]))<=0);let h':=decide (0<=(1:Sh.T (BC [u64])));let f':=getD o0 (toNat b') 0;let i':=decide (toNat b'<length o0);let j':=Ia v7 c';let a':=HN j' f' 0;.ite (decide (v29<v28)) (.ite (decide (0<=v29)&&decide (v29<(length v27:Int))) (.ite (zu v7&&zu c') (.ite d' (.ite i' (.ite (zu j'&&zu f'&&g'&&h') (.ite (zu a'&&zu v8&&g'&&h') (.ite d' (.ite i' (L2 v1 v5n v6 v7 (zc .u64 (zc .u64 (QL v7 c'+Pa j' f' 0)+Pa a' v8 0)) v20 v21 v22 v27 v28 (zc .i64 (v29+1)) (set o0 (toNat b') (HN a' v8 0))) .fail) .fail) .fail) .fail) .fail) .fail) .fail) .fail) (.ite (decide (0<=zc .i64 e')&&decide (zc .i64 e'<(↑v5n:Int))) (.ite (decide (toNat (zc .i64 e')<length o0)) (L1 v1 v5n v20 v21 (zc .i64 (v22+1)) (set o0 (toNat (zc .i64 e')) v8)) .fail) .fail):=by kernel_rfl
end T225
end
theorem Jh:DM eR:=fun g sp h=>by cases h
theorem wu(x:Int)(h1:0<=x)(h2:x<=18446744073709551615):zc .u64 x=x:=IntWalk.u64_in x ⟨h1,h2⟩
theorem Eh{n:Int}(h:CG n=true): -9223372036854775808<=n/\n<9223372036854775808:=by
 unfold CG at h;rw[zh,w5,w5]at h;exact h
namespace T224
theorem ok:Ag Bg 224 Ws:=by
 refine B1 Jh (fun(n:Int) hn=>?_);have hn:=Eh (n:=n) hn;refine yo (Am n) (zn (fun c=>?_) (fun c=>?_))
 ·have c:=w6 c;refine zl (z8 rfl rfl ?_);show zc .u64 (zc .i64 (0-n))=Ae n;simp only[Ah];rcases ya (-9223372036854775808) n with h|h
  ·rw[wr _ (by omega) (by omega),wu _ (by omega) (by omega)];omega
  ·have:n= -9223372036854775808:=by omega
   subst this;decide+kernel
 ·have c:=w7 c;refine zl (z8 rfl rfl ?_);show zc .u64 n=Ae n;simp only[Ah];rw[wu _ (by omega) (by omega)];omega
end T224
namespace T269
theorem Aj{Q:PV->Ob->Prop}(w:List Int)(hw:w.length<=20000)(hq:∀ob,Q (.dat Dc (Aq w)) ob):∀(i:Nat),i<=w.length->Aq w=Aq (w.take i)->Ends eR (L1 w i) Q
 |0,hi,he=>by
  have he:Aq w=[]:=he;rw[he]at hq;refine yt (Ar ..) (yq (by simp) (zg (by simp) (zl (hq _))))
 |i+1,hi,he=>by
  have e1:zc .i64 (((i+1:Nat):Int)-1)=(i:Int):=by rw[wr _ (by omega) (by omega)];omega
  have ht:w.take (i+1)=w.take i++[w.getD i 0]:=by
   rw[List.take_add_one];congr 1;rw[zr,yf (by omega)];rfl
  refine yt (Ar ..) (zg (by simp<;>omega) ?_);rw[e1,zo];refine zg (by simp<;>omega) (zn (fun c=>?_) (fun c=>?_))
  ·have c:w.getD i 0=0:=by simpa using c
   refine Aj w hw hq i (by omega) ?_;rw[he,ht,c,Ip]
  ·have c:w.getD i 0≠0:=by simpa using c
   refine zg (by simp;omega) (zl ?_);have:Aq w=w.take (i+1):=by rw[he,ht,Iq (Yg c)]
   rw[this]at hq;exact hq _
theorem ok:Ag Bg 269 VV:=by
 refine B1 Jh (fun(w:List Int) hw=>?_);obtain⟨h1,h2⟩:=IG (l:=w) hw;refine yo (Am w) (Aj w h1 (fun ob=>z8 rfl rfl rfl) w.length (Nat.le_refl _) (by rw[yw]))
end T269
theorem ES{l:List Int}(h:B5 l=true):l.length<=20000/\Aw Ak l/\Sp.nz l:=by
 unfold B5 at h;rw[zh]at h;have:=IG h.1;exact⟨this.1,this.2,by
  have:=h.2;unfold rJ at this;have:l.getLast?≠some 0:=w6 this;exact this⟩
namespace T221
theorem Aj{Q:PV->Ob->Prop}(a b:List Int)(ha:Aw Ak a)(hb:Aw Ak b)(hl:a.length=b.length)(h2:b.length<=20000)(hq:∀ob,Q (.dat i64 (BZ (Ao a) (Ao b))) ob):∀(i:Nat),i<=a.length->a.drop i=b.drop i->Ends eR (L1 a b ((i:Int)-1)) Q
 |0,hi,he=>by
  have he:a=b:=he;have:BZ (Ao a) (Ao b)=0:=by rw[he];unfold BZ;simp
  rw[this]at hq;exact yt (Ar ..) (yq (by simp) (zl (hq _)))
 |i+1,hi,he=>by
  have e1:(((i+1:Nat):Int)-1)=(i:Int):=by omega
  have da:a.drop i=a.getD i 0::a.drop (i+1):=by
   rw[zr,yf (by omega)];exact yx (by omega)
  have db:b.drop i=b.getD i 0::a.drop (i+1):=by
   rw[he,zr,yf (by omega)];exact yx (by omega)
  have ga:=Sp.A0 (AV ha i);have gb:=Sp.A0 (AV hb i);rw[e1];refine yt (Ar ..) (zg (by simp) ?_);rw[zo];refine zg (by simp;omega) (zg (by simp;omega) (zn (fun c=>zg (by simp;omega) (zg (by simp;omega) (zn (fun d=>?_) (fun d=>?_)))) (fun c=>?_)))
  ·have d:=w6 d;have:=I0 (b:=Ak) (by decide) ha hb da db d;have e:BZ (Ao a) (Ao b)= -1:=by unfold BZ;exact wd this
   rw[e]at hq;exact zl (hq _)
  ·have d:=w7 d;have c:a.getD i 0≠b.getD i 0:=by simpa using c
   have:=I0 (b:=Ak) (by decide) hb ha db da (by omega);have e:BZ (Ao a) (Ao b)=1:=by
    unfold BZ Ao;rw[wc (by omega),wd (by omega)]
   rw[e]at hq;exact zl (hq _)
  ·have c:a.getD i 0=b.getD i 0:=by simpa using c
   rw[wr ((i:Int)-1) (by omega) (by omega)];exact Aj a b ha hb hl h2 hq i (by omega) (by rw[da,db,c])
theorem ok:Ag Bg 221 Xu:=by
 refine B1 Jh (fun(i:List Int×List Int) hi=>?_);obtain⟨a,b⟩:=i;have hi:(B5 a&&B5 b)=true:=hi;rw[zh]at hi;obtain⟨a1,a2,a3⟩:=ES hi.1;obtain⟨b1,b2,b3⟩:=ES hi.2;have hq:∀ob,Ad Xu (a,b) (.dat i64 (BZ (Ao a) (Ao b))) ob:=fun ob=>z8 rfl rfl rfl
 refine yo (Am a b) (zn (fun c=>zn (fun d=>?_) (fun d=>?_)) (fun c=>?_))
 ·have d:=w6 d;have e:BZ (Ao a) (Ao b)= -1:=by unfold BZ;exact wd (Eu (by decide) a2 b2 b3 (by omega))
  rw[e]at hq;exact zl (hq _)
 ·have d:=w7 d;have c:(a.length:Int)≠b.length:=by simpa using c
  have:=Eu (b:=Ak) (by decide) b2 a2 a3 (by omega);have e:BZ (Ao a) (Ao b)=1:=by
   unfold BZ Ao;rw[wc (by omega),wd (by omega)]
  rw[e]at hq;exact zl (hq _)
 ·have c:(a.length:Int)=b.length:=by simpa using c
  rw[wr _ (by omega) (by omega)];exact Aj a b a2 b2 (by omega) b1 hq a.length (Nat.le_refl _) (by rw[List.drop_length,show a.length=b.length by omega,List.drop_length])
end T221
theorem DJ{a:AS}(h:Dh a=true):(-9223372036854775808<=a.1/\a.1<9223372036854775808)/\(a.2=[]\/(B5 a.2=true/\(a.1=1\/a.1= -1)/\9223372036854775808<=Ao a.2)):=by
 unfold Dh at h;rw[zh,qw,zh,zh,qw,w5,w5,w5,w5]at h;exact⟨Eh h.1,h.2.imp id fun h=>⟨h.1.1,h.1.2,h.2⟩⟩
theorem val_one(d:Int):yd Ak [d]=d:=by simp[yd]
theorem uI{d:Int}(h1:0<d)(h2:d<18446744073709551616):[d]=Bs d:=by
 have:=Ij (b:=Ak) (l:=[d]) (by decide) (fun x hx=>by rw[List.mem_singleton]at hx;subst hx;exact⟨by omega,h2⟩) (by unfold Sp.nz;simp;omega);rw[val_one]at this;exact this
theorem Ew{s:Int}:zj (s,[])=s:=by unfold zj;exact wd rfl
namespace T218
theorem ok(hall:∀g sp,KP.sp g=some sp->Ag Bg g sp):Ag Bg 218 O9:=by
 refine MK (X:=KP) rfl hall (d:=9) (by kernel_rfl) (by kernel_rfl) (by kernel_rfl) (fun(a:Int×List Int) ha=>?_) (BA (by kernel_rfl));obtain⟨hr,hw⟩:=DJ (a:=a) ha;obtain⟨s,w⟩:=a;have hr: -9223372036854775808<=s/\s<9223372036854775808:=hr;refine yo (Am (s,w)) (zn (fun c=>?_) (fun c=>zn (fun d=>?_) (fun d=>zg ?_ ?_)))
 ·have c:0<w.length:=w6 c;have hne:w≠[]:=by rintro rfl;simp at c
  rcases hw with hw|⟨h1,h2,h3⟩
  ·exact wh hw hne
  ·obtain⟨n1,n2,n3⟩:=ES h1;have h2:s=1\/s= -1:=h2;have h3:9223372036854775808<=Ao w:=h3;have ev:zj (s,w)=if s<0 then -Ao w else Ao w:=by unfold zj;exact wc hne
   have e1:Ae (zj (s,w))=Ao w:=by rw[ev];simp only[Ah];split<;>omega
   have e2:decide (zj (s,w)<0)=decide (s<0):=by
    rw[ev];rcases h2 with rfl|rfl<;>simp<;>omega
   refine zl (z8 rfl rfl ?_);show(decide (s<0),w)=(decide (zj (s,w)<0),Bs (Ae (zj (s,w))));rw[e1,e2,show w=Bs (Ao w)from Ij (by decide) n2 n3];congr 2;exact(CP (b:=Ak) (by decide) (AA (b:=Ak) (by decide) n2)).symm
 all_goals
  have c:¬0<w.length:=w7 c;have hn:w=[]:=List.length_eq_zero_iff.1 (by omega);subst hn
 ·have d:s=0:=by simpa using d
  subst d;exact zl (z8 rfl rfl rfl)
 ·show CG s=true;unfold CG;rw[zh,w5,w5];exact hr
 ·have d:s≠0:=by simpa using d
  refine zl (z8 rfl rfl ?_);show(decide (s<0),[Ae s])=(decide (zj (s,[])<0),Bs (Ae (zj (s,[]))));rw[Ew,uI (d:=Ae s) (by simp only[Ah];omega) (by simp only[Ah];omega)]
end T218
theorem BX{n:Int}(h: -9223372036854775808<n/\n<9223372036854775808):CO n=(n,[]):=wd h
theorem Rz{w:List Int}(neg:Bool)(h1:Aw Ak w)(h2:Sp.nz w)(h3:9223372036854775808<=Ao w):CO (if neg=true then -Ao w else Ao w)=(if neg=true then -1 else 1,w):=by
 have e:Bs (Ao w)=w:=(Ij (by decide) h1 h2).symm;cases neg with
 |true=>
  simp only[wk];unfold CO;rw[wc (by omega),wd (by omega)];rw[show Ae (-Ao w)=Ao w by simp only[Ah];omega,e]
 |false=>
  show CO (Ao w)=(1,w);unfold CO;rw[wc (by omega),wc (by omega)];rw[show Ae (Ao w)=Ao w by simp only[Ah];omega,e]
namespace T219
theorem ok(hall:∀g sp,KP.sp g=some sp->Ag Bg g sp):Ag Bg 219 aS:=by
 refine MK (X:=KP) rfl hall (d:=9) (by kernel_rfl) (by kernel_rfl) (by kernel_rfl) (fun(i:Bool×List Int) hi=>?_) (BA (by kernel_rfl));obtain⟨neg,w⟩:=i;obtain⟨n1,n2,n3⟩:=ES (l:=w) hi;refine yo (Am neg w) ?_;conv=>zeta
 cases w with
 |nil=>
  refine zg rfl (zl (z8 rfl rfl ?_));show _=CO (if neg=true then -0 else 0);rw[show(if neg=true then(-0:Int)else 0)=0 by split<;>rfl,BX (by omega)]
 |cons d t=>
  cases t with
  |nil=>
   have hd:=n2 d (by simp);have hz:d≠0:=by intro h;subst h;exact n3 rfl
   have hd1:0<=d:=hd.1;have hd2:d<18446744073709551616:=hd.2;have ev:Ao [d]=d:=val_one d;refine yq rfl (zg rfl (zg rfl (zn (fun c=>?_) (fun c=>?_))))
   ·have c:d<=9223372036854775807:=w6 c;have e1:zc .i64 d=d:=wr _ (by omega) (by omega);have e2:zc .i64 (0-d)= -d:=by rw[wr _ (by omega) (by omega)];omega
    refine zn (fun n=>zg rfl (zl (z8 rfl rfl ?_))) (fun n=>zg rfl (zg rfl (zg (w4 c) (zg rfl (zl (z8 rfl rfl ?_))))))
    ·show(zc .i64 (0-zc .i64 d),[])=CO (if neg=true then -Ao [d]else Ao [d]);rw[e1,e2,wd n,ev,BX (by omega)]
    ·show(zc .i64 d,[])=CO (if neg=true then -Ao [d]else Ao [d]);subst n;rw[e1,wc (by decide),ev,BX (by omega)]
   ·have c':¬d<=9223372036854775807:=w7 c;have hb:=Rz neg n2 n3 (by rw[ev];omega);refine zg rfl (zg rfl (yq c (zn (fun n=>zl (z8 rfl rfl ?_)) (fun n=>zl (z8 rfl rfl ?_)))))
    ·show(-1,[d])=CO (if neg=true then -Ao [d]else Ao [d]);rw[hb,wd n]
    ·show(1,[d])=CO (if neg=true then -Ao [d]else Ao [d]);rw[hb,n];rfl
  |cons e t=>
   have hv:9223372036854775808<=Ao (d::e::t):=by
    have h:=Db (b:=Ak) (by decide) n2 n3 (by simp);have h2:=AH (b:=Ak) (by decide) (show 1<=(d::e::t).length-1 by simp);rw[Int.pow_one]at h2;have:(9223372036854775808:Int)<=(Ak:Int):=by decide
    exact Int.le_trans this (Int.le_trans h2 h)
   have hb:=Rz neg n2 n3 hv;have z0:(((d::e::t).length:Int)==0)=false:=by simp;omega
   have z1:(((d::e::t).length:Int)==1)=false:=by simp;omega
   refine yq z0 (yq z1 (yq z1 (zn (fun n=>zl (z8 rfl rfl ?_)) (fun n=>zl (z8 rfl rfl ?_)))))
   ·show(-1,d::e::t)=CO (if neg=true then -Ao (d::e::t)else Ao (d::e::t));rw[hb,wd n]
   ·show(1,d::e::t)=CO (if neg=true then -Ao (d::e::t)else Ao (d::e::t));rw[hb,n];rfl
end T219
namespace T220
variable {Q:PV->Ob->Prop}
theorem Aj(x y:List Int)(hx:Aw Ak x)(hy:Aw Ak y)(hl:y.length<=x.length)(hm:x.length<=9000)(hq:∀ob,Q (.dat Dc (Bs (Ao x+Ao y))) ob):∀(k i:Nat) (p:List Int) (c:Int),i+k=x.length->p.length=i->Aw Ak p->(0<=c/\c<=1)->yd Ak p+(Ak:Int)^i*c=yd Ak (x.take i)+yd Ak (y.take i)->
  Ends KP (L1 x y (x.length+1) c x.length i (p++zp (x.length+1-i) 0)) Q
 |0,i,p,c,hi,hp,hd,hc,he=>by
  have hi:i=x.length:=by omega
  subst hi;have er:x.length+1-x.length=1:=by omega
  have es:(p++zp (x.length+1-x.length) (0:Int)).set x.length c=p++[c]:=by
   rw[er];exact Pe.Di p [] 0 c hp
  have ht:(p++[c]).take (x.length+1)=p++[c]:=zz (by simp;omega);have hd':Aw Ak (p++[c]):=DS hd (CB hc.1 (by omega));have hv:Ao (p++[c])=Ao x+Ao y:=by
   unfold Ao;rw[EL,hp,he,yw,zz hl]
  refine yt (Ar ..) (yq (by simp) ?_);rw[zo,es,ht];refine zg (by simp<;>omega) (zg (by simp;omega) (zg ?_ (zl ?_)))
  ·rw[D5 (by simp;omega) hd'];simp;omega
  ·rw[KV hd',hv];exact hq _
 |k+1,i,p,c,hi,hp,hd,hc,he=>by
  have gx:=AV hx i;have gy:=AV hy i;have lo:(p++zp (x.length+1-i) (0:Int)).length=x.length+1:=by simp;omega
  have step:∀z,zu z=true->z=y.getD i 0->Ends KP (L1 x y (x.length+1) (Pa (x.getD i 0) z c) x.length (zc .i64 ((i:Int)+1)) ((p++zp (x.length+1-i) 0).set i (HN (x.getD i 0) z c))) Q:=by
   intro z hz ez;obtain⟨a1,a2,a3⟩:=K4 gx hz hc;rw[wr ((i:Int)+1) (by omega) (by omega),IS p (x.length+1) i _ hp (by omega)];refine Aj x y hx hy hl hm hq k (i+1) (p++[HN (x.getD i 0) z c]) _ (by omega) (by simp;omega) (DS hd a1) a2 ?_;rw[EL,hp,KX,AE _ x i,AE _ y i, <-ez,qn, <-yg,a3,yg,yg];omega
  refine yt (Ar ..) (zg (by simp;omega) ?_);rw[zo];refine zn (fun d=>?_) (fun d=>?_)
  ·have d:=w6 d;refine zg (by simp;omega) (zg (by simp;omega) (zg ?_ (zg (by simp;omega) (zg (w4 (by rw[lo];omega)) (step _ gy rfl)))));rw[gx,gy,yj,yj,zh];exact⟨w4 hc.1,w4 hc.2⟩
  ·have d:=w7 d;have hz:y.getD i 0=0:=by rw[zr,y9 (by omega)];rfl
   refine zg (by simp;omega) (zg ?_ (zg (by simp;omega) (zg (w4 (by rw[lo];omega)) (step _ rfl hz.symm))));rw[gx,show zu 0=true from rfl,yj,yj,zh];exact⟨w4 hc.1,w4 hc.2⟩
theorem start(x y:List Int)(hx:Aw Ak x)(hy:Aw Ak y)(hl:y.length<=x.length)(hm:x.length<=9000)(hq:∀ob,Q (.dat Dc (Bs (Ao x+Ao y))) ob){t:Tr}:
  Ends KP (.ite (decide ((0:Int)<=zc yv ((x.length:Int)+(1:Int)))&&decide (zc yv ((x.length:Int)+(1:Int))=zc yv ((x.length:Int)+(1:Int)))&&decide ((8:Nat)*jc (zc yv ((x.length:Int)+(1:Int)))<=(281474976710656:Nat))&&decide (zc yv ((x.length:Int)+(1:Int))<(9223372036854775808:Int)))
   (L1 x y (jc (zc yv ((x.length:Int)+(1:Int)))) ((0:Int)) ((x.length:Int)) ((0:Int)) (zp (jc (zc yv ((x.length:Int)+(1:Int)))) (0:Int))) t) Q:=by
 have e1:zc .i64 ((x.length:Int)+1)=((x.length+1:Nat):Int):=by rw[wr _ (by omega) (by omega)];omega
 rw[e1,zo];refine zg (by simp;omega) ?_;exact Aj x y hx hy hl hm hq x.length 0 [] 0 (by omega) rfl (fun _ h=>by cases h) (by omega) (by simp[yd])
theorem ok(hall:∀g sp,KP.sp g=some sp->Ag Bg g sp):Ag Bg 220 iG:=by
 refine MK (X:=KP) rfl hall (d:=9) (by kernel_rfl) (by kernel_rfl) (by kernel_rfl) (fun(i:List Int×List Int) hi=>?_) (BA (by kernel_rfl));obtain⟨x,y⟩:=i;have hi:(jf x&&jf y)=true:=hi;rw[zh]at hi;obtain⟨x1,x2⟩:=WS hi.1;obtain⟨y1,y2⟩:=WS hi.2;have hq:∀ob,Ad iG (x,y) (.dat Dc (Bs (Ao x+Ao y))) ob:=fun ob=>z8 rfl rfl rfl
 refine yo (Am x y) (zn (fun c=>?_) (fun c=>?_))
 ·have c:=w6 c;exact start y x y2 x2 (by omega) y1 (by rw[Int.add_comm];exact hq)
 ·have c:=w7 c;exact start x y x2 y2 (by omega) x1 hq
end T220
namespace T222
variable {Q:PV->Ob->Prop}
theorem fQ{b:Int}(hb:0<b){l:List Int}{n:Nat}(h:Aw b l)(hv:yd b l<b^n):yd b (l.take n)=yd b l:=by
 rcases Nat.lt_or_ge n l.length with hn|hn
 ·have h1:=B7 b l n (by omega);have h2:=AA (by omega) (AL h n);have h3:=AA (by omega) (EB h n);rcases ya 0 (yd b (l.drop n))with h4|h4
  ·have:=yh (show 1<=yd b (l.drop n)by omega) (yp (AN hb n));rw[Int.mul_one]at this;omega
  ·have:yd b (l.drop n)=0:=by omega
   rw[this,qt]at h1;omega
 ·rw[zz hn]
theorem Aj(x y:List Int)(hx:Aw Ak x)(hy:Aw Ak y)(hl:Ao y<=Ao x)(hm:x.length<=20000)(hq:∀ob,Q (.dat Dc (Bs (Ao x-Ao y))) ob):∀(k i:Nat) (p:List Int) (c:Int),i+k=x.length->p.length=i->Aw Ak p->(0<=c/\c<=1)->yd Ak p-(Ak:Int)^i*c=yd Ak (x.take i)-yd Ak (y.take i)->
  Ends KP (L1 x y x.length c x.length i (p++zp (x.length-i) 0)) Q
 |0,i,p,c,hi,hp,hd,hc,he=>by
  have hi:i=x.length:=by omega
  subst hi;have er:p++zp (x.length-x.length) (0:Int)=p:=by rw[Nat.sub_self];simp
  have ht:p.take x.length=p:=zz (by omega);have hX:Ao x<(Ak:Int)^x.length:=Br (by decide) hx;have hP:Ao p<(Ak:Int)^p.length:=Br (by decide) hd;have hv:Ao p=Ao x-Ao y:=by
   rw[yw,fQ (by decide) hy (show yd Ak y<_ from ym hl hX)]at he;have he:Ao p-(Ak:Int)^x.length*c=Ao x-Ao y:=he;rw[hp]at hP;rcases ya 0 c with h|h
   ·have:c=1:=by omega
    subst this;rw[Int.mul_one]at he;omega
   ·have:c=0:=by omega
    subst this;rw[qt]at he;omega
  rw[er];refine yt (Ar ..) (yq (by simp) ?_);rw[ht];refine zg ?_ (zl ?_)
  ·rw[D5 (by omega) hd];simp;omega
  ·rw[KV hd,hv];exact hq _
 |k+1,i,p,c,hi,hp,hd,hc,he=>by
  have gx:=AV hx i;have gy:=AV hy i;have lo:(p++zp (x.length-i) (0:Int)).length=x.length:=by simp;omega
  have step:∀z,zu z=true->z=y.getD i 0->Ends KP (L1 x y x.length (PU (x.getD i 0) z c) x.length (zc .i64 ((i:Int)+1)) ((p++zp (x.length-i) 0).set i (S2 (x.getD i 0) z c))) Q:=by
   intro z hz ez;obtain⟨a1,a2,a3⟩:=Sp.G4 gx hz hc;rw[wr ((i:Int)+1) (by omega) (by omega),IS p x.length i _ hp (by omega)];refine Aj x y hx hy hl hm hq k (i+1) (p++[S2 (x.getD i 0) z c]) _ (by omega) (by simp;omega) (DS hd a1) a2 ?_;have e:(Ak:Int)^i*S2 (x.getD i 0) z c-(Ak:Int)^i*(18446744073709551616*PU (x.getD i 0) z c)=(Ak:Int)^i*x.getD i 0-(Ak:Int)^i*z-(Ak:Int)^i*c:=by
    rw[<-qz,a3,qz,qz]
   rw[EL,hp,KX,AE _ x i,AE _ y i, <-ez];omega
  refine yt (Ar ..) (zg (by simp;omega) ?_);rw[zo];refine zn (fun d=>?_) (fun d=>?_)
  ·have d:=w6 d;refine zg (by simp;omega) (zg (by simp;omega) (zg ?_ (zg (by simp;omega) (zg (w4 (by rw[lo];omega)) (step _ gy rfl)))));rw[gx,gy,yj,yj,zh];exact⟨w4 hc.1,w4 hc.2⟩
  ·have d:=w7 d;have hz:y.getD i 0=0:=by rw[zr,y9 (by omega)];rfl
   refine zg (by simp;omega) (zg ?_ (zg (by simp;omega) (zg (w4 (by rw[lo];omega)) (step _ rfl hz.symm))));rw[gx,show zu 0=true from rfl,yj,yj,zh];exact⟨w4 hc.1,w4 hc.2⟩
theorem ok(hall:∀g sp,KP.sp g=some sp->Ag Bg g sp):Ag Bg 222 gN:=by
 refine MK (X:=KP) rfl hall (d:=9) (by kernel_rfl) (by kernel_rfl) (by kernel_rfl) (fun(i:List Int×List Int) hi=>?_) (BA (by kernel_rfl));obtain⟨x,y⟩:=i;have hi:(CI x&&CI y&&decide (Ao y<=Ao x))=true:=hi;rw[zh,zh,w5]at hi;obtain⟨x1,x2⟩:=IG hi.1.1;obtain⟨y1,y2⟩:=IG hi.1.2;have hq:∀ob,Ad gN (x,y) (.dat Dc (Bs (Ao x-Ao y))) ob:=fun ob=>z8 rfl rfl rfl
 refine yo (Am x y) ?_;conv=>zeta
 rw[zo];refine zg (by simp;omega) ?_;exact Aj x y x2 y2 hi.2 x1 hq x.length 0 [] 0 (by omega) rfl (fun _ h=>by cases h) (by omega) (by simp[yd])
end T222
theorem K0(n:Int):zc .u64 n=n % 18446744073709551616:=by simp[zc,IntKind.bits,IntKind.signed]
theorem ZG(n:Nat):zq (n:Int) ((2:Int)^(32:Nat))=((n/4294967296:Nat):Int):=by
 rw[yn _ (by decide)];rfl
theorem eE(n:Nat)(h:n<18446744073709551616):zc .u64 (n:Int)=n:=wu _ (by omega) (by omega)
theorem NK(n:Nat)(h:n<18446744073709551616):Hc .u64 (n:Int) 4294967295=((n % 4294967296:Nat):Int):=by
 have e:(yi 64 (n:Int)&&&yi 64 4294967295).toNat=n % 4294967296:=by
  rw[BitVec.toNat_and];have h1:(yi 64 (n:Int)).toNat=n:=by rw[qd,qh];exact qo h
  have h2:(yi 64 4294967295).toNat=2^32-1:=by decide
  rw[h1,h2,Nat.and_two_pow_sub_one_eq_mod]
 show zc .u64 (((yi 64 (n:Int)&&&yi 64 4294967295).toNat:Nat):Int)=_;rw[e];exact eE _ (by omega)
namespace T223
theorem ok:Ag Bg 223 Q7:=by
 refine B1 Jh (fun(i:Int×Int) hi=>?_);obtain⟨x,y⟩:=i;have hi:(zu x&&zu y)=true:=hi;rw[zh]at hi;have hx:=Sp.A0 hi.1;have hy:=Sp.A0 hi.2;obtain⟨x,rfl⟩:=zt hx.1;obtain⟨y,rfl⟩:=zt hy.1;have hx:x<18446744073709551616:=by omega
 have hy:y<18446744073709551616:=by omega
 obtain⟨m1,m2,m3,m4⟩:=Go.Lib.mul64_hi x y hx hy;have k1:=qi (a:=x/4294967296) (b:=y/4294967296) (by omega) (by omega);have k2:=qi (a:=x/4294967296) (b:=y % 4294967296) (by omega) (by omega);have k3:=qi (a:=x % 4294967296) (b:=y/4294967296) (by omega) (by omega);refine yo (Am (x:Int) (y:Int)) (zg rfl (zg rfl (zg rfl (zg rfl (zg rfl (zl (z8 rfl rfl ?_)))))));refine Prod.ext ?_ ?_
 ·show zc ze (zc ze (zc ze (zq (x:Int) ((2:Int)^(32:Nat))*zq (y:Int) ((2:Int)^(32:Nat)))+zq (zc ze (zc ze (zq (x:Int) ((2:Int)^(32:Nat))*Hc ze (y:Int) (4294967295:Int))+zq (zc ze (Hc ze (x:Int) (4294967295:Int)*Hc ze (y:Int) (4294967295:Int))) ((2:Int)^(32:Nat)))) ((2:Int)^(32:Nat)))+zq (zc ze (Hc ze (zc ze (zc ze (zq (x:Int) ((2:Int)^(32:Nat))*Hc ze (y:Int) (4294967295:Int))+zq (zc ze (Hc ze (x:Int) (4294967295:Int)*Hc ze (y:Int) (4294967295:Int))) ((2:Int)^(32:Nat)))) (4294967295:Int)+zc ze (Hc ze (x:Int) (4294967295:Int)*zq (y:Int) ((2:Int)^(32:Nat))))) ((2:Int)^(32:Nat)))=QL x y;have em:QL x y=((x*y/18446744073709551616:Nat):Int):=by unfold QL;omega
  rw[em, <-m4];have hlt:x*y/18446744073709551616<18446744073709551616:=Nat.div_lt_of_lt_mul (Nat.mul_lt_mul'' hx hy);rw[<-m4]at hlt;simp only[ZG,NK x hx,NK y hy];simp only[<-yz];generalize (x/4294967296)*(y/4294967296)=a at*;generalize (x/4294967296)*(y % 4294967296)=b at*;generalize (x % 4294967296)*(y/4294967296)=c at*;generalize (x % 4294967296)*(y % 4294967296)=d at*;rw[eE d (by omega),eE a (by omega),eE b (by omega),eE c (by omega),ZG, <-qf,eE _ m2,ZG,NK _ m2, <-qf, <-qf,eE _ m3,ZG,eE (a+_) (by omega), <-qf,eE _ hlt]
 ·show zc .u64 ((x:Int)*y)=Ia x y;unfold Ia;exact K0 _
end T223
theorem aQ{x y o c:Int}(hx:zu x=true)(hy:zu y=true)(ho:zu o=true)(hc:zu c=true):
  zu (Ia x y)=true/\zu (HN (Ia x y) o 0)=true/\zu (HN (HN (Ia x y) o 0) c 0)=true/\
  zc .u64 (zc .u64 (QL x y+Pa (Ia x y) o 0)+Pa (HN (Ia x y) o 0) c 0)=(x*y+o+c)/18446744073709551616/\
  zu ((x*y+o+c)/18446744073709551616)=true/\
  HN (HN (Ia x y) o 0) c 0+18446744073709551616*((x*y+o+c)/18446744073709551616)=x*y+o+c:=by
 have hx:=Sp.A0 hx;have hy:=Sp.A0 hy;have ho:=Sp.A0 ho;have hc:=Sp.A0 hc;have h0:0<=x*y:=zx hx.1 hy.1;have h1:x*y<=18446744073709551615*18446744073709551615:=by
  have a:=yh (show y<=18446744073709551615 by omega) hx.1;have b:=zm (show x<=18446744073709551615 by omega) (show(0:Int)<=18446744073709551615 by omega);omega
 unfold Ia QL HN Pa;generalize x*y=P at*;refine⟨CB (by omega) (by omega),CB (by omega) (by omega),CB (by omega) (by omega),?_,CB (by omega) (by omega),by omega⟩;rw[K0,K0];omega
namespace T225
variable {Q:PV->Ob->Prop}
theorem AQ(x y:List Int)(n i:Nat)(hi:i<x.length)(hn:n=x.length+y.length)(hx9:x.length<=9000)(hy9:y.length<=9000)(hx:Aw Ak x)(hy:Aw Ak y)(p:List Int)(hp:p.length=i+y.length)(hdp:Aw Ak p)
  (hq:∀q c,q.length=i+y.length->Aw Ak q->zu c=true->yd Ak q+(Ak:Int)^(i+y.length)*c=yd Ak p+(Ak:Int)^i*(x.getD i 0*yd Ak y)->Ends KP (L1 y n x x.length ((i+1:Nat):Int) ((q++[c])++zp (n-(i+y.length+1)) 0)) Q):∀(k j:Nat) (q:List Int) (c:Int),j+k=y.length->q.length=i+j->Aw Ak q->zu c=true->yd Ak q+(Ak:Int)^(i+j)*c=yd Ak (p.take (i+j))+(Ak:Int)^i*(x.getD i 0*yd Ak (y.take j))->
  Ends KP (L2 y n i (x.getD i 0) c x x.length i y y.length j (q++(p.drop (i+j)++zp (n-(i+y.length)) 0))) Q
 |0,j,q,c,hj,hl,hd,hc,he=>by
  have hj:j=y.length:=by omega
  subst hj;have e1:zc .i64 ((i:Int)+(y.length:Int))=((i+y.length:Nat):Int):=by rw[wr _ (by omega) (by omega)];omega
  have e2:zc .i64 ((i:Int)+1)=((i+1:Nat):Int):=by rw[wr _ (by omega) (by omega)];omega
  have ed:p.drop (i+y.length)=[]:=List.drop_eq_nil_of_le (by omega);refine yt (AZ ..) (yq (by simp) ?_);rw[e1,e2,zo,ed,List.nil_append,IS q n _ c hl (by omega)];refine zg (by simp;omega) (zg (by simp;omega) (hq q c hl hd hc ?_));rw[he,zz (by omega),yw]
 |k+1,j,q,c,hj,hl,hd,hc,he=>by
  have gx:=AV hx i;have gy:=AV hy j;have gp:=AV hdp (i+j);have ep:p.drop (i+j)=p.getD (i+j) 0::p.drop (i+j+1):=by
   rw[zr,yf (by omega)];exact yx (by omega)
  have e1:zc .i64 ((i:Int)+(j:Int))=((i+j:Nat):Int):=by rw[wr _ (by omega) (by omega)];omega
  have e2:zc .i64 ((j:Int)+1)=((j+1:Nat):Int):=by rw[wr _ (by omega) (by omega)];omega
  have lo:(q++(p.drop (i+j)++zp (n-(i+y.length)) (0:Int))).length=n:=by simp;omega
  have g1:(q++(p.drop (i+j)++zp (n-(i+y.length)) (0:Int))).getD (i+j) 0=p.getD (i+j) 0:=by
   rw[ep,qp];exact Dr _ _ _ _ hl
  have s1:∀z,(q++(p.drop (i+j)++zp (n-(i+y.length)) (0:Int))).set (i+j) z=(q++[z])++(p.drop (i+(j+1))++zp (n-(i+y.length)) 0):=by
   intro z;rw[ep,qp,Di _ _ _ _ hl,qm];rfl
  obtain⟨m1,m2,m3,m4,m5,m6⟩:=aQ gx gy gp hc;refine yt (AZ ..) (zg (by simp;omega) ?_);rw[e1,e2,zo,zo,g1,s1,m4];have t1:(decide ((0:Int)<=((i+j:Nat):Int))&&decide (((i+j:Nat):Int)<(n:Int)))=true:=by simp;omega
  refine zg (by simp;omega) (zg (by rw[gx,gy];rfl) (zg t1 (zg (w4 (by rw[lo];omega)) (zg (by rw[m1,gp];rfl) (zg (by rw[m2,hc];rfl) (zg t1 (zg (w4 (by rw[lo];omega)) ?_)))))));refine AQ x y n i hi hn hx9 hy9 hx hy p hp hdp hq k (j+1) _ _ (by omega) (by simp;omega) (DS hd m3) m5 ?_;have ea:i+(j+1)=(i+j)+1:=by omega
  have eb:(Ak:Int)^i*(x.getD i 0*((Ak:Int)^j*y.getD j 0))=(Ak:Int)^(i+j)*(x.getD i 0*y.getD j 0):=by
   rw[Int.pow_add,zw,Int.mul_left_comm (x.getD i 0)]
  rw[ea,EL,hl,KX,qn, <-yg,m6,AE _ p (i+j),AE _ y j,yg,yg,yg (x.getD i 0),yg,eb];omega
theorem Aj(x y:List Int)(n:Nat)(hn:n=x.length+y.length)(hx9:x.length<=9000)(hy9:y.length<=9000)(hx:Aw Ak x)(hy:Aw Ak y)(hq:∀ob,Q (.dat Dc (Bs (Ao x*Ao y))) ob):∀(k i:Nat) (p:List Int),i+k=x.length->p.length=i+y.length->Aw Ak p->yd Ak p=yd Ak (x.take i)*yd Ak y->
  Ends KP (L1 y n x x.length i (p++zp (n-(i+y.length)) 0)) Q
 |0,i,p,hi,hp,hd,he=>by
  have hi:i=x.length:=by omega
  subst hi;have ez:p++zp (n-(x.length+y.length)) (0:Int)=p:=by rw[hn,Nat.sub_self];simp
  have hv:Ao p=Ao x*Ao y:=by
   rw[yw]at he;exact he
  rw[ez];refine yt (Ar ..) (yq (by simp) ?_);rw[zz (by omega)];refine zg ?_ (zl ?_)
  ·rw[D5 (by omega) hd];simp;omega
  ·rw[KV hd,hv];exact hq _
 |k+1,i,p,hi,hp,hd,he=>by
  refine yt (Ar ..) (zg (by simp;omega) ?_);rw[zo];refine zg (by simp;omega) ?_;have h0:yd Ak (p.take (i+y.length))=yd Ak p:=by rw[zz (by omega)]
  have:=AQ (Q:=Q) x y n i (by omega) hn hx9 hy9 hx hy p hp hd (fun q c hl hdq hc hv=>by
   have:=Aj x y n hn hx9 hy9 hx hy hq k (i+1) (q++[c]) (by omega) (by simp;omega) (DS hdq hc) (by
    rw[EL,hl,hv,he,AE,yb,zw])
   rw[show i+1+y.length=i+y.length+1 by omega]at this;exact this) y.length 0 (p.take i) 0 (by omega) (by simp;omega) (AL hd i) rfl (by simp[yd])
  rw[Nat.add_zero, <-qm,List.take_append_drop]at this;exact this
theorem ok(hall:∀g sp,KP.sp g=some sp->Ag Bg g sp):Ag Bg 225 aO:=by
 refine MK (X:=KP) rfl hall (d:=9) (by kernel_rfl) (by kernel_rfl) (by kernel_rfl) (fun(i:List Int×List Int) hi=>?_) (BA (by kernel_rfl));obtain⟨x,y⟩:=i;have hi:(jf x&&jf y)=true:=hi;rw[zh]at hi;obtain⟨x1,x2⟩:=WS hi.1;obtain⟨y1,y2⟩:=WS hi.2;have hq:∀ob,Ad aO (x,y) (.dat Dc (Bs (Ao x*Ao y))) ob:=fun ob=>z8 rfl rfl rfl
 have e1:zc .i64 ((x.length:Int)+(y.length:Int))=((x.length+y.length:Nat):Int):=by rw[wr _ (by omega) (by omega)];omega
 refine yo (Am x y) ?_;conv=>zeta
 rw[e1,zo];refine zg (by simp;omega) ?_;have:=Aj x y (x.length+y.length) rfl x1 y1 x2 y2 hq x.length 0 (zp y.length 0) (by omega) (by simp) (fun d hd=>by
  obtain⟨_,rfl⟩:=List.mem_replicate.1 hd;exact⟨by decide,by decide⟩) (by rw[LR];simp[yd])
 rw[Nat.zero_add,List.replicate_append_replicate,show y.length+(x.length+y.length-y.length)=x.length+y.length by omega]at this;exact this
end T225
theorem Fg:DM KP:=
 Ab T224.ok (Ab T268.ok (Ab T270.ok (Ab T269.ok (Ab T223.ok AP))))
theorem SS:DM yD:=
 Ab (T218.ok Fg) (Ab (T219.ok Fg) (Ab (T220.ok Fg) (Ab (T222.ok Fg) (Ab T221.ok (Ab (T225.ok Fg) (Ab T223.ok (Ab T224.ok AP)))))))
end Go.Pe
namespace Go.Sp
def A6(a:AS):Bool:=Dh a&&decide (a.2.length<=9000)
def YJ(a b:AS):Int:=BZ (vI a) (vI b)
def HO(a:AS):Int:=PX (vI a)
end Go.Sp
namespace Go.Pe
open Sp
open Go.Det
def Ty:Ap:=⟨[BF],fun a=>Dh a,[BF],fun a=>(D3 a,Ed a),false⟩
def pX:Ap:=⟨[BF],fun a=>Dh a,[BF],fun a=>(Om a,Pp a),false⟩
def J5:Ap:=⟨[BF],fun a=>Dh a,[i64],fun a=>HO a,false⟩
def OW:Ap:=⟨[BF,BF],fun i=>A6 i.1&&A6 i.2,[BF],fun i=>(H2 i.1 i.2,Iu i.1 i.2),false⟩
def fY:Ap:=⟨[BF,BF],fun i=>A6 i.1&&A6 i.2,[BF],fun i=>(eN i.1 i.2,gD i.1 i.2),false⟩
def QF:Ap:=⟨[BF,BF],fun i=>A6 i.1&&A6 i.2,[BF],fun i=>(EW i.1 i.2,EK i.1 i.2),false⟩
def bX:Ap:=⟨[BF,BF],fun i=>A6 i.1&&A6 i.2,[i64],fun i=>YJ i.1 i.2,false⟩
def zF:A1:=X7 [(174,Ty),(158,OW)]
def zT:A1:=X7 [(217,fY),(173,J5)]
section
open List Int Prod
namespace T174
def T(a:Int×List Int):Tr:=tree yD false 9 174 (Af ([y7 i64 (yc (zk ze))]) a)
theorem Am(a:Int×List Int):T a=let c':=yc (zk ze);let d':=Bs (Ae (zj (fst a,snd a)));let e':=zc .i64 (0-fst a);let b':=qj (!decide (zj (fst a,snd a)<0)) (Ao d');let a':Tr:=.ite (Dh (fst a,snd a)) (.ite (B5 d') (.leaf (yy [.dat i64 (Cw b'),.dat c' (Cu b')]) ([(zy 0 1,.box [.dat i64 (Cw b'),.dat c' (Cu b')]),(0,.box [.dat i64 (fst a),.dat c' (snd a)])])) .fail) .fail;.ite (!decide (0<length (snd a))) (.ite (fst a !=(-9223372036854775808)) (.leaf (yy [.dat i64 e',.nil]) ([(zy 0 1,.box [.dat i64 e',.nil]),(0,.box [.dat i64 (fst a),.dat c' (snd a)])])) a') a':=by kernel_rfl
end T174
namespace T158
def T(a b:Int×List Int):Tr:=tree yD false 9 158 (Af ([y7 i64 (yc (zk ze)),y7 i64 (yc (zk ze))]) (a,b))
theorem Am(a b:Int×List Int):T a b=let b':=Bs (Ae (zj (fst a,snd a)));let c':=Bs (Ae (zj (fst b,snd b)));let d':=yc (zk ze);let h':=decide (zj (fst a,snd a)<0);let i':=zc .i64 (fst a+fst b);let m':=decide (zj (fst b,snd b)<0);let j':=Bs (Ao b'+Ao c');let k':=Bs (Ao b'-Ao c');let l':=Bs (Ao c'-Ao b');let e':=qj (h') (Ao j');let f':=qj (h') (Ao k');let g':=qj (m') (Ao l');let a':Tr:=.ite (Dh (fst a,snd a)) (.ite (Dh (fst b,snd b)) (.ite (h'==m') (.ite (jf b'&&jf c') (.ite (B5 j') (.leaf (yy [.dat i64 (Cw e'),.dat d' (Cu e')]) ([(zy (zy 0 1) 1,.box [.dat i64 (Cw e'),.dat d' (Cu e')]),(zy 0 1,.box [.dat i64 (fst b),.dat d' (snd b)]),(0,.box [.dat i64 (fst a),.dat d' (snd a)])])) .fail) .fail) (.ite (B5 b'&&B5 c') (.ite (decide (BZ (Ao b') (Ao c')>=0)) (.ite (CI b'&&CI c'&&decide (Ao c'<=Ao b')) (.ite (B5 k') (.leaf (yy [.dat i64 (Cw f'),.dat d' (Cu f')]) ([(zy (zy 0 1) 1,.box [.dat i64 (Cw f'),.dat d' (Cu f')]),(zy 0 1,.box [.dat i64 (fst b),.dat d' (snd b)]),(0,.box [.dat i64 (fst a),.dat d' (snd a)])])) .fail) .fail) (.ite (CI c'&&CI b'&&decide (Ao b'<=Ao c')) (.ite (B5 l') (.leaf (yy [.dat i64 (Cw g'),.dat d' (Cu g')]) ([(zy (zy 0 1) 1,.box [.dat i64 (Cw g'),.dat d' (Cu g')]),(zy 0 1,.box [.dat i64 (fst b),.dat d' (snd b)]),(0,.box [.dat i64 (fst a),.dat d' (snd a)])])) .fail) .fail)) .fail)) .fail) .fail;.ite (!decide (0<length (snd a))) (.ite (!decide (0<length (snd b))) (.ite (decide (zc .i64 (fst a+fst b)>fst a)==decide (fst b>0)) (.leaf (yy [.dat i64 i',.nil]) ([(zy (zy 0 1) 1,.box [.dat i64 i',.nil]),(zy 0 1,.box [.dat i64 (fst b),.dat d' (snd b)]),(0,.box [.dat i64 (fst a),.dat d' (snd a)])])) a') a') a':=by kernel_rfl
end T158
namespace T159
def T(a b:Int×List Int):Tr:=tree yD false 9 159 (Af ([y7 i64 (yc (zk ze)),y7 i64 (yc (zk ze))]) (a,b))
theorem Am(a b:Int×List Int):T a b=let c':=yc (zk ze);let f':=Ae (fst a);let g':=Ae (fst b);let i':=Bs (Ae (zj (fst a,snd a)));let j':=Bs (Ae (zj (fst b,snd b)));let d':=Ia f' g';let e':=Bs (Ao i'*Ao j');let b':=qj (!decide (zj (fst a,snd a)<0)==decide (zj (fst b,snd b)<0)) (Ao e');let h':=zc .i64 (0-zc .i64 d');let a':Tr:=.ite (Dh (fst a,snd a)) (.ite (Dh (fst b,snd b)) (.ite (jf i'&&jf j') (.ite (B5 e') (.leaf (yy [.dat i64 (Cw b'),.dat c' (Cu b')]) ([(zy (zy 0 1) 1,.box [.dat i64 (Cw b'),.dat c' (Cu b')]),(zy 0 1,.box [.dat i64 (fst b),.dat c' (snd b)]),(0,.box [.dat i64 (fst a),.dat c' (snd a)])])) .fail) .fail) .fail) .fail;.ite (!decide (0<length (snd a))) (.ite (!decide (0<length (snd b))) (.ite (CG (fst a)) (.ite (CG (fst b)) (.ite (zu f'&&zu g') (.ite (QL f' g'==0) (.ite (decide (Ia f' g'<=9223372036854775807)) (.ite (!decide (fst a<0)==decide (fst b<0)) (.leaf (yy [.dat i64 h',.nil]) ([(zy (zy 0 1) 1,.box [.dat i64 h',.nil]),(zy 0 1,.box [.dat i64 (fst b),.dat c' (snd b)]),(0,.box [.dat i64 (fst a),.dat c' (snd a)])])) (.leaf (yy [.dat i64 (zc .i64 d'),.nil]) ([(zy (zy 0 1) 1,.box [.dat i64 (zc .i64 d'),.nil]),(zy 0 1,.box [.dat i64 (fst b),.dat c' (snd b)]),(0,.box [.dat i64 (fst a),.dat c' (snd a)])]))) a') a') .fail) .fail) .fail) a') a':=by kernel_rfl
end T159
namespace T212
def T(a:Int×List Int):Tr:=tree zF false 9 212 (Af ([y7 i64 (yc (zk ze))]) a)
theorem Am(a:Int×List Int):T a=let a':=yc (zk ze);let b':=D3 (fst a,snd a);let c':=Ed (fst a,snd a);.ite (decide (fst a<0)) (.ite (Dh (fst a,snd a)) (.leaf (yy [.dat i64 b',.dat a' c']) ([(zy 0 1,.box [.dat i64 b',.dat a' c']),(0,.box [.dat i64 (fst a),.dat a' (snd a)])])) .fail) (.leaf (yy [.dat i64 (fst a),.dat a' (snd a)]) ([(zy 0 1,.box [.dat i64 (fst a),.dat a' (snd a)]),(0,.box [.dat i64 (fst a),.dat a' (snd a)])])):=by kernel_rfl
end T212
namespace T173
def T(a:Int×List Int):Tr:=tree eR false 9 173 (Af ([y7 i64 (yc (zk ze))]) a)
theorem Am(a:Int×List Int):T a=.leaf (.dat i64 (imax (-1) (Es 1 (fst a)))) ([(0,.box [.dat i64 (fst a),.dat (yc (zk ze)) (snd a)])]):=by kernel_rfl
end T173
namespace T217
def T(a b:Int×List Int):Tr:=tree zF false 9 217 (Af ([y7 i64 (yc (zk ze)),y7 i64 (yc (zk ze))]) (a,b))
theorem Am(a b:Int×List Int):T a b=let a':=(D3 (fst b,snd b),Ed (fst b,snd b));let b':=yc (zk ze);let c':=H2 (fst a,snd a) a';let d':=Iu (fst a,snd a) a';.ite (Dh (fst b,snd b)) (.ite (A6 (fst a,snd a)&&A6 a') (.leaf (yy [.dat i64 c',.dat b' d']) ([(zy (zy 0 1) 1,.box [.dat i64 c',.dat b' d']),(zy 0 1,.box [.dat i64 (fst b),.dat b' (snd b)]),(0,.box [.dat i64 (fst a),.dat b' (snd a)])])) .fail) .fail:=by kernel_rfl
end T217
namespace T154
def T(a b:Int×List Int):Tr:=tree zT false 9 154 (Af ([y7 i64 (yc (zk ze)),y7 i64 (yc (zk ze))]) (a,b))
theorem Am(a b:Int×List Int):T a b=let c':=(eN (fst a,snd a) (fst b,snd b),gD (fst a,snd a) (fst b,snd b));let d':=yc (zk ze);let a':=[(zy 0 1,.box [.dat i64 (fst b),.dat d' (snd b)]),(0,.box [.dat i64 (fst a),.dat d' (snd a)])];let b':Tr:=.ite (A6 (fst a,snd a)&&A6 (fst b,snd b)) (.ite (Dh c') (.leaf (.dat i64 (HO c')) a') .fail) .fail;.ite (!decide (0<length (snd a))) (.ite (!decide (0<length (snd b))) (.ite (decide (fst a<fst b)) (.leaf (.dat i64 (-1:Int)) a') (.ite (decide (fst a>fst b)) (.leaf (.dat i64 (1:Int)) a') (.leaf (.dat i64 (0:Int)) a'))) b') b':=by kernel_rfl
end T154
end
theorem Sq(k:Nat):((Ak^k:Nat):Int)=(Ak:Int)^k:=yu ..
theorem J2{n:Int}{k:Nat}(h0:0<=n)(h:n<(Ak:Int)^k):(Bs n).length<=k:=by
 refine NA Ak (by decide) k n.toNat n.toNat ?_;rw[<-Sq]at h;generalize Ak^k=P at*;omega
theorem CV{n:Int}{k:Nat}(h0:0<=n)(h:n<(Ak:Int)^k)(hk:k<=20000):B5 (Bs n)=true/\CI (Bs n)=true/\Ao (Bs n)=n:=by
 have h1:=J2 h0 h;have h2:CI (Bs n)=true:=D5 (by omega) (Fc (by decide) n);have h3:rJ (Bs n)=true:=by
  unfold rJ;exact w4 (XE (by decide) n)
 exact⟨by unfold B5;rw[h2,h3];rfl,h2,CP (by decide) h0⟩
theorem BU{a:AS}(h:A6 a=true):Dh a=true/\a.2.length<=9000:=by
 unfold A6 at h;rw[zh,w5]at h;exact h
theorem Vd{s:Int}{w:List Int}(hw:w≠[]):zj (s,w)=if s<0 then -Ao w else Ao w:=by unfold zj;exact wc hw
theorem Ps{a:AS}(h:Dh a=true):(a.2=[]/\Ae (zj a)<=9223372036854775808)\/(Bs (Ae (zj a))=a.2):=by
 obtain⟨hr,hw⟩:=DJ h;obtain⟨s,w⟩:=a;have hr: -9223372036854775808<=s/\s<9223372036854775808:=hr;rcases hw with hw|⟨h1,h2,h3⟩
 ·have hw:w=[]:=hw;subst hw;refine .inl ⟨rfl,?_⟩;rw[Ew];simp only[Ah];omega
 ·obtain⟨n1,n2,n3⟩:=ES (l:=w) h1;have h2:s=1\/s= -1:=h2;have h3:9223372036854775808<=Ao w:=h3;have hne:w≠[]:=by rintro rfl;exact wh h3 (by decide)
  refine .inr ?_;have e1:Ae (zj (s,w))=Ao w:=by rw[Vd hne];simp only[Ah];split<;>omega
  rw[e1];exact(Ij (by decide) n2 n3).symm
theorem AF(n:Int):0<=Ae n:=by simp only[Ah];omega
theorem IQ{a:AS}(h:Dh a=true){k:Nat}(hk:a.2.length<=k)(h1:1<=k):Ae (zj a)<(Ak:Int)^k:=by
 rcases Ps h with⟨_,hb⟩|he
 ·have:=AH (b:=Ak) (by decide) h1;rw[Int.pow_one]at this;have h3:(9223372036854775808:Int)<(Ak:Int):=by decide
  exact ym hb (Int.lt_of_lt_of_le h3 this)
 ·have hv:=CP (b:=Ak) (by decide) (AF (zj a));have:=Br (b:=Ak) (by decide) (Fc (b:=Ak) (by decide) (Ae (zj a)));rw[hv,show Sp.dg Ak (Ae (zj a))=a.2 from he]at this;exact Int.lt_of_lt_of_le this (AH (by decide) hk)
theorem Lx{x y:Int}(hx:0<=x)(h1:x<(Ak:Int)^9000)(h2:y<(Ak:Int)^9000):x+y<(Ak:Int)^9001/\x*y<(Ak:Int)^18000:=by
 have e1:(Ak:Int)^9001=(Ak:Int)^9000*Ak:=qg ..;have e2:(Ak:Int)^18000=(Ak:Int)^9000*(Ak:Int)^9000:=Int.pow_add _ 9000 9000;rw[e1,e2];generalize (Ak:Int)^9000=P at*;refine⟨?_,?_⟩
 ·show x+y<P*18446744073709551616;omega
 ·have a:=yh (show y<=P-1 by omega) hx;have b:=zm (show x<=P-1 by omega) (show 0<=P-1 by omega);have c:(P-1)*(P-1)=P*P-P-P+1:=by
   rw[Int.sub_mul,qz];omega
  omega
theorem Dn(n:Bool)(v:Int):qj n v=if n=true then -v else v:=rfl
theorem Cm(n:Int):zj (CO n)=n:=by
 unfold CO;split
 ·exact Ew
 ·have hv:=CP (b:=Ak) (by decide) (AF n);have hne:Bs (Ae n)≠[]:=by
   intro h;rw[show Sp.dg Ak (Ae n)=[]from h]at hv;have:(0:Int)=Ae n:=hv;simp only[Ah]at this;omega
  rw[Vd hne,show Ao (Bs (Ae n))=Ae n from hv];simp only[Ah];split<;>split<;>omega
theorem Xc{a:AS}{c:Bool}(h:(!decide (0<a.2.length))=c):(c=true->a.2=[])/\(c=false->a.2≠[]):=by
 subst h;rcases a with⟨s,w⟩
 cases w<;>simp
theorem N7{a:AS}(h:(!decide (0<a.2.length))=true):a.2=[]:=(Xc h).1 rfl
theorem gT{a:AS}(h:(!decide (0<a.2.length))=false):a.2≠[]:=(Xc h).2 rfl
theorem Bl{a:AS}(h:a.2=[]):zj a=a.1:=by unfold zj;exact wd h
theorem words{a:AS}(h:A6 a=true):Dh a=true/\jf (Bs (Ae (zj a)))=true/\B5 (Bs (Ae (zj a)))=true/\CI (Bs (Ae (zj a)))=true/\Ao (Bs (Ae (zj a)))=Ae (zj a)/\Ae (zj a)<(Ak:Int)^9000:=by
 obtain⟨h1,h2⟩:=BU h;have hb:=IQ h1 h2 (by omega);obtain⟨n,d,v⟩:=CV (AF _) hb (by omega);have hl:=J2 (AF _) hb;refine⟨h1,?_,n,d,v,hb⟩;unfold jf;rw[d,yj];exact w4 hl
theorem Aa{a b:Bool}(h1:a=true)(h2:b=true):(a&&b)=true:=by rw[h1,h2];rfl
theorem J8(n:Int):PX n=if n<0 then -1 else if n>0 then 1 else 0:=rfl
theorem rF{a:AS}(h:Dh a=true):imax (-1) (Es 1 a.1)=PX (zj a):=by
 obtain⟨hr,hw⟩:=DJ h;obtain⟨s,w⟩:=a;rcases hw with hw|⟨h1,h2,h3⟩
 ·have hw:w=[]:=hw;subst hw;rw[Ew,J8,dX];show imax (-1) (if (1:Int)<=s then 1 else s)=_;unfold imax;split<;>split<;>split<;>(try split)<;>omega
 ·have h2:s=1\/s= -1:=h2;have h3:9223372036854775808<=Ao w:=h3;have hne:w≠[]:=by rintro rfl;exact wh h3 (by decide)
  rw[Vd hne,J8];rcases h2 with rfl|rfl
  ·have e:(if (1:Int)<0 then -Ao w else Ao w)=Ao w:=wc (by decide);rw[e,wc (show ¬Ao w<0 by omega),wd (show Ao w>0 by omega)];show imax (-1) (Es 1 1)=1;decide
  ·have e:(if (-1:Int)<0 then -Ao w else Ao w)= -Ao w:=wd (by decide);rw[e,wd (show -Ao w<0 by omega)];show imax (-1) (Es 1 (-1))= -1;decide
namespace T174
theorem ok:Ag Bg 174 Ty:=by
 refine B1 SS (fun(a:Int×List Int) ha=>?_);have ha:Dh a=true:=ha;have hn:B5 (Bs (Ae (zj a)))=true/\Ao (Bs (Ae (zj a)))=Ae (zj a):=by
  refine⟨?_,CP (by decide) (AF _)⟩;rcases Ps ha with⟨_,hb⟩|he
  ·have:(9223372036854775808:Int)<(Ak:Int)^1:=by decide
   exact(CV (AF _) (ym hb this) (by omega)).1
  ·obtain⟨_,hw⟩:=DJ ha;rw[he];rcases hw with hw|⟨h1,_⟩
   ·rw[hw];decide+kernel
   ·exact h1
 have hv:qj (!decide (zj a<0)) (Ao (Bs (Ae (zj a))))= -zj a:=by
  rw[hn.2,Dn,Ah];rcases ya (zj a) 0 with h|h
  ·rw[w4 h];simp;omega
  ·rw[w8 (by omega)];simp;omega
 have hr:=(DJ ha).1;refine yo (Am a) (zn (fun c=>zn (fun d=>zl (z8 rfl rfl ?_)) (fun d=>zg ha (zg hn.1 (zl (z8 rfl rfl ?_))))) (fun c=>zg ha (zg hn.1 (zl (z8 rfl rfl ?_)))))
 ·have c:=N7 c;have d:a.1≠ -9223372036854775808:=by simpa using d
  show(zc .i64 (0-a.1),[])=C4 a;unfold C4;rw[wd ⟨c,d⟩,wr _ (by omega) (by omega),Int.zero_sub]
 ·have d:a.1= -9223372036854775808:=by simpa using d
  show CO (qj (!decide (zj a<0)) (Ao (Bs (Ae (zj a)))))=C4 a;unfold C4;rw[wc (fun h=>h.2 d),hv]
 ·have c:=gT c;show CO (qj (!decide (zj a<0)) (Ao (Bs (Ae (zj a)))))=C4 a;unfold C4;rw[wc (fun h=>c h.1),hv]
end T174
namespace T158
theorem ok:Ag Bg 158 OW:=by
 refine B1 SS (fun(i:(Int×List Int)×(Int×List Int)) hi=>?_);obtain⟨a,b⟩:=i;have hi:(A6 a&&A6 b)=true:=hi;rw[zh]at hi;obtain⟨a1,a2,a3,a4,a5,a6⟩:=words hi.1;obtain⟨b1,b2,b3,b4,b5,b6⟩:=words hi.2;have hra:=(DJ a1).1;have hrb:=(DJ b1).1;have na:=AF (zj a);have nb:=AF (zj b);obtain⟨t1,_⟩:=Lx na a6 b6;have hq:∀v ob,En a b=CO v->Ad OW (a,b) (.agg [.dat i64 (Cw v),.dat (.nlist (.int .u64)) (Cu v)]) ob:=fun v ob h=>z8 rfl rfl (by
  show CO v=En a b;rw[h])
 have mono:(Ak:Int)^9000<=(Ak:Int)^9001:=AH (by decide) (by omega);have slow1:decide (zj a<0)=decide (zj b<0)->qj (decide (zj a<0)) (Ao (Bs (Ao (Bs (Ae (zj a)))+Ao (Bs (Ae (zj b))))))=zj a+zj b:=by
  intro e;rw[a5,b5,show Ao (Bs (Ae (zj a)+Ae (zj b)))=_ from CP (by decide) (by omega),Dn,Ah,Ah];rcases ya (zj a) 0 with h|h
  ·rw[w4 h]at e ⊢;have:=w6 e.symm;simp only[wk];omega
  ·rw[w8 (by omega)]at e ⊢;have:=w7 e.symm;simp only[qk,ve];omega
 have slow2:decide (zj a<0)≠decide (zj b<0)->Ae (zj b)<=Ae (zj a)->qj (decide (zj a<0)) (Ao (Bs (Ao (Bs (Ae (zj a)))-Ao (Bs (Ae (zj b))))))=zj a+zj b:=by
  intro e hle;rw[a5,b5,show Ao (Bs (Ae (zj a)-Ae (zj b)))=_ from CP (by decide) (by omega),Dn,Ah,Ah];rcases ya (zj a) 0 with h|h
  ·rw[w4 h]at e ⊢;have:¬zj b<0:=fun h=>e (w4 h).symm
   simp only[wk];omega
  ·rw[w8 (by omega)]at e ⊢;have:zj b<0:=by
    rcases ya (zj b) 0 with h|h
    ·exact h
    ·exact wh (w8 (by omega)).symm e
   simp only[qk,ve];omega
 have slow3:decide (zj a<0)≠decide (zj b<0)->Ae (zj a)<=Ae (zj b)->qj (decide (zj b<0)) (Ao (Bs (Ao (Bs (Ae (zj b)))-Ao (Bs (Ae (zj a))))))=zj a+zj b:=by
  intro e hle;rw[a5,b5,show Ao (Bs (Ae (zj b)-Ae (zj a)))=_ from CP (by decide) (by omega),Dn,Ah,Ah];rcases ya (zj b) 0 with h|h
  ·rw[w4 h]at e ⊢;have:¬zj a<0:=fun h=>e (w4 h)
   simp only[wk];omega
  ·rw[w8 (show ¬zj b<0 by omega)]at e ⊢;have:zj a<0:=by
    rcases ya (zj a) 0 with h|h
    ·exact h
    ·exact wh (w8 (by omega)) e
   simp only[qk,ve];omega
 have n1:B5 (Bs (Ao (Bs (Ae (zj a)))+Ao (Bs (Ae (zj b)))))=true:=by
  rw[a5,b5];exact(CV (by omega) t1 (by omega)).1
 have n2:Ae (zj b)<=Ae (zj a)->B5 (Bs (Ao (Bs (Ae (zj a)))-Ao (Bs (Ae (zj b)))))=true:=by
  intro h;rw[a5,b5];exact(CV (by omega) (ym (by omega) a6) (by omega)).1
 have n3:Ae (zj a)<=Ae (zj b)->B5 (Bs (Ao (Bs (Ae (zj b)))-Ao (Bs (Ae (zj a)))))=true:=by
  intro h;rw[a5,b5];exact(CV (by omega) (ym (by omega) b6) (by omega)).1
 have cge:∀ {c:Bool},decide (BZ (Ao (Bs (Ae (zj a)))) (Ao (Bs (Ae (zj b))))>=0)=c->(c=true->Ae (zj b)<=Ae (zj a))/\(c=false->Ae (zj a)<=Ae (zj b)):=by
  intro c h;subst h;rw[a5,b5,w5,w9];unfold BZ;constructor
  ·intro h;split at h<;>omega
  ·intro h;split at h
   ·omega
   ·split at h<;>omega
 refine yo (Am a b) (zn (fun c1=>zn (fun c2=>zn (fun c3=>zl (z8 rfl rfl ?_)) (fun c3=>?_)) (fun c2=>?_)) (fun c1=>?_))
 ·have c1:=N7 c1;have c2:=N7 c2;have hs:zc .i64 (a.1+b.1)=a.1+b.1:=by
   rw[wj]at c3;rcases ya (a.1+b.1) (-9223372036854775808)with h|h
   ·exfalso;have e:zc .i64 (a.1+b.1)=a.1+b.1+18446744073709551616:=by rw[qq];omega
    rw[e,w4 (by omega),w8 (by omega)]at c3;cases c3
   ·rcases ya (a.1+b.1) 9223372036854775808 with h2|h2
    ·exact wr _ (by omega) (by omega)
    ·exfalso;have e:zc .i64 (a.1+b.1)=a.1+b.1-18446744073709551616:=by rw[qq];omega
     rw[e,w8 (by omega),w4 (by omega)]at c3;cases c3
  have hr:CG (a.1+b.1)=true:=by
   have: -9223372036854775808<=zc .i64 (a.1+b.1)/\zc .i64 (a.1+b.1)<9223372036854775808:=by rw[qq];omega
   rw[hs]at this;unfold CG;rw[zh,w5,w5];exact this
  show(zc .i64 (a.1+b.1),[])=En a b;unfold En;rw[wd ⟨c1,c2,hr⟩,hs]
 all_goals
  have hm:En a b=CO (zj a+zj b):=by
   unfold En;refine wc (fun h=>?_);obtain⟨h1,h2,h3⟩:=h;first
    |exact gT c1 h1
    |exact gT c2 h2
    |(have h3:=Eh h3
      have hs:zc .i64 (a.1+b.1)=a.1+b.1:=wr _ (by omega) (by omega);rw[hs,beq_eq_false_iff_ne]at c3;refine c3 ?_;rcases ya 0 b.1 with h|h
      ·rw[w4 (show a.1+b.1>a.1 by omega),w4 h]
      ·rw[w8 (show ¬a.1+b.1>a.1 by omega),w8 (show ¬b.1>0 by omega)])
  refine zg a1 (zg b1 (zn (fun e=>zg (Aa a2 b2) (zg n1 (zl (hq _ _ ?_)))) (fun e=>zg (Aa a3 b3) (zn (fun d=>zg ?_ (zg (n2 ((cge d).1 rfl)) (zl (hq _ _ ?_)))) (fun d=>zg ?_ (zg (n3 ((cge d).2 rfl)) (zl (hq _ _ ?_))))))))
  ·rw[hm];exact wi _ (slow1 (by simpa using e)).symm
  ·refine Aa (Aa a4 b4) (w4 ?_);rw[a5,b5];exact(cge d).1 rfl
  ·rw[hm];exact wi _ (slow2 (by simpa using e) ((cge d).1 rfl)).symm
  ·refine Aa (Aa b4 a4) (w4 ?_);rw[a5,b5];exact(cge d).2 rfl
  ·rw[hm];exact wi _ (slow3 (by simpa using e) ((cge d).2 rfl)).symm
end T158
theorem C3{n:Int}(h1: -9223372036854775808<=n)(h2:n<9223372036854775808):CG n=true:=by
 unfold CG;rw[zh,w5,w5];exact⟨h1,h2⟩
theorem KK{n:Int}(h:CG n=true):Dh (n,[])=true:=by
 unfold Dh;rw[h];rfl
theorem Nw{n:Int}{k:Nat}(h:Ae n<(Ak:Int)^k)(hk:k<=20000):Dh (CO n)=true/\(CO n).2.length<=k:=by
 unfold CO;split
 ·next c=>exact⟨KK (C3 (by omega) (by omega)),Nat.zero_le _⟩
 ·next c=>
  obtain⟨n1,n2,n3⟩:=CV (AF n) h hk;refine⟨?_,J2 (AF n) h⟩;have hb:9223372036854775808<=Ae n:=by rw[Ah];omega
  unfold Dh;refine Aa (C3 ?_ ?_) ?_
  ·show -9223372036854775808<=(if n<0 then -1 else 1);split<;>decide
  ·show(if n<0 then -1 else 1)<9223372036854775808;split<;>decide
  ·rw[qw];refine .inr (Aa (Aa n1 ?_) (w4 (by show _<=Ao (Bs (Ae n));rw[n3];exact hb)));show(decide ((if n<0 then(-1:Int)else 1)=1)||decide ((if n<0 then(-1:Int)else 1)= -1))=true;split<;>rfl
theorem IE(a:AS):zj (C4 a)= -zj a:=by
 unfold C4;split
 ·next h=>rw[Ew,Bl h.1]
 ·exact Cm _
theorem It(n:Int):Ae (-n)=Ae n:=by rw[Ah,Ah];omega
theorem Vh{a:AS}(h:Dh a=true){k:Nat}(h1:1<=k)(hk:k<=20000)(hl:a.2.length<=k):Dh (C4 a)=true/\(C4 a).2.length<=k:=by
 have hr:=(DJ h).1;unfold C4;split
 ·next c=>exact⟨KK (C3 (by omega) (by omega)),Nat.zero_le _⟩
 ·exact Nw (by rw[It];exact IQ h hl h1) hk
theorem UA{a:AS}(h:A6 a=true):A6 (C4 a)=true:=by
 obtain⟨h1,h2⟩:=BU h;obtain⟨h3,h4⟩:=Vh h1 (k:=9000) (by omega) (by omega) h2;unfold A6;exact Aa h3 (w4 h4)
theorem oO{a:AS}(h:Dh a=true):a.1<0↔zj a<0:=by
 obtain⟨_,hw⟩:=DJ h;obtain⟨s,w⟩:=a;rcases hw with hw|⟨_,h2,h3⟩
 ·have hw:w=[]:=hw;subst hw;rw[Ew]
 ·have h2:s=1\/s= -1:=h2;have h3:9223372036854775808<=Ao w:=h3;have hne:w≠[]:=by rintro rfl;exact wh h3 (by decide)
  rw[Vd hne];show s<0↔_;split<;>omega
theorem WG(a b:AS):zj (En a b)=zj a+zj b:=by
 unfold En;split
 ·next h=>rw[Ew,Bl h.1,Bl h.2.1]
 ·exact Cm _
theorem oZ(x y:Int):Ae (x+y)<=Ae x+Ae y:=by
 rw[Ah,Ah,Ah];omega
theorem Jc(x y:Int):Ae (x*y)=Ae x*Ae y:=by
 rw[Ah,Ah,Ah,Int.natAbs_mul,yz]
theorem bounds{a:AS}(h:A6 a=true):Ae (zj a)<(Ak:Int)^9000:=(words h).2.2.2.2.2
theorem SU{a b:AS}(ha:A6 a=true)(hb:A6 b=true):Dh (En a b)=true:=by
 unfold En;split
 ·next h=>exact KK h.2.2
 ·exact(Nw (ym (oZ _ _) (Lx (AF _) (bounds ha) (bounds hb)).1) (by omega)).1
theorem bR(a b:AS):zj (MW a b)=zj a-zj b:=by
 unfold MW;rw[WG,IE];omega
theorem Dp(a b:AS):zj (E0 a b)=zj a*zj b:=Cm _
theorem WZ:DM zF:=
 Ab T174.ok (Ab T158.ok AP)
namespace T173
theorem ok:Ag Bg 173 J5:=by
 refine B1 Jh (fun(a:Int×List Int) ha=>?_);have ha:Dh a=true:=ha;exact yo (Am a) (zl (z8 rfl rfl (rF ha)))
end T173
namespace T212
theorem ok:Ag Bg 212 pX:=by
 refine B1 WZ (fun(a:Int×List Int) ha=>?_);have ha:Dh a=true:=ha;refine yo (Am a) (zn (fun c=>zg ha (zl (z8 rfl rfl ?_))) (fun c=>zl (z8 rfl rfl ?_)))
 ·show C4 a=UC a;unfold UC;rw[wd (w6 c)]
 ·show a=UC a;unfold UC;rw[wc (w7 c)]
end T212
namespace T217
theorem ok:Ag Bg 217 fY:=by
 refine B1 WZ (fun(i:(Int×List Int)×(Int×List Int)) hi=>?_);obtain⟨a,b⟩:=i;have hi:(A6 a&&A6 b)=true:=hi;rw[zh]at hi;exact yo (Am a b) (zg (BU hi.2).1 (zg (Aa hi.1 (UA hi.2)) (zl (z8 rfl rfl rfl))))
end T217
theorem lW:DM zT:=
 Ab T217.ok (Ab T173.ok AP)
theorem oD(x y:Int):PX (x-y)=BZ x y:=by
 unfold PX BZ;split
 ·rw[wd (by omega)]
 ·split
  ·rw[wc (by omega),wd (by omega)]
  ·rw[wc (by omega),wc (by omega)]
namespace T154
theorem ok:Ag Bg 154 bX:=by
 refine B1 lW (fun(i:(Int×List Int)×(Int×List Int)) hi=>?_);obtain⟨a,b⟩:=i;have hi:(A6 a&&A6 b)=true:=hi;have hi2:=hi;rw[zh]at hi2;have hs:Dh (MW a b)=true:=by
  unfold MW;exact SU hi2.1 (UA hi2.2)
 have hv:HO (MW a b)=YJ a b:=by
  show PX (zj (MW a b))=BZ (zj a) (zj b);rw[bR,oD]
 refine yo (Am a b) (zn (fun c1=>zn (fun c2=>zn (fun d=>zl (z8 rfl rfl ?_)) (fun d=>zn (fun e=>zl (z8 rfl rfl ?_)) (fun e=>zl (z8 rfl rfl ?_)))) (fun c2=>zg hi (zg hs (zl (z8 rfl rfl hv))))) (fun c1=>zg hi (zg hs (zl (z8 rfl rfl hv)))));all_goals
  have e1:=Bl (N7 c1);have e2:=Bl (N7 c2);show _=BZ (zj a) (zj b);rw[e1,e2];unfold BZ
 ·rw[wd (w6 d)]
 ·rw[wc (w7 d),wd (w6 e)]
 ·rw[wc (w7 d),wc (w7 e)]
end T154
theorem R3(x y:Int):x*y=qj (!(decide (x<0)==decide (y<0))) (Ae x*Ae y):=by
 unfold Ae;rw[Dn];by_cases h1:x<0<;>by_cases h2:y<0<;>simp[h1,h2,Int.neg_mul,Int.mul_neg]
namespace T159
theorem ok:Ag Bg 159 QF:=by
 refine B1 SS (fun(i:(Int×List Int)×(Int×List Int)) hi=>?_);obtain⟨a,b⟩:=i;have hi:(A6 a&&A6 b)=true:=hi;rw[zh]at hi;obtain⟨a1,a2,a3,a4,a5,a6⟩:=words hi.1;obtain⟨b1,b2,b3,b4,b5,b6⟩:=words hi.2;have hra:=(DJ a1).1;have hrb:=(DJ b1).1;have na:=AF (zj a);have nb:=AF (zj b);obtain⟨_,t2⟩:=Lx na a6 b6;have np:0<=Ae (zj a)*Ae (zj b):=zx na nb;have n1:B5 (Bs (Ao (Bs (Ae (zj a)))*Ao (Bs (Ae (zj b)))))=true:=by
  rw[a5,b5];exact(CV np t2 (by omega)).1
 have hv:qj (!(decide (zj a<0)==decide (zj b<0))) (Ao (Bs (Ao (Bs (Ae (zj a)))*Ao (Bs (Ae (zj b))))))=zj a*zj b:=by
  rw[a5,b5,show Ao (Bs (Ae (zj a)*Ae (zj b)))=_ from CP (by decide) np, <-R3]
 have hq:∀ob,Ad QF (a,b) (.agg [.dat i64 (Cw (qj (!(decide (zj a<0)==decide (zj b<0))) (Ao (Bs (Ao (Bs (Ae (zj a)))*Ao (Bs (Ae (zj b)))))))),.dat (.nlist (.int .u64)) (Cu (qj (!(decide (zj a<0)==decide (zj b<0))) (Ao (Bs (Ao (Bs (Ae (zj a)))*Ao (Bs (Ae (zj b))))))))]) ob:=fun ob=>z8 rfl rfl (by
  show CO _=CO (zj a*zj b);rw[hv])
 have ua:zu (Ae a.1)=true:=CB (AF _) (by rw[Ah];omega);have ub:zu (Ae b.1)=true:=CB (AF _) (by rw[Ah];omega);refine yo (Am a b) (zn (fun c1=>zn (fun c2=>zg (C3 hra.1 hra.2) (zg (C3 hrb.1 hrb.2) (zg (Aa ua ub) (zn (fun c3=>zn (fun c4=>zn (fun c5=>zl (z8 rfl rfl ?_)) (fun c5=>zl (z8 rfl rfl ?_))) (fun c4=>?_)) (fun c3=>?_))))) (fun c2=>?_)) (fun c1=>?_))
 ·have e1:=Bl (N7 c1);have e2:=Bl (N7 c2);have c3:(Ae a.1*Ae b.1)/18446744073709551616=0:=by simpa [QL]using c3
  have c4:(Ae a.1*Ae b.1) % 18446744073709551616<=9223372036854775807:=w6 c4;have p0:0<=Ae a.1*Ae b.1:=zx (AF _) (AF _);have hm:=R3 a.1 b.1;have c5:(!(decide (a.1<0)==decide (b.1<0)))=true:=c5;rw[c5,Dn,wd rfl]at hm;show(zc .i64 (0-zc .i64 ((Ae a.1*Ae b.1) % 18446744073709551616)),[])=CO (zj a*zj b);rw[e1,e2,hm,BX (by omega),wr ((Ae a.1*Ae b.1) % 18446744073709551616) (by omega) (by omega),wr _ (by omega) (by omega)];congr 1;omega
 ·have e1:=Bl (N7 c1);have e2:=Bl (N7 c2);have c3:(Ae a.1*Ae b.1)/18446744073709551616=0:=by simpa [QL]using c3
  have c4:(Ae a.1*Ae b.1) % 18446744073709551616<=9223372036854775807:=w6 c4;have p0:0<=Ae a.1*Ae b.1:=zx (AF _) (AF _);have hm:=R3 a.1 b.1;have c5:(!(decide (a.1<0)==decide (b.1<0)))=false:=c5;rw[c5,Dn,wc (by decide)]at hm;show(zc .i64 ((Ae a.1*Ae b.1) % 18446744073709551616),[])=CO (zj a*zj b);rw[e1,e2,hm,BX (by omega),wr ((Ae a.1*Ae b.1) % 18446744073709551616) (by omega) (by omega)];congr 1;omega
 all_goals exact zg a1 (zg b1 (zg (Aa a2 b2) (zg n1 (zl (hq _)))))
end T159
end Go.Pe
namespace Go.Sp
def EU(n:Int):Int:=if n<=0 then 0 else(n.toNat.log2:Int)+1
def lz(n:Int):Int:=64-EU n
def dq(h l y:Int):Int:=(h*18446744073709551616+l)/y
def dr(h l y:Int):Int:=(h*18446744073709551616+l) % y
end Go.Sp
namespace Go.Pe
open Go.Det
def VA:Ap:=⟨[u64],fun n=>zu n,[i64],fun n=>Sp.EU n,false⟩
def xP:Ap:=⟨[u64],fun n=>zu n,[i64],fun n=>Sp.lz n,false⟩
def RI:Ap:=⟨[u64,u64,u64],fun i=>zu i.1&&zu i.2.1&&zu i.2.2&&decide ((i.1:Int)<i.2.2),[u64,u64],fun i=>(Sp.dq i.1 i.2.1 i.2.2,Sp.dr i.1 i.2.1 i.2.2),false⟩
def zW:A1:=X7 [(247,VA)]
def fP:A1:=X7 [(272,xP)]
section
open List Int Prod
namespace T247
def T(x:Int):Tr:=tree eR false 9 247 (Af ([zk ze]) x)
theorem Am(x:Int):T x=let a':=([0,1,2,2,3,3,3,3,4,4,4,4,4,4,4,4,5,5,5,5,5,5,5,5,5,5,5,5,5,5,5,5,6,6,6,6,6,6,6,6,6,6,6,6,6,6,6,6,6,6,6,6,6,6,6,6,6,6,6,6,6,6,6,6,7,7,7,7,7,7,7,7,7,7,7,7,7,7,7,7,7,7,7,7,7,7,7,7,7,7,7,7,7,7,7,7,7,7,7,7,7,7,7,7,7,7,7,7,7,7,7,7,7,7,7,7,7,7,7,7,7,7,7,7,7,7,7,7,8,8,8,8,8,8,8,8,8,8,8,8,8,8,8,8,8,8,8,8,8,8,8,8,8,8,8,8,8,8,8,8,8,8,8,8,8,8,8,8,8,8,8,8,8,8,8,8,8,8,8,8,8,8,8,8,8,8,8,8,8,8,8,8,8,8,8,8,8,8,8,8,8,8,8,8,8,8,8,8,8,8,8,8,8,8,8,8,8,8,8,8,8,8,8,8,8,8,8,8,8,8,8,8,8,8,8,8,8,8,8,8,8,8,8,8,8,8,8,8,8,8,8,8,8,8,8,8]:List UInt8);let b':=zq x (2^32);let c':=(0:Sh.T (zk je));let e':=zq x (2^16);let i':=zq x (2^8);let d':=zq b' (2^16);let g':=zq b' (2^8);let h':=zq e' (2^8);let f':=zq d' (2^8);.ite (decide (x>=4294967296)) (.ite true (.ite (decide (zq x (2^32)>=65536)) (.ite true (.ite (decide (zq b' (2^16)>=256)) (.ite true (.ite (decide (c'<=zc .u8 f')&&decide (zc .u8 f'<(↑256:Int))) (.leaf (.dat i64 (zc .i64 (zc .i64 (zc .i64 (32+16)+8)+zc .i64 (↑(yk (getD a' (toNat (zc .u8 f')) (0:UInt8))):Int)))) []) .fail) .fail) (.ite (decide (c'<=zc .u8 d')&&decide (zc .u8 d'<(↑256:Int))) (.leaf (.dat i64 (zc .i64 (zc .i64 (32+16)+zc .i64 (↑(yk (getD a' (toNat (zc .u8 d')) (0:UInt8))):Int)))) []) .fail)) .fail) (.ite (decide (zq x (2^32)>=256)) (.ite true (.ite (decide (c'<=zc .u8 g')&&decide (zc .u8 g'<(↑256:Int))) (.leaf (.dat i64 (zc .i64 (zc .i64 (32+8)+zc .i64 (↑(yk (getD a' (toNat (zc .u8 g')) (0:UInt8))):Int)))) []) .fail) .fail) (.ite (decide (c'<=zc .u8 b')&&decide (zc .u8 b'<(↑256:Int))) (.leaf (.dat i64 (zc .i64 (32+zc .i64 (↑(yk (getD a' (toNat (zc .u8 b')) (0:UInt8))):Int)))) []) .fail))) .fail) (.ite (decide (x>=65536)) (.ite true (.ite (decide (zq x (2^16)>=256)) (.ite true (.ite (decide (c'<=zc .u8 h')&&decide (zc .u8 h'<(↑256:Int))) (.leaf (.dat i64 (zc .i64 (zc .i64 (zc .i64 (0+16)+8)+zc .i64 (↑(yk (getD a' (toNat (zc .u8 h')) (0:UInt8))):Int)))) []) .fail) .fail) (.ite (decide (c'<=zc .u8 e')&&decide (zc .u8 e'<(↑256:Int))) (.leaf (.dat i64 (zc .i64 (zc .i64 (0+16)+zc .i64 (↑(yk (getD a' (toNat (zc .u8 e')) (0:UInt8))):Int)))) []) .fail)) .fail) (.ite (decide (x>=256)) (.ite true (.ite (decide (c'<=zc .u8 i')&&decide (zc .u8 i'<(↑256:Int))) (.leaf (.dat i64 (zc .i64 (zc .i64 (0+8)+zc .i64 (↑(yk (getD a' (toNat (zc .u8 i')) (0:UInt8))):Int)))) []) .fail) .fail) (.ite (decide (c'<=zc .u8 x)&&decide (zc .u8 x<(↑256:Int))) (.leaf (.dat i64 (zc .i64 (0+zc .i64 (↑(yk (getD a' (toNat (zc .u8 x)) (0:UInt8))):Int)))) []) .fail))):=by kernel_rfl
end T247
namespace T272
def T(x:Int):Tr:=tree zW false 9 272 (Af ([zk ze]) x)
theorem Am(x:Int):T x=.ite (zu x) (.leaf (.dat i64 (zc .i64 (64-Sp.EU x))) []) .fail:=by kernel_rfl
end T272
namespace T271
def T(hi lo y:Int):Tr:=tree fP false 9 271 (Af ([zk ze,zk ze,zk ze]) (hi,lo,y))
def L1(v2 v8 v9 v10 v11 v13 v14 v15 v16:Int):Tr:=re ((T 0 0 0).R.R.R.L.L.L.L.L.L.L.L) (AG 135 [(2,.dat (zk ze) v2),(8,.dat (zk ze) v8),(9,.dat (zk ze) v9),(10,.dat (zk ze) v10),(11,.dat (zk ze) v11),(13,.dat (zk ze) v13),(14,.dat (zk ze) v14),(15,.dat (zk ze) v15),(16,.dat (zk ze) v16)] [] 0)
theorem Am(hi lo y:Int):T hi lo y=let e':=decide (0<=zc .u64 (Sp.lz y));let i':=64-zc .u64 (Sp.lz y);let j':=zc .u64 (Sp.lz y);let c':=toNat j';let d':=zq lo (2^qu (toNat (zc .u64 i')) 64);let a':=zc .u64 (y*2^qu c' 64);let f':=zc .u64 (lo*2^qu c' 64);let g':=zc .u64 (hi*2^qu c' 64);let b':=Yy ze g' d';let h':=zq a' (2^32);.ite (y==0) .fail (.ite (decide (y<=hi)) .fail (.ite (hi==0) (.ite (decide (y≠0)) (.ite (decide (y≠0)) (.leaf (.tup [.dat (zk ze) (zc .u64 (y8 lo y)),.dat (zk ze) (Int.tmod lo y)]) []) .fail) .fail) (.ite (zu y) (.ite e' (.ite true (.ite e' (.ite (decide (0<=zc .u64 i')) (.ite e' (.ite true (.ite (decide (zq a' (2^32)≠0)) (L1 a' j' h' (Hc ze a' 4294967295) b' (zq f' (2^32)) (Hc ze f' 4294967295) (zc .u64 (y8 b' h')) (zc .u64 (Yy ze g' d'-zc .u64 (zc .u64 (y8 b' h')*zq a' (2^32))))) .fail) .fail) .fail) .fail) .fail) .fail) .fail) .fail))):=by kernel_rfl
def L2(v2 v8 v9 v10 v14 v15 v16 v17 v18:Int):Tr:=re ((stepT fP (L1 0 0 0 0 0 0 0 0 0)).L.L.L) (AG 135 [(2,.dat (zk ze) v2),(8,.dat (zk ze) v8),(9,.dat (zk ze) v9),(10,.dat (zk ze) v10),(14,.dat (zk ze) v14),(15,.dat (zk ze) v15),(16,.dat (zk ze) v16),(17,.dat (zk ze) v17),(18,.dat (zk ze) v18)] [] 0)
theorem Ar(v2 v8 v9 v10 v11 v13 v14 v15 v16:Int):stepT fP (L1 v2 v8 v9 v10 v11 v13 v14 v15 v16)=let f':=zc .u64 (v11*4294967296)+v13;let g':=zc .u64 (v15-1);let b':=zc .u64 f'-zc .u64 (zc .u64 (v15-1)*v2);let c':=zc .u64 f'-zc .u64 (v15*v2);let d':=zc .u64 c';let e':=zc .u64 b';let a':Tr:=.ite (decide (zc .u64 (v16+v9)>=4294967296)) (.ite (decide (v9≠0)) (L2 v2 v8 v9 v10 v14 g' (zc .u64 (zc .u64 b'-zc .u64 (zc .u64 (y8 e' v9)*v9))) e' (zc .u64 (y8 e' v9))) .fail) (L1 v2 v8 v9 v10 v11 v13 v14 g' (zc .u64 (v16+v9)));.ite (decide (v15>=4294967296)) a' (.ite (decide (zc .u64 (v15*v10)>zc .u64 (zc .u64 (4294967296*v16)+v13))) a' (.ite (decide (v9≠0)) (L2 v2 v8 v9 v10 v14 v15 (zc .u64 (zc .u64 c'-zc .u64 (zc .u64 (y8 d' v9)*v9))) d' (zc .u64 (y8 d' v9))) .fail)):=by kernel_rfl
theorem AZ(v2 v8 v9 v10 v14 v15 v16 v17 v18:Int):stepT fP (L2 v2 v8 v9 v10 v14 v15 v16 v17 v18)=let b':=zk ze;let c':=zc .u64 (v17*4294967296)+v14;let d':=2^qu (toNat v8) 64;let a':Tr:=.ite (decide (zc .u64 (v16+v9)>=4294967296)) (.ite (decide (0<=v8)) (.leaf (.tup [.dat b' (zc .u64 (zc .u64 (v15*4294967296)+zc .u64 (v18-1))),.dat b' (zq (zc .u64 (zc .u64 c'-zc .u64 (zc .u64 (v18-1)*v2))) d')]) []) .fail) (L2 v2 v8 v9 v10 v14 v15 (zc .u64 (v16+v9)) v17 (zc .u64 (v18-1)));.ite (decide (v18>=4294967296)) a' (.ite (decide (zc .u64 (v18*v10)>zc .u64 (zc .u64 (4294967296*v16)+v14))) a' (.ite (decide (0<=v8)) (.leaf (.tup [.dat b' (zc .u64 (zc .u64 (v15*4294967296)+v18)),.dat b' (zq (zc .u64 (zc .u64 c'-zc .u64 (v18*v2))) d')]) []) .fail)):=by kernel_rfl
end T271
end
namespace T271
variable {Q:PV->Ob->Prop}
def Exact(Y u w q:Int):Prop:=q*Y<=u*4294967296+w/\u*4294967296+w<(q+1)*Y
theorem Xj{Y y1 y0 u w q r:Int}(hY:Y=y1*4294967296+y0)(he:q*y1+r=u)(h:q*y0>4294967296*r+w):u*4294967296+w<q*Y:=by
 subst hY;rw[yg, <-zw];generalize q*y1=A at*;generalize q*y0=C at*;omega
theorem KQ{Y y1 y0 u w q r:Int}(hY:Y=y1*4294967296+y0)(he:q*y1+r=u)(h:q*y0<=4294967296*r+w):q*Y<=u*4294967296+w:=by
 subst hY;rw[yg, <-zw];generalize q*y1=A at*;generalize q*y0=C at*;omega
theorem UR{Y u w q:Int}(hu:u<Y)(hY:0<=Y)(hw:w<4294967296)(hq:4294967296<=q):u*4294967296+w<q*Y:=by
 have:=zm hq hY;omega
theorem Uu{y1 y0 u w r:Int}{n:Nat}{Y:Int}(hY:Y=y1*4294967296+y0)(h1:0<=y1)(h0:0<=y0/\y0<4294967296)(hu:u<Y)(hw:0<=w)(he:(n:Int)*y1+r=u)(hr:4294967296<=r):(n:Int)*Y<=u*4294967296+w:=by
 have hn:(n:Int)<4294967296:=by
  rcases ya (n:Int) 4294967296 with h|h
  ·exact h
  ·have:=zm h h1;omega
 refine KQ hY he ?_;have a:=zm (show(n:Int)<=4294967295 by omega) h0.1;omega
theorem Aj(Y s y1 y0 u w z:Int)(hY:Y=y1*4294967296+y0)(h1:0<y1/\y1<4294967296)(h0:0<=y0/\y0<4294967296)(hu:u<Y)(hw:0<=w/\w<4294967296)
  (hx:∀q:Int,0<=q->Exact Y u w q->Ends fP (L2 Y s y1 y0 z q (zc ze (zc ze (zc ze (zc ze (u*(4294967296:Int))+w)-zc ze (q*Y))-zc ze (zc ze (y8 (zc ze (zc ze (zc ze (u*(4294967296:Int))+w)-zc ze (q*Y))) y1)*y1))) (zc ze (zc ze (zc ze (u*(4294967296:Int))+w)-zc ze (q*Y))) (zc ze (y8 (zc ze (zc ze (zc ze (u*(4294967296:Int))+w)-zc ze (q*Y))) y1))) Q):
  ∀(n:Nat) (r:Int),(n:Int)<18446744073709551616->(n:Int)*y1+r=u->0<=r->r<4294967296->u*4294967296+w<((n:Int)+1)*Y->Ends fP (L1 Y s y1 y0 u w z n r) Q:=by
 intro n;induction n with
 |zero=>
  intro r hn he r0 r1 hup;have hz:decide (y1≠0)=true:=w4 (by omega);refine yt (Ar ..) (yq (by simp) (yq (w8 ?_) (zg hz (hx _ (by omega) ⟨?_,hup⟩))))
  ·rw[show((0:Nat):Int)*y0=0 by simp,wu 0 (by omega) (by omega),wu (4294967296*r) (by omega) (by omega),wu _ (by omega) (by omega)];omega
  ·exact KQ hY he (by rw[show((0:Nat):Int)*y0=0 by simp];omega)
 |succ n ih=>
  intro r hn he r0 r1 hup;have hz:decide (y1≠0)=true:=w4 (by omega);have e1:zc .u64 (((n+1:Nat):Int)-1)=(n:Int):=by rw[wu _ (by omega) (by omega)];omega
  have e2:zc .u64 (r+y1)=r+y1:=wu _ (by omega) (by omega);have hY0:0<=Y:=by omega
  have he':(n:Int)*y1+(r+y1)=u:=by
   rw[show((n+1:Nat):Int)=(n:Int)+1 by omega,yb,yr]at he;omega
  have ec:((n+1:Nat):Int)=(n:Int)+1:=by omega
  have dec:u*4294967296+w<((n:Int)+1)*Y->r+y1<4294967296->Ends fP (L1 Y s y1 y0 u w z n (r+y1)) Q:=fun h1' h2'=>
   ih (r+y1) (by omega) he' (by omega) h2' h1'
  have cut:u*4294967296+w<((n:Int)+1)*Y->4294967296<=r+y1->Exact Y u w n:=fun h1' h2'=>
   ⟨Uu hY (by omega) h0 hu hw.1 he' h2',h1'⟩
  refine yt (Ar ..) ?_;conv=>zeta
  rw[e1,e2];refine zn (fun c=>?_) (fun c=>zn (fun d=>?_) (fun d=>?_))
  ·have c:=w6 c;have hb:u*4294967296+w<((n:Int)+1)*Y:=by rw[<-ec];exact UR hu hY0 hw.2 c
   exact zn (fun e=>zg hz (hx _ (by omega) (cut hb (w6 e)))) (fun e=>dec hb (by have:=w7 e;omega))
  ·have c:=w7 c;have d:=w6 d;have a:=zm (show((n+1:Nat):Int)<=4294967295 by omega) h0.1;have b:=zx (show 0<=((n+1:Nat):Int)by omega) h0.1;rw[wu (((n+1:Nat):Int)*y0) (by omega) (by omega),wu (4294967296*r) (by omega) (by omega),wu _ (by omega) (by omega)]at d;have hb:u*4294967296+w<((n:Int)+1)*Y:=by rw[<-ec];exact Xj hY he d
   exact zn (fun e=>zg hz (hx _ (by omega) (cut hb (w6 e)))) (fun e=>dec hb (by have:=w7 e;omega))
  ·have c:=w7 c;have d:=w7 d;have a:=zm (show((n+1:Nat):Int)<=4294967295 by omega) h0.1;have b:=zx (show 0<=((n+1:Nat):Int)by omega) h0.1;rw[wu (((n+1:Nat):Int)*y0) (by omega) (by omega),wu (4294967296*r) (by omega) (by omega),wu _ (by omega) (by omega)]at d;exact zg hz (hx _ (by omega) ⟨KQ hY he (by omega),hup⟩)
theorem AQ(Y s y1 y0 u w p:Int)(hY:Y=y1*4294967296+y0)(h1:0<y1/\y1<4294967296)(h0:0<=y0/\y0<4294967296)(hu:u<Y)(hw:0<=w/\w<4294967296)(hs:0<=s)
  (hx:∀q:Int,0<=q->Exact Y u w q->∀ob,Q (PV.tup [PV.dat (zk ze) (zc ze (zc ze (p*(4294967296:Int))+q)),PV.dat (zk ze) (zq (zc ze (zc ze (zc ze (u*(4294967296:Int))+w)-zc ze (q*Y))) ((2:Int)^qu (jc s) (64:Nat)))]) ob):
  ∀(n:Nat) (r:Int),(n:Int)<18446744073709551616->(n:Int)*y1+r=u->0<=r->r<4294967296->u*4294967296+w<((n:Int)+1)*Y->Ends fP (L2 Y s y1 y0 w p r u n) Q:=by
 intro n;induction n with
 |zero=>
  intro r hn he r0 r1 hup;have hz:decide (0<=s)=true:=w4 hs;refine yt (AZ ..) (yq (by simp) (yq (w8 ?_) (zg hz (zl (hx _ (by omega) ⟨?_,hup⟩ _)))))
  ·rw[show((0:Nat):Int)*y0=0 by simp,wu 0 (by omega) (by omega),wu (4294967296*r) (by omega) (by omega),wu _ (by omega) (by omega)];omega
  ·exact KQ hY he (by rw[show((0:Nat):Int)*y0=0 by simp];omega)
 |succ n ih=>
  intro r hn he r0 r1 hup;have hz:decide (0<=s)=true:=w4 hs;have e1:zc .u64 (((n+1:Nat):Int)-1)=(n:Int):=by rw[wu _ (by omega) (by omega)];omega
  have e2:zc .u64 (r+y1)=r+y1:=wu _ (by omega) (by omega);have hY0:0<=Y:=by omega
  have he':(n:Int)*y1+(r+y1)=u:=by
   rw[show((n+1:Nat):Int)=(n:Int)+1 by omega,yb,yr]at he;omega
  have ec:((n+1:Nat):Int)=(n:Int)+1:=by omega
  have dec:u*4294967296+w<((n:Int)+1)*Y->r+y1<4294967296->Ends fP (L2 Y s y1 y0 w p (r+y1) u n) Q:=fun h1' h2'=>
   ih (r+y1) (by omega) he' (by omega) h2' h1'
  have cut:u*4294967296+w<((n:Int)+1)*Y->4294967296<=r+y1->Exact Y u w n:=fun h1' h2'=>
   ⟨Uu hY (by omega) h0 hu hw.1 he' h2',h1'⟩
  refine yt (AZ ..) ?_;conv=>zeta
  rw[e1,e2];refine zn (fun c=>?_) (fun c=>zn (fun d=>?_) (fun d=>?_))
  ·have c:=w6 c;have hb:u*4294967296+w<((n:Int)+1)*Y:=by rw[<-ec];exact UR hu hY0 hw.2 c
   exact zn (fun e=>zg hz (zl (hx _ (by omega) (cut hb (w6 e)) _))) (fun e=>dec hb (by have:=w7 e;omega))
  ·have c:=w7 c;have d:=w6 d;have a:=zm (show((n+1:Nat):Int)<=4294967295 by omega) h0.1;have b:=zx (show 0<=((n+1:Nat):Int)by omega) h0.1;rw[wu (((n+1:Nat):Int)*y0) (by omega) (by omega),wu (4294967296*r) (by omega) (by omega),wu _ (by omega) (by omega)]at d;have hb:u*4294967296+w<((n:Int)+1)*Y:=by rw[<-ec];exact Xj hY he d
   exact zn (fun e=>zg hz (zl (hx _ (by omega) (cut hb (w6 e)) _))) (fun e=>dec hb (by have:=w7 e;omega))
  ·have c:=w7 c;have d:=w7 d;have a:=zm (show((n+1:Nat):Int)<=4294967295 by omega) h0.1;have b:=zx (show 0<=((n+1:Nat):Int)by omega) h0.1;rw[wu (((n+1:Nat):Int)*y0) (by omega) (by omega),wu (4294967296*r) (by omega) (by omega),wu _ (by omega) (by omega)]at d;exact zg hz (zl (hx _ (by omega) ⟨KQ hY he (by omega),hup⟩ _))
end T271
theorem TX{y:Int}(h1:0<y)(h2:y<18446744073709551616):∃s:Nat,Sp.lz y=(s:Int)/\s<=63/\y*2^s<18446744073709551616/\9223372036854775808<=y*2^s:=by
 obtain⟨n,rfl⟩:=zt (yp h1);have hn:n≠0:=by omega
 have hk:n.log2<64:=(Nat.log2_lt hn).2 (by omega);have a:=Nat.log2_self_le hn;have b:=Nat.lt_log2_self (n:=n);have e1:2^n.log2*2^(63-n.log2)=2^63:=by rw[<-q9];congr 1;omega
 have e2:2^(n.log2+1)*2^(63-n.log2)=2^64:=by rw[<-q9];congr 1;omega
 have c1:2^63<=n*2^(63-n.log2):=by rw[<-e1];exact Nat.mul_le_mul_right _ a
 have c2:n*2^(63-n.log2)<2^64:=by rw[<-e2];exact Nat.mul_lt_mul_of_pos_right b (qx _)
 refine⟨63-n.log2,?_,by omega,?_,?_⟩
 ·unfold Sp.lz Sp.EU;rw[wc (by omega),zo];omega
 ·have:((n*2^(63-n.log2):Nat):Int)<18446744073709551616:=by omega
  rw[yz,yu]at this;exact this
 ·have:(9223372036854775808:Int)<=((n*2^(63-n.log2):Nat):Int):=by omega
  rw[yz,yu]at this;exact this
theorem XL{a b:Int}{s:Nat}(ha:0<=a)(hb:0<=b)(h:b<2^s)(hm:a*2^s+b<18446744073709551616):Yy .u64 (a*2^s) b=a*2^s+b:=by
 obtain⟨m,rfl⟩:=zt ha;obtain⟨k,rfl⟩:=zt hb;have ep:((m:Int)*2^s)=((m*2^s:Nat):Int):=by rw[yz,yu];rfl
 have hk:k<2^s:=by
  have e:((2:Int)^s)=((2^s:Nat):Int):=by rw[yu];rfl
  rw[e]at h;omega
 rw[ep]at hm ⊢;have e:(yi 64 ((m*2^s:Nat):Int)|||yi 64 (k:Int)).toNat=m*2^s+k:=by
  rw[BitVec.toNat_or,qd,qd,qh,qh,qo (by omega),qo (by omega),Nat.mul_comm m,Nat.two_pow_add_eq_or_of_lt hk]
 show zc .u64 (((yi 64 ((m*2^s:Nat):Int)|||yi 64 (k:Int)).toNat:Nat):Int)=_;rw[e,eE _ (by omega)];omega
namespace T271
theorem start{u y1 y0 Y w:Int}(hY:Y=y1*4294967296+y0)(h1:0<y1/\y1<4294967296)(h0:0<=y0)(hu:0<=u/\u<18446744073709551616)(hw:w<4294967296):
  ∃(n:Nat) (r:Int),zc .u64 (y8 u y1)=(n:Int)/\zc .u64 (u-zc .u64 ((n:Int)*y1))=r/\(n:Int)<18446744073709551616/\(n:Int)*y1+r=u/\0<=r/\r<4294967296/\u*4294967296+w<((n:Int)+1)*Y:=by
 have q0:0<=u/y1:=qy hu.1 (by omega);have q1:u/y1<=u:=Int.ediv_le_self _ hu.1;have ed:=Int.mul_ediv_add_emod u y1;have r0:=Int.emod_nonneg u (show y1≠0 by omega);have r1:=Int.emod_lt_of_pos u h1.1;rw[ye]at ed;obtain⟨n,hn⟩:=zt q0;have hp:0<=(n:Int)*y1:=zx (by omega) (by omega);rw[hn]at ed;refine⟨n,u % y1,?_,?_,by omega,ed,r0,by omega,?_⟩
 ·rw[ql hu.1,hn,wu _ (by omega) (by omega)]
 ·rw[wu ((n:Int)*y1) (by omega) (by omega),wu _ (by omega) (by omega)];omega
 ·subst hY;have a:((n:Int)+1)*(y1*4294967296+y0)=((n:Int)*y1+y1)*4294967296+((n:Int)+1)*y0:=by
   rw[yg, <-zw,yb,yr]
  have b:0<=((n:Int)+1)*y0:=zx (by omega) h0;rw[a];omega
theorem QX{u w q Y:Int}(hE:Exact Y u w q)(hY:Y<18446744073709551616):zc .u64 (zc .u64 (zc .u64 (u*(4294967296:Int))+w)-zc .u64 (q*Y))=u*4294967296+w-q*Y:=by
 obtain⟨a,b⟩:=hE;rw[yb,yr]at b;rw[K0,K0,K0,K0];generalize q*Y=A at*;omega
theorem lD(h:Ag Bg 272 xP):DM fP:=Ab h AP
set_option maxHeartbeats 1000000 in
theorem ok(hlz:Ag Bg 272 xP):Ag Bg 271 RI:=by
 refine MK (X:=fP) rfl (lD hlz) (d:=9) (by kernel_rfl) (by kernel_rfl) (by kernel_rfl) (fun(i:Int×Int×Int) hi=>?_) (BA (by kernel_rfl));obtain⟨hi',lo,y⟩:=i;have hi:(zu hi'&&zu lo&&zu y&&decide (hi'<y))=true:=hi;rw[zh,zh,zh,w5]at hi;obtain⟨⟨⟨h1,h2⟩,h3⟩,h4⟩:=hi;have uy:=h3;have h1:=Sp.A0 h1;have h2:=Sp.A0 h2;have h3:=Sp.A0 h3;have hg:∀q r ob,q=Sp.dq hi' lo y->r=Sp.dr hi' lo y->Ad RI (hi',lo,y) (PV.tup [PV.dat (zk ze) q,PV.dat (zk ze) r]) ob:=fun q r ob e1 e2=>z8 rfl rfl (Prod.ext e1 e2)
 refine yo (Am hi' lo y) (yq (by simp;omega) (yq (w8 (by omega)) (zn (fun c=>?_) (fun c=>?_))))
 ·have c:hi'=0:=by simpa using c
  subst c;have q0:0<=lo/y:=qy h2.1 (by omega);have q1:lo/y<=lo:=Int.ediv_le_self _ h2.1;refine zg (w4 (by omega)) (zg (w4 (by omega)) (zl (hg _ _ _ ?_ ?_)))
  ·unfold Sp.dq;rw[ql h2.1,wu _ (by omega) (by omega),Int.zero_mul,qv]
  ·unfold Sp.dr;rw[Int.tmod_eq_emod_of_nonneg h2.1,Int.zero_mul,qv]
 ·have c:hi'≠0:=by simpa using c
  obtain⟨s,hs,hs63,hlt,hge⟩:=TX (y:=y) (by omega) h3.2;have es:zc .u64 (s:Int)=(s:Int):=eE s (by omega);have em:qu s 64=s:=by omega
  have es2:zc .u64 ((64:Int)-(s:Int))=((64-s:Nat):Int):=by rw[wu _ (by omega) (by omega)];omega
  have em2:qu (64-s) 64=64-s:=by omega
  have hPR:(2:Int)^s*2^(64-s)=18446744073709551616:=by rw[<-Int.pow_add,show s+(64-s)=64 by omega];rfl
  have hP:(0:Int)<2^s:=Int.pow_pos (by decide);have hR:(0:Int)<2^(64-s):=Int.pow_pos (by decide);have a0:0<=lo/2^(64-s):=qy h2.1 (by omega);have led:=Int.mul_ediv_add_emod lo (2^(64-s));have c0:=Int.emod_nonneg lo (show(2:Int)^(64-s)≠0 by omega);have c1:=Int.emod_lt_of_pos lo hR;have aP:lo/2^(64-s)<2^s:=Int.ediv_lt_of_lt_mul hR (by rw[hPR];exact h2.2);have hiP:hi'*2^s+2^s<=y*2^s:=by
   have:=zm (show hi'+1<=y by omega) (yp hP);rw[yb,yr]at this;exact this
  have hi0:0<=hi'*2^s:=zx h1.1 (yp hP);have efd:zq lo ((2:Int)^(64-s))=lo/2^(64-s):=yn _ (by omega);have eio:Yy .u64 (hi'*2^s) (lo/2^(64-s))=hi'*2^s+lo/2^(64-s):=XL h1.1 a0 aP (by omega);have cP0:0<=(lo % 2^(64-s))*2^s:=zx c0 (yp hP);have cP1:(lo % 2^(64-s))*2^s<18446744073709551616:=by
   have:=Int.mul_lt_mul_of_pos_right c1 hP;rw[ye (2^(64-s)),hPR]at this;exact this
  have loP:lo*2^s=(lo/2^(64-s))*18446744073709551616+(lo % 2^(64-s))*2^s:=by
   conv=>lhs;rw[<-led]
   rw[yb, <-hPR,ye (2^(64-s)) (lo/2^(64-s)),zw,ye (2^(64-s)) (2^s)]
  have elo:zc .u64 (lo*2^s)=(lo % 2^(64-s))*2^s:=by rw[loP,K0];omega
  have hN:(hi'*2^s+lo/2^(64-s))*18446744073709551616+(lo % 2^(64-s))*2^s=(hi'*18446744073709551616+lo)*2^s:=by
   rw[yb (hi'*18446744073709551616) lo (2^s),loP,zw hi' 18446744073709551616 (2^s),ye 18446744073709551616 ((2:Int)^s), <-zw];omega
  have ewy:zc .u64 (y*2^s)=y*2^s:=wu _ (by omega) (by omega);have ewh:zc .u64 (hi'*2^s)=hi'*2^s:=wu _ hi0 (by omega);have z0:decide ((0:Int)<=(s:Int))=true:=w4 (by omega);have fin:∀q:Int,q*(y*2^s)<=(hi'*18446744073709551616+lo)*2^s->(hi'*18446744073709551616+lo)*2^s<(q+1)*(y*2^s)->q=Sp.dq hi' lo y/\zq ((hi'*18446744073709551616+lo)*2^s-q*(y*2^s)) (2^s)=Sp.dr hi' lo y:=by
   intro q f1 f2;unfold Sp.dq Sp.dr;generalize hi'*18446744073709551616+lo=M at*;rw[<-zw]at f1 f2;have g1:q*y<=M:=Int.le_of_mul_le_mul_right f1 hP;have g2:M<(q+1)*y:=Int.lt_of_mul_lt_mul_right f2 (yp hP);rw[yb,yr]at g2;obtain⟨u1,u2⟩:=(Int.ediv_emod_unique (a:=M) (b:=y) (r:=M-q*y) (q:=q) (by omega)).2 ⟨by rw[ye y q];omega,by omega,by omega⟩;refine⟨u1.symm,?_⟩;rw[u2, <-zw, <-Int.sub_mul,yn _ (yp hP)];exact Int.mul_ediv_cancel _ (by omega)
  obtain⟨Y,eY⟩:=zt (show 0<=y*2^s by omega);obtain⟨C,eC⟩:=zt cP0;have hU0:0<=hi'*2^s+lo/2^(64-s):=by omega
  have hUY:hi'*2^s+lo/2^(64-s)<y*2^s:=by omega
  rw[hs,es,es2,zo,zo,em,em2,ewy,ewh,efd,eio,elo];rw[eC]at hN cP1 ⊢;rw[eY]at hlt hge hUY fin ⊢;generalize hU:hi'*2^s+lo/2^(64-s)=U at*;generalize hM:(hi'*18446744073709551616+lo)*2^s=M at*;rw[ZG,ZG,NK Y (by omega),NK C (by omega)];have hY:(Y:Int)=((Y/4294967296:Nat):Int)*4294967296+((Y % 4294967296:Nat):Int):=by omega
  have b1:0<((Y/4294967296:Nat):Int)/\((Y/4294967296:Nat):Int)<4294967296:=by omega
  have b0:0<=((Y % 4294967296:Nat):Int)/\((Y % 4294967296:Nat):Int)<4294967296:=by omega
  have w1:0<=((C/4294967296:Nat):Int)/\((C/4294967296:Nat):Int)<4294967296:=by omega
  have w0:0<=((C % 4294967296:Nat):Int)/\((C % 4294967296:Nat):Int)<4294967296:=by omega
  have hC:(C:Int)=((C/4294967296:Nat):Int)*4294967296+((C % 4294967296:Nat):Int):=by omega
  generalize ((Y/4294967296:Nat):Int)=y1 at*;generalize ((Y % 4294967296:Nat):Int)=y0 at*;generalize ((C/4294967296:Nat):Int)=w at*;generalize ((C % 4294967296:Nat):Int)=z at*;refine zg uy (zg z0 (zg rfl (zg z0 (zg (w4 (by omega)) (zg z0 (zg rfl (zg (w4 (by omega)) ?_)))))));obtain⟨n,r,e1,e2,n1,n2,n3,n4,n5⟩:=start (u:=U) (w:=w) hY b1 b0.1 (by omega) w1.2;rw[e1,e2];refine Aj (Y:Int) s y1 y0 U w z hY b1 b0 hUY w1 (fun p p0 hp=>?_) n r n1 n2 n3 n4 n5;have er:=QX hp (by omega);rw[er];have hp1:=hp.1;have hp2:=hp.2;rw[yb,yr]at hp2;obtain⟨m,t,k1,k2,m1,m2,m3,m4,m5⟩:=start (u:=U*4294967296+w-p*Y) (w:=z) hY b1 b0.1 (by omega) w0.2;rw[k1,k2];refine AQ (Y:Int) s y1 y0 _ z p hY b1 b0 (by omega) w0 (by omega) (fun q q0 hq ob=>?_) m t m1 m2 m3 m4 m5;rw[QX hq (by omega),zo,em];obtain⟨hq1,hq2⟩:=hq;have ez:(p*4294967296+q)*(Y:Int)=p*Y*4294967296+q*Y:=by
   rw[yb,zw,ye 4294967296 (Y:Int), <-zw]
  have ez1:(p*4294967296+q+1)*(Y:Int)=p*Y*4294967296+q*Y+Y:=by
   rw[yb,ez,yr]
  rw[yb,yr]at hq2;obtain⟨f1,f2⟩:=fin (p*4294967296+q) (by rw[ez];omega) (by rw[ez1];omega);refine hg _ _ _ ?_ ?_
  ·have hb:Sp.dq hi' lo y<18446744073709551616:=by
    unfold Sp.dq;refine Int.ediv_lt_of_lt_mul (by omega) ?_;have:=yh (show hi'+1<=y by omega) (show(0:Int)<=18446744073709551616 by decide);omega
   rw[<-f1]at hb ⊢;rw[K0,K0];omega
  ·rw[<-f2,ez];congr 1;omega
end T271
open Sp
theorem gF(x k:Nat)(h:2^k<=x):x.log2=k+(x/2^k).log2:=by
 have hk:=qx k;have hz:x/2^k≠0:=by
  have:=Nat.div_pos h hk;omega
 have hx:x≠0:=by omega
 refine(Nat.log2_eq_iff hx).2 ⟨?_,?_⟩
 ·rw[q9];exact Nat.le_trans (Nat.mul_le_mul_left _ (Nat.log2_self_le hz)) (Nat.mul_div_le x (2^k))
 ·rw[Nat.add_assoc,q9];have a:x/2^k+1<=2^((x/2^k).log2+1):=Nat.lt_log2_self;have b:=Nat.mul_le_mul_left (2^k) a;have c:=Nat.lt_mul_div_succ x hk;exact Nat.lt_of_lt_of_le c b
theorem Oh(x k:Nat)(h:2^k<=x):EU (x:Int)=(k:Int)+EU ((x/2^k:Nat):Int):=by
 have hk:=qx k;have hz:=Nat.div_pos h hk;have e:=gF x k h;unfold EU;rw[wc (by omega),wc (by omega),zo,zo,e];omega
theorem sI(n k:Nat):zq (n:Int) ((2:Int)^k)=((n/2^k:Nat):Int):=by
 have:(0:Int)<2^k:=Int.pow_pos (by decide);rw[yn _ (by omega),Int.natCast_ediv,yu];rfl
def tB:List UInt8:=[(0:UInt8),(1:UInt8),(2:UInt8),(2:UInt8),(3:UInt8),(3:UInt8),(3:UInt8),(3:UInt8),(4:UInt8),(4:UInt8),(4:UInt8),(4:UInt8),(4:UInt8),(4:UInt8),(4:UInt8),(4:UInt8),(5:UInt8),(5:UInt8),(5:UInt8),(5:UInt8),(5:UInt8),(5:UInt8),(5:UInt8),(5:UInt8),(5:UInt8),(5:UInt8),(5:UInt8),(5:UInt8),(5:UInt8),(5:UInt8),(5:UInt8),(5:UInt8),(6:UInt8),(6:UInt8),(6:UInt8),(6:UInt8),(6:UInt8),(6:UInt8),(6:UInt8),(6:UInt8),(6:UInt8),(6:UInt8),(6:UInt8),(6:UInt8),(6:UInt8),(6:UInt8),(6:UInt8),(6:UInt8),(6:UInt8),(6:UInt8),(6:UInt8),(6:UInt8),(6:UInt8),(6:UInt8),(6:UInt8),(6:UInt8),(6:UInt8),(6:UInt8),(6:UInt8),(6:UInt8),(6:UInt8),(6:UInt8),(6:UInt8),(6:UInt8),(7:UInt8),(7:UInt8),(7:UInt8),(7:UInt8),(7:UInt8),(7:UInt8),(7:UInt8),(7:UInt8),(7:UInt8),(7:UInt8),(7:UInt8),(7:UInt8),(7:UInt8),(7:UInt8),(7:UInt8),(7:UInt8),(7:UInt8),(7:UInt8),(7:UInt8),(7:UInt8),(7:UInt8),(7:UInt8),(7:UInt8),(7:UInt8),(7:UInt8),(7:UInt8),(7:UInt8),(7:UInt8),(7:UInt8),(7:UInt8),(7:UInt8),(7:UInt8),(7:UInt8),(7:UInt8),(7:UInt8),(7:UInt8),(7:UInt8),(7:UInt8),(7:UInt8),(7:UInt8),(7:UInt8),(7:UInt8),(7:UInt8),(7:UInt8),(7:UInt8),(7:UInt8),(7:UInt8),(7:UInt8),(7:UInt8),(7:UInt8),(7:UInt8),(7:UInt8),(7:UInt8),(7:UInt8),(7:UInt8),(7:UInt8),(7:UInt8),(7:UInt8),(7:UInt8),(7:UInt8),(7:UInt8),(7:UInt8),(7:UInt8),(7:UInt8),(8:UInt8),(8:UInt8),(8:UInt8),(8:UInt8),(8:UInt8),(8:UInt8),(8:UInt8),(8:UInt8),(8:UInt8),(8:UInt8),(8:UInt8),(8:UInt8),(8:UInt8),(8:UInt8),(8:UInt8),(8:UInt8),(8:UInt8),(8:UInt8),(8:UInt8),(8:UInt8),(8:UInt8),(8:UInt8),(8:UInt8),(8:UInt8),(8:UInt8),(8:UInt8),(8:UInt8),(8:UInt8),(8:UInt8),(8:UInt8),(8:UInt8),(8:UInt8),(8:UInt8),(8:UInt8),(8:UInt8),(8:UInt8),(8:UInt8),(8:UInt8),(8:UInt8),(8:UInt8),(8:UInt8),(8:UInt8),(8:UInt8),(8:UInt8),(8:UInt8),(8:UInt8),(8:UInt8),(8:UInt8),(8:UInt8),(8:UInt8),(8:UInt8),(8:UInt8),(8:UInt8),(8:UInt8),(8:UInt8),(8:UInt8),(8:UInt8),(8:UInt8),(8:UInt8),(8:UInt8),(8:UInt8),(8:UInt8),(8:UInt8),(8:UInt8),(8:UInt8),(8:UInt8),(8:UInt8),(8:UInt8),(8:UInt8),(8:UInt8),(8:UInt8),(8:UInt8),(8:UInt8),(8:UInt8),(8:UInt8),(8:UInt8),(8:UInt8),(8:UInt8),(8:UInt8),(8:UInt8),(8:UInt8),(8:UInt8),(8:UInt8),(8:UInt8),(8:UInt8),(8:UInt8),(8:UInt8),(8:UInt8),(8:UInt8),(8:UInt8),(8:UInt8),(8:UInt8),(8:UInt8),(8:UInt8),(8:UInt8),(8:UInt8),(8:UInt8),(8:UInt8),(8:UInt8),(8:UInt8),(8:UInt8),(8:UInt8),(8:UInt8),(8:UInt8),(8:UInt8),(8:UInt8),(8:UInt8),(8:UInt8),(8:UInt8),(8:UInt8),(8:UInt8),(8:UInt8),(8:UInt8),(8:UInt8),(8:UInt8),(8:UInt8),(8:UInt8),(8:UInt8),(8:UInt8),(8:UInt8),(8:UInt8),(8:UInt8),(8:UInt8),(8:UInt8),(8:UInt8),(8:UInt8),(8:UInt8),(8:UInt8)]
theorem Xr:∀m:Fin 256,((yk (tB.getD m.val 0):Nat):Int)=EU (m.val:Int)/\zc .u8 (m.val:Int)=(m.val:Int)/\EU (m.val:Int)<=8/\0<=EU (m.val:Int):=by decide+kernel
theorem Mq{ACC:Int}(a z x:Nat)(hA:ACC=a)(ha:a<=64)(hz:z<256)(hx:EU (x:Int)=(a:Int)+EU (z:Int)):zc .i64 (ACC+zc .i64 ((yk (tB.getD (jc (zc .u8 (z:Int))) 0):Nat):Int))=EU x:=by
 obtain⟨e1,e2,e3,e4⟩:=Xr ⟨z,hz⟩;have e1:((yk (tB.getD z 0):Nat):Int)=EU (z:Int):=e1;have e2:zc .u8 (z:Int)=(z:Int):=e2;have e3:EU (z:Int)<=8:=e3;have e4:0<=EU (z:Int):=e4;rw[e2,zo,e1,hA,hx,wr (EU (z:Int)) (by omega) (by omega),wr _ (by omega) (by omega)]
theorem qE(z:Nat)(hz:z<256):(decide ((0:Sh.T (zk je))<=zc je (z:Int))&&decide (zc je (z:Int)<(↑(256:Nat):Int)))=true:=by
 obtain⟨_,e2,_,_⟩:=Xr ⟨z,hz⟩;have e2:zc .u8 (z:Int)=(z:Int):=e2;rw[e2];exact Aa (w4 (show(0:Int)<=(z:Int)by omega)) (w4 (by omega))
namespace T247
set_option maxHeartbeats 1000000 in
set_option maxRecDepth 100000 in
theorem ok:Ag Bg 247 VA:=by
 refine B1 Jh (fun(x:Int) hx=>?_);have hx:=Sp.A0 (n:=x) hx;obtain⟨x,rfl⟩:=zt hx.1;refine yo (Am (x:Int)) ?_;conv=>zeta
 conv=>zeta
 rw[sI x 32,sI x 16,sI x 8,sI (x/2^32) 16,sI (x/2^32) 8,sI (x/2^32/2^16) 8,sI (x/2^16) 8];have l32:=Oh x 32;have l16:=Oh x 16;have l8:=Oh x 8;have l3216:=Oh (x/2^32) 16;have l328:=Oh (x/2^32) 8;have l32168:=Oh (x/2^32/2^16) 8;have l168:=Oh (x/2^16) 8;refine zn (fun c1=>zg rfl (zn (fun c2=>zg rfl (zn (fun c3=>zg rfl (zg (qE _ ?_) (zl (z8 rfl rfl (Mq 56 _ x (by decide+kernel) (by decide) ?_ ?_))))) (fun c3=>zg (qE _ ?_) (zl (z8 rfl rfl (Mq 48 _ x (by decide+kernel) (by decide) ?_ ?_)))))) (fun c2=>zn (fun c3=>zg rfl (zg (qE _ ?_) (zl (z8 rfl rfl (Mq 40 _ x (by decide+kernel) (by decide) ?_ ?_))))) (fun c3=>zg (qE _ ?_) (zl (z8 rfl rfl (Mq 32 _ x rfl (by decide) ?_ ?_))))))) (fun c1=>zn (fun c2=>zg rfl (zn (fun c3=>zg rfl (zg (qE _ ?_) (zl (z8 rfl rfl (Mq 24 _ x (by decide+kernel) (by decide) ?_ ?_))))) (fun c3=>zg (qE _ ?_) (zl (z8 rfl rfl (Mq 16 _ x (by decide+kernel) (by decide) ?_ ?_)))))) (fun c2=>zn (fun c3=>zg rfl (zg (qE _ ?_) (zl (z8 rfl rfl (Mq 8 _ x (by decide+kernel) (by decide) ?_ ?_))))) (fun c3=>zg (qE _ ?_) (zl (z8 rfl rfl (Mq 0 _ x rfl (by decide) ?_ ?_))))));all_goals
  first
   |replace c1:=w6 c1
   |replace c1:=w7 c1
  first
   |replace c2:=w6 c2
   |replace c2:=w7 c2
  first
   |replace c3:=w6 c3
   |replace c3:=w7 c3
  omega
end T247
theorem nU:DM zW:=Ab T247.ok AP
theorem RP{n:Int}(h1:0<=n)(h2:n<18446744073709551616):0<=Sp.EU n/\Sp.EU n<=64:=by
 unfold Sp.EU;split
 ·omega
 ·have:n.toNat.log2<64:=(Nat.log2_lt (by omega)).2 (by omega);omega
namespace T272
theorem ok:Ag Bg 272 xP:=by
 refine B1 nU (fun(x:Int) hx=>?_);have h:=Sp.A0 (n:=x) hx;have hl:=RP h.1 h.2;refine yo (Am x) (zg hx (zl (z8 rfl rfl ?_)));show zc .i64 (64-Sp.EU x)=Sp.lz x;unfold Sp.lz;exact wr _ (by omega) (by omega)
end T272
theorem cY:Ag Bg 271 RI:=T271.ok T272.ok
end Go.Pe
namespace Go.Sp
def RW(a b:List Int):Bool:=B5 a&&B5 b&&decide (a.length<=9000)&&decide (b.length<=9000)&&decide (0<Ao b)
end Go.Sp
namespace Go.Pe
open Sp
open Go.Det
def Gk:Ap:=⟨[Dc,Dc],fun i=>RW i.1 i.2,[Dc,Dc],fun i=>(Bs (Ao i.1/Ao i.2),Bs (Ao i.1 % Ao i.2)),false⟩
def Jq:A1:=X7 [(221,Xu),(269,VV),(223,Q7),(268,VL),(270,V5),(271,RI),(272,xP)]
end Go.Pe
namespace Go.Sp
def HH(c:UInt8):Int:=(c.toNat:Int)-48
def BL(c:UInt8):Bool:=decide (48<=c.toNat)&&decide (c.toNat<=57)
def AB(n:Int):List UInt8->Int
 |[]=>n
 |c::r=>AB (10*n+HH c) r
def Al(s:List UInt8):Bool:=s.all BL
theorem CL:∀(n:Int) (a b:List UInt8),AB n (a++b)=AB (AB n a) b
 |_,[],_=>rfl
 |n,c::a,b=>by rw[qp,AB,AB,CL]
theorem Ey:∀(s:List UInt8) (n:Int),AB n s=n*10^s.length+AB 0 s
 |[],n=>by simp[AB]
 |c::s,n=>by
  rw[AB,AB,Ey s (10*n+HH c),Ey s (10*0+HH c),List.length_cons,qg,yb,qt,qv,ye 10 n,zw,ye 10 (10^s.length),qn]
theorem CU{c:UInt8}(h:BL c=true):0<=HH c/\HH c<=9:=by
 unfold BL at h;rw[zh,w5,w5]at h;unfold HH;omega
theorem Be:∀ {s:List UInt8},Al s=true->0<=AB 0 s/\AB 0 s<10^s.length
 |[],_=>by simp[AB]
 |c::s,h=>by
  unfold Al at h;rw[List.all_cons,zh]at h;have a:=CU h.1;have b:=Be (s:=s) h.2;have hp:=AN (show(0:Int)<10 by decide) s.length;have c1:=zx a.1 (yp hp);have c2:=zm a.2 (yp hp);rw[AB,Ey,List.length_cons,qg,qt,qv,ye (10^s.length) 10];omega
theorem Bf{s:List UInt8}(h:Al s=true)(i:Nat):Al (s.take i)=true:=by
 unfold Al at h ⊢;rw[qc]at h ⊢;exact fun x hx=>h x (List.mem_of_mem_take hx)
theorem BO{s:List UInt8}(h:Al s=true)(i:Nat):Al (s.drop i)=true:=by
 unfold Al at h ⊢;rw[qc]at h ⊢;exact fun x hx=>h x (List.mem_of_mem_drop hx)
def AT(s:List UInt8):Bool:=decide (s≠[])&&Al s&&(decide (s.getD 0 0≠48)||decide (s=[48]))
def F6(a b:AS):AS:=if vI a<0/\Ae (vI a) % vI b≠0 then MW (CO (-(Ae (vI a)/vI b))) (1,[])else CO (sg (decide (vI a<0)) (Ae (vI a)/vI b))
def Yw(a b:AS):Int:=(F6 a b).1
def Xd(a b:AS):List Int:=(F6 a b).2
def Tq(a b:AS):Int:=Cw (vI a % vI b)
def UB(a b:AS):List Int:=Cu (vI a % vI b)
def gI(a b:Int):Int:=if a<0 then -(-(Int.gcd a b:Int))else(Int.gcd a b:Int)
theorem FQ(a b:Int):gI a b=(Int.gcd a b:Int):=by unfold gI;split<;>omega
def MO(a b:AS):Int:=Cw (gI (vI a) (vI b))
def Mt(a b:AS):List Int:=Cu (gI (vI a) (vI b))
def pI(a k:Int):Int:=if k<0 then -(-(a^k.toNat))else a^k.toNat
theorem Rw(a k:Int):pI a k=a^k.toNat:=by unfold pI;split<;>omega
def hZ(a k:Int):Bool:=decide (0<=k)&&decide (k<=100000)&&decide (Ae (pI a k)<(18446744073709551616:Int)^(4000:Nat))
def S4(a:AS)(k:Int):Int:=Cw (pI (vI a) k)
def UL(a:AS)(k:Int):List Int:=Cu (pI (vI a) k)
def Cv(n:Int):List Int:=if n<0 then[]else[]
theorem Ej(n:Int):Cv n=[]:=by unfold Cv;split<;>rfl
def Cc(s:List UInt8):Int:=if s.getD 0 0=45 then -AB 0 (s.drop 1)else AB 0 s
def D7(s:List UInt8):Bool:=decide (s.length<=5999)&&(if s.getD 0 0=45 then Al (s.drop 1)else Al s)
def Dd(s:List UInt8):Int:=Cw (Cc s)
def C5(s:List UInt8):List Int:=Cu (Cc s)
end Go.Sp
namespace Go.Pe
open Sp
open Go.Det
def G5:Ap:=⟨[BF,BF],fun i=>A6 i.1&&A6 i.2&&decide (0<zj i.2),[BF,BF],fun i=>((Yw i.1 i.2,Xd i.1 i.2),(Tq i.1 i.2,UB i.1 i.2)),false⟩
def Yf:Ap:=⟨[BF,BF],fun i=>A6 i.1&&A6 i.2,[BF],fun i=>(MO i.1 i.2,Mt i.1 i.2),false⟩
def hO:Ap:=⟨[BF,i64],fun i=>A6 i.1&&hZ (zj i.1) i.2,[BF],fun i=>(S4 i.1 i.2,UL i.1 i.2),false⟩
def OG:Ap:=⟨[.str],fun s=>D7 s,[BF],fun s=>(Dd s,C5 s),false⟩
def UY:Ap:=⟨[i64],fun _=>true,[BF],fun n=>(n,Cv n),false⟩
def vE:A1:=Z3 [(176,[9,10])] [] [(176,[(9,[3,4,5,8,12,13]),(10,[3,4,5,14,15])])] [(105,UY),(230,Gk),(218,O9),(219,aS),(217,fY),(158,OW),(173,J5)]
def XF0:A1:=X7 []
def xO:A1:=X7 [(176,G5),(212,pX),(173,J5)]
def vC:A1:=X7 [(105,UY),(159,QF)]
end Go.Pe
namespace Go.Sp
abbrev B9:Nat:=1000000000
def JH(l:List Int):Bool:=decide (l.length<=20000)&&l.all fun d=>decide (0<=d)&&decide (d<1000000000)
def hR(l:List Int):Bool:=JH l&&decide (l.length<=9000)
def A4(l:List Int):Bool:=JH l&&rJ l
def Ai(l:List Int):Int:=val B9 l
def By(n:Int):List Int:=dg B9 n
def rN(n:Int):Bool:=decide (n<0)
def rW(n:Int):List Int:=By (Ae n)
def BK(neg:Bool)(w:List Int):Bool:=neg&&decide (Aq w≠[])
def DL(s:List UInt8):Bool:=decide (s.length<=18)&&Al s
def Bw(s:List UInt8):Int:=AB 0 s
def EY(s:List UInt8):Bool:=rN (Cc s)
def E3(s:List UInt8):List Int:=rW (Cc s)
def Cf(a b:List Int):List Int:=By (gI (Ai a) (Ai b))
end Go.Sp
namespace Go.Pe
open Sp
open Go.Det
abbrev li:Sh:=.list i64
abbrev Hq:Sh:=.pair .bool li
def Rg:Ap:=⟨[li],fun l=>decide (qe (α:=Int) l<=20000),[li],fun l=>Aq l,false⟩
def IC:Ap:=⟨[.bool,li],fun i=>decide (qe (α:=Int) i.2<=20000),[Hq],fun i=>(BK i.1 i.2,Aq i.2),false⟩
def XD:Ap:=⟨[li,li],fun i=>A4 i.1&&A4 i.2,[i64],fun i=>BZ (Ai i.1) (Ai i.2),false⟩
def XK:Ap:=⟨[li,li],fun i=>Sp.hR i.1&&Sp.hR i.2,[li],fun i=>By (Ai i.1*Ai i.2),false⟩
def Vu:Ap:=⟨[li,i64],fun i=>JH i.1&&decide (0<(i.2:Int))&&decide ((i.2:Int)<1000000000),[li,i64],fun i=>(By (Ai i.1/i.2),Ai i.1 % i.2),false⟩
def Qh:Ap:=⟨[li,li],fun i=>A4 i.1&&A4 i.2&&decide (qe (α:=Int) i.1<=9000)&&decide (qe (α:=Int) i.2<=9000)&&decide (0<Ai i.2),[li,li],fun i=>(By (Ai i.1/Ai i.2),By (Ai i.1 % Ai i.2)),false⟩
def K8:Ap:=⟨[li,li],fun i=>A4 i.1&&A4 i.2&&decide (qe (α:=Int) i.1<=9000)&&decide (qe (α:=Int) i.2<=9000),[li],fun i=>Cf i.1 i.2,false⟩
def S0:Ap:=⟨[.str],fun s=>DL s,[i64],fun s=>Bw s,false⟩
def Q8:Ap:=⟨[.str],fun s=>D7 s,[Hq],fun s=>(EY s,E3 s),false⟩
def jH:A1:=X7 []
def Z0:A1:=X7 [(227,Rg)]
def LV:A1:=X7 [(170,XD),(227,Rg),(226,Vu),(172,XK)]
def vQ:A1:=X7 [(164,Qh)]
def Z4:A1:=X7 [(165,S0),(168,IC)]
end Go.Pe
namespace Go.Sp
def Dk:List UInt8:=[48,49,50,51,52,53,54,55,56,57]
def Yd(o:List Bool):List Bool:=(List.range 256).map fun j=>o.getD j false
def qN:List Bool:=zp 256 false
def Ou(s:List UInt8):List UInt8:=((s.reverse.dropWhile BL).reverse).dropWhile BL
def Oa(s:List UInt8)(c:Int):Int:=match s.findIdx? (fun x=>x==c.toNat.toUInt8)with
 |some i=>(i:Int)
 |none=> -1
def Ay(s:List UInt8):List UInt8:=match s.findIdx? (fun x=>x==47)with
 |some i=>s.take i
 |none=>s
def AM(s:List UInt8):List UInt8:=match s.findIdx? (fun x=>x==47)with
 |some i=>s.drop (i+1)
 |none=>[]
def Bn(s:List UInt8):Bool:=s.any (fun x=>x==47)
def AY(s:List UInt8):List UInt8:=if s.getD 0 0=45 then s.drop 1 else s
def preB(s:List UInt8):Bool:=decide (s.getD 0 0=45)
def qP(s t:List UInt8):Bool:=decide (t=Dk)&&decide (s.length<=1000000)
def rP(s t:List UInt8):Bool:=decide (t=[47])&&decide (s.length<=1000000)
def Sa(s t:List UInt8):Bool:=decide (t=[45])&&decide (s.length<=1000000)
end Go.Sp
namespace Go.Pe
open Sp
open Go.Det
def VQ:Ap:=⟨[.str,.str],fun i=>qP i.1 i.2,[.str],fun i=>Ou i.1,false⟩
def pP:Ap:=⟨[.str,.int .u8],fun i=>decide (0<=(i.2:Int))&&decide ((i.2:Int)<256),[i64],fun i=>Oa i.1 i.2,false⟩
def iY:Ap:=⟨[.str,.str],fun i=>rP i.1 i.2,[.str,.str,.bool],fun i=>(Ay i.1,Sp.AM i.1,Bn i.1),false⟩
def qL:Ap:=⟨[.str,.str],fun i=>Sa i.1 i.2,[.str,.bool],fun i=>(AY i.1,Sp.preB i.1),false⟩
def LF:Ap:=⟨[.str],fun s=>decide (s.length<=1000000),[.bool],fun s=>AT s,false⟩
def M5:A1:=X7 []
def ZE:A1:=X7 [(263,⟨[.str,.str],fun _=>false,[.str],fun i=>i.1,false⟩),(264,⟨[.str,.str],fun _=>false,[.str],fun i=>i.1,false⟩),(258,⟨[.str,.int .u8],fun _=>false,[.str],fun i=>i.1,false⟩),(259,⟨[.str,.int .u8],fun _=>false,[.str],fun i=>i.1,false⟩)]
def zS:A1:=X7 [(211,VQ)]
def XH2:A1:=X7 [(316,pP)]
def P4:A1:=X7 [(105,UY),(216,hO),(159,QF),(158,OW),(174,Ty),(302,⟨[.str,i64,i64],fun _=>false,[i64],fun _=>(0:Int),false⟩),(267,⟨[.str],fun _=>false,[i64],fun _=>(0:Int),false⟩)]
end Go.Pe
namespace Go.Sp
def Gi(a:List UInt8):Bool:=AT (Ay (AY a))&&(!preB a||decide (Ay (AY a)≠[48]))&&(!Bn (AY a)||(AT (AM (AY a))&&decide (AM (AY a)≠[48])&&decide (AM (AY a)≠[49])))
def kO(a:List UInt8):Int:=AB 0 (Ay (AY a))
def nM(a:List UInt8):Int:=AB 0 (AM (AY a))
def Au(a:List UInt8):Int:=if Gi a=false then 1 else if 600<(Ay (AY a)).length\/600<(AM (AY a)).length then 4 else if Bn (AY a)=true/\gI (kO a) (nM a)≠1 then 1 else 0
def AX(s:List UInt8):Int:=((Ay s).length:Int)
def FL(a:List UInt8):Bool:=D7 (Ay a)&&D7 (AM a)&&decide (a.length<=5999)
def A9(a:List UInt8):Int:=Cc (Ay a)
def AI(a:List UInt8):Int:=if Bn a=true then Cc (AM a)else 1
def Bo(a:List UInt8):Bool:=rN (A9 a)
def Bi(a:List UInt8):List Int:=rW (A9 a)
def A8(a:List UInt8):Bool:=rN (AI a)
def A5(a:List UInt8):List Int:=rW (AI a)
end Go.Sp
namespace Go.Pe
open Sp
open Go.Det
def DG:Ap:=⟨[.str],fun s=>decide (s.length<=1000000),[i64],fun s=>Au s,false⟩
def LY:Ap:=⟨[.str],fun s=>decide (s.length<=1000000),[i64],fun s=>AX s,false⟩
def KR:Ap:=⟨[i64],fun n=>CG n,[Hq],fun n=>(Sp.rN n,Sp.rW n),false⟩
def NC:Ap:=⟨[.str],fun s=>FL s,[Hq,Hq],fun s=>((Bo s,Bi s),(A8 s,A5 s)),false⟩
def Lt:A1:=Z3 [(77,[4,6,7,9,10])] [] [(77,[(4,[5,6,7,8]),(6,[5,6,7,8]),(7,[5,6,7,9]),(9,[5,6,7]),(10,[10])])] [(83,Hf),(85,Qr),(149,qL),(150,iY),(151,LF),(152,Yf),(153,OG),(154,bX),(105,UY)]
def qS:A1:=X7 [(168,IC)]
def XK3:A1:=X7 [(89,LY),(163,Q8),(107,KR)]
def T8:A1:=Z3 [(24,[4,7,9,11,13,14])] [] [(24,[(4,[0,3]),(7,[3,4]),(9,[3,4]),(11,[3,4]),(13,[5,6]),(14,[7])])] [(89,LY),(90,LF),(91,NC),(92,K8)]
end Go.Pe
namespace Go.Sp
abbrev Az:=(Int×List Int)×(Int×List Int)
def MT(a:AS):Bool:=Dh a&&decide (a.2.length<=4000)
def Dm(a:Az):Bool:=MT a.1&&MT a.2
def KM(a b:Az):Int:=BZ (vI a.1*vI b.2) (vI b.1*vI a.2)
def Er(a:List UInt8):Int:=Cw (A9 a)
def Ez(a:List UInt8):List Int:=Cu (A9 a)
def D6(a:List UInt8):Int:=Cw (AI a)
def Eb(a:List UInt8):List Int:=Cu (AI a)
def iQ(a b:AS):AS:=if vI b<0 then F6 (C4 a) (C4 b)else F6 a b
def yR(a b:AS):Int:=(iQ a b).1
def zD(a b:AS):List Int:=(iQ a b).2
def CJ(d:AS):Bool:=decide (d.2=[])&&decide (d.1=1)
def gR(n d:AS):AS:=(MO n d,Mt n d)
def MX(n d:AS):Az:=if CJ d=true then(n,d)else(iQ n (gR n d),iQ d (gR n d))
def Ux(n d:AS):Az:=if vI d<0 then MX (C4 n) (C4 d)else MX n d
def fWh(n:AS):Az:=(n,(1,Cv 1))
def Li(a b:Az):Az:=if CJ a.2=true/\CJ b.2=true then fWh (En a.1 b.1)else Ux (En (E0 a.1 b.2) (E0 b.1 a.2)) (E0 a.2 b.2)
def P5(a b:Az):Az:=Ux (E0 a.1 b.1) (E0 a.2 b.2)
def uG(a:Az):Az:=(C4 a.1,a.2)
def PI(a b:Az):Az:=Li a (uG b)
def Un(a:Az):Az:=Ux a.2 a.1
def MV(a b:Az):Az:=P5 a (Un b)
def nS(f:Az):Int:=f.1.1
def nW(f:Az):List Int:=f.1.2
def dS(f:Az):Int:=f.2.1
def dW(f:Az):List Int:=f.2.2
def Wg(n d:AS):Int:=nS (Ux n d)
def Vj(n d:AS):List Int:=nW (Ux n d)
def Vz(n d:AS):Int:=dS (Ux n d)
def Ww(n d:AS):List Int:=dW (Ux n d)
def aV(a b:Az):Int:=nS (Li a b)
def eU(a b:Az):List Int:=nW (Li a b)
def bE(a b:Az):Int:=dS (Li a b)
def dL(a b:Az):List Int:=dW (Li a b)
def qO(a b:Az):Int:=nS (PI a b)
def rB(a b:Az):List Int:=nW (PI a b)
def vJ(a b:Az):Int:=dS (PI a b)
def wP(a b:Az):List Int:=dW (PI a b)
def iO(a b:Az):Int:=nS (P5 a b)
def fH(a b:Az):List Int:=nW (P5 a b)
def dD(a b:Az):Int:=dS (P5 a b)
def aL(a b:Az):List Int:=dW (P5 a b)
def xK(a:Az):Int:=nS (Un a)
def vM(a:Az):List Int:=nW (Un a)
def wV(a:Az):Int:=dS (Un a)
def xM(a:Az):List Int:=dW (Un a)
def xG(a b:Az):Int:=nS (MV a b)
def wG(a b:Az):List Int:=nW (MV a b)
def vH(a b:Az):Int:=dS (MV a b)
def xH(a b:Az):List Int:=dW (MV a b)
def flS(a:Az):Int:=Yw a.1 a.2
def flW(a:Az):List Int:=Xd a.1 a.2
def CF(a:Az):Bool:=Dm a&&decide (0<vI a.2)
def Lg(n d:AS):Bool:=A6 n&&A6 d&&decide (vI d≠0)
end Go.Sp
namespace Go.Pe
open Sp
open Go.Det
abbrev BH:Sh:=.pair BF BF
def Up:Ap:=⟨[.str],fun s=>FL s,[BH],fun s=>((Er s,Ez s),(D6 s,Eb s)),false⟩
def Tz:Ap:=⟨[BH,BH],fun i=>Sp.Dm (i.1:Az)&&Sp.Dm (i.2:Az),[i64],fun i=>KM (i.1:Az) (i.2:Az),false⟩
def cIQ:Ap:=⟨[BF,BF],fun i=>Lg i.1 i.2,[BF],fun i=>(yR i.1 i.2,zD i.1 i.2),false⟩
def Xx:Ap:=⟨[BF,BF],fun i=>Lg i.1 i.2,[BH],fun i=>((Wg i.1 i.2,Vj i.1 i.2),(Vz i.1 i.2,Ww i.1 i.2)),false⟩
def NT:Ap:=⟨[BH],fun _=>true,[.bool],fun a=>CJ (a:Az).2,false⟩
def aI:Ap:=⟨[BF],fun _=>true,[BH],fun n=>((n:AS),((1:Int),Cv 1)),false⟩
def cF:Ap:=⟨[i64],fun _=>true,[BH],fun n=>(((n:Int),Cv n),((1:Int),Cv 1)),false⟩
def qM:Ap:=⟨[BH],fun a=>Dh (a:Az).1,[BH],fun a=>((D3 (a:Az).1,Ed (a:Az).1),((a:Az).2.1,(a:Az).2.2)),false⟩
def QD:Ap:=⟨[BH,BH],fun i=>Sp.CF (i.1:Az)&&Sp.CF (i.2:Az),[BH],fun i=>((aV i.1 i.2,eU i.1 i.2),(bE i.1 i.2,dL i.1 i.2)),false⟩
def XV:Ap:=⟨[BH,BH],fun i=>Sp.CF (i.1:Az)&&Sp.CF (i.2:Az),[BH],fun i=>((qO i.1 i.2,rB i.1 i.2),(vJ i.1 i.2,wP i.1 i.2)),false⟩
def Tj:Ap:=⟨[BH,BH],fun i=>Sp.CF (i.1:Az)&&Sp.CF (i.2:Az),[BH],fun i=>((iO i.1 i.2,fH i.1 i.2),(dD i.1 i.2,aL i.1 i.2)),false⟩
def pZ:Ap:=⟨[BH],fun a=>Sp.CF (a:Az)&&decide (zj (a:Az).1≠0),[BH],fun a=>((xK a,vM a),(wV a,xM a)),false⟩
def Yr:Ap:=⟨[BH,BH],fun i=>Sp.CF (i.1:Az)&&Sp.CF (i.2:Az)&&decide (zj (i.2:Az).1≠0),[BH],fun i=>((xG i.1 i.2,wG i.1 i.2),(vH i.1 i.2,xH i.1 i.2)),false⟩
def Vr:Ap:=⟨[BH],fun a=>Sp.CF (a:Az),[BF],fun a=>(Sp.flS a,Sp.flW a),false⟩
def jF:A1:=Z3 [(175,[3])] [] [(175,[(3,[2,3,4])])] [(173,J5),(174,Ty),(176,G5),(152,Yf),(105,UY),(158,OW),(159,QF),(154,bX),(150,iY),(153,OG)]
def tY:A1:=Z3 [(104,[3,6])] [] [(104,[(3,[2,3,4]),(6,[2,3,4,5])])] [(173,J5),(174,Ty),(152,Yf),(175,cIQ)]
def tN:A1:=Z3 [(80,[3])] [] [(80,[(3,[2,3,4])])] [(156,NT),(157,aI),(158,OW),(159,QF),(104,Xx)]
def zG:A1:=X7 [(160,qM),(80,QD),(82,Tj),(161,pZ)]
end Go.Pe
namespace Go.Sp
def P6(a:List UInt8):List UInt8:=if Bn a=true then AM a else[49]
def MY(a:List UInt8)(n:Int):Bool:=decide ((a.length:Int)<=2*n+2)&&decide (Au a=0)&&decide (((AY (Ay a)).length:Int)<=n)&&decide (((P6 a).length:Int)<=n)
def Bb(a:List UInt8)(n:Int):Bool:=decide (a.length<=40)&&(decide (Au a≠0)||MY a n)
end Go.Sp
namespace Go.Pe
open Go.Det
def eV:Ap:=⟨[.str,i64],fun i=>decide (0<=(i.2:Int))&&decide ((i.2:Int)<=1000),[.bool],fun i=>Sp.MY i.1 i.2,false⟩
def Mc:Ap:=⟨[.str,i64],fun i=>decide (0<=(i.2:Int))&&decide ((i.2:Int)<=1000),[.bool],fun i=>Sp.Bb i.1 i.2,false⟩
def XM:Ap:=⟨[.str],fun s=>decide (s.length<=1000000),[.str],fun s=>Sp.AY s,false⟩
def fM:Ap:=⟨[.str],fun s=>decide (s.length<=1000000),[.str],fun s=>Sp.Ay s,false⟩
def Xw:Ap:=⟨[.str],fun s=>decide (s.length<=1000000),[.str],fun s=>Sp.P6 s,false⟩
def zL:A1:=X7 [(89,LY)]
def zZ:A1:=X7 [(24,DG),(100,XM),(101,fM),(102,Xw)]
def zU:A1:=X7 [(24,DG),(31,eV)]
end Go.Pe
