import Derived.Test.YtbmofcgiokkikaaGreatDoorX10
/- A part of a proof; no law is stated here. -/
noncomputable section
open Go.IntKind renaming wrap -> zc, u64 -> zh, i64 -> qw
open Go.Pe.Ends renaming tt -> zd, ite -> ya, Ah -> yb, leaf -> yp, ff -> qd
open Go.Sp renaming val -> ze, vI -> zi, u64 -> zx, A6 -> yw, sg -> qq, Ds -> qy
open Int renaming toNat_natCast -> zf, mul_le_mul_of_nonneg_right -> zg, mul_assoc -> zk, mul_le_mul_of_nonneg_left -> zl, mul_comm -> zm, le_of_lt -> zo, pow_succ -> zp, mul_add -> zq, one_mul -> zy, add_mul -> z6, mul_nonneg -> z7, mul_ediv_add_emod -> z8, pow_zero -> yd, lt_of_mul_lt_mul_left -> yf, mul_left_comm -> yh, emod_lt_of_pos -> yk, lt_or_le -> ym, tdiv -> yn, emod_nonneg -> yo, pow_pos -> yq, fdiv_eq_ediv_of_nonneg -> yr, mul_zero -> yt, tmod -> yv, mul_sub -> yy, ediv_lt_of_lt_mul -> yz, add_assoc -> y7, ediv_emod_unique -> y8, ediv_nonneg -> y9, add_zero -> qe, fdiv -> qf, mul_lt_mul_of_pos_left -> qh, tdiv_eq_ediv_of_nonneg -> qi, tmod_eq_emod_of_nonneg -> qj, sub_mul -> qn, le_refl -> qo, mul_one -> qp, ediv_eq_zero_of_lt -> qu, zero_mul -> qz
open Go.Pe.Sh renaming list -> zj, int -> zw, bool -> qm
open List renaming replicate -> zn, getD_eq_getElem?_getD -> zt, take_of_length_le -> zz, append_assoc -> yc, getElem?_eq_getElem -> yi, length_take -> yj, drop_eq_getElem_cons -> ql, mem_append -> qv
open Nat renaming add -> zr, min_eq_left -> yx, add_sub_cancel -> qg, sub -> qt
open Bool renaming and_eq_true -> zu
open BitVec renaming ofInt -> ye
open Option renaming getD -> yg
open Go.Pe.PV renaming agg -> yu
open Min renaming min -> qc
variable {Q:Go.Pe.PV->Go.Pe.Ob->Prop}
namespace Go.Pe
open Sp
open Go.Det
section
open List Int Prod
namespace T190
def T[Srt](w:List Int):Tr:=tree wL false 9 190<|Ag ([zj i64]) w
def L1[Srt](v0:List Int):Tr:=re ((T []))<|Ax 21 [(0,.dat (zj i64) v0)] [] 0
theorem Aj[Srt](w:List Int):T w=L1 w:=by kernel_rfl
theorem Ak[Srt](v0:List Int):stepT wL (L1 v0)=let b':=(length v0:Int);let c:Tr:=.leaf (.dat (zj i64) v0) [];let a:=zc .i64<|b'-1;let b:=decide (0<=zc .i64 (b'-1));.di (b'>0) (.ck (b&&decide (zc .i64 (b'-1)<b'))<|.ite (getD v0 (toNat a) 0==0) (.ck (b&&decide (0<=toNat a)&&decide (toNat a<=length v0))<|L1<|take (toNat a) v0) c) c:=by kernel_rfl
end T190
namespace T149
def T[Srt](n:Bool)(w:List Int):Tr:=tree jM false 9 149<|Ag ([qm,zj i64]) (n,w)
theorem Aj[Srt](n:Bool)(w:List Int):T n w=.cd (length w<=20000) (.ite n (.leaf (yu [.dat qm<|decide ((↑(length<|AD w):Int)>0),.dat (zj i64)<|AD w]) [])<|.leaf (yu [.bl false,.dat (zj i64)<|AD w]) []):=by kernel_rfl
end T149
namespace T151
def T[Srt](a b:List Int):Tr:=tree wL false 9 151<|Ag ([zj i64,zj i64]) (a,b)
def L1[Srt](v0 v1:List Int)(v5:Int):Tr:=re ((T [] []).R)<|Ax 41 [(0,.dat (zj i64) v0),(1,.dat (zj i64) v1),(5,.dat i64 v5)] [] 0
theorem Aj[Srt](a b:List Int):T a b=let c:=(length a:Int);.ite (c !=(length b:Int)) (.di (c<(length b:Int)) (.leaf (.dat i64 (-1:Int)) [])<|.leaf (.dat i64 (1:Int)) []) (L1 a b<|zc .i64<|c-1):=by kernel_rfl
theorem Ak[Srt](v0 v1:List Int)(v5:Int):stepT wL (L1 v0 v1 v5)=let a:=decide (0<=v5)&&decide (v5<(length v0:Int));let b':=decide (0<=v5)&&decide (v5<(length v1:Int));.di (v5>=0) (.ck a<|.ck b'<|.di (getD v0 (toNat v5) 0<getD v1 (toNat v5) 0) (.leaf (.dat i64 (-1:Int)) [])<|.ck a<|.ck b'<|.di (getD v0 (toNat v5) 0>getD v1 (toNat v5) 0) (.leaf (.dat i64 (1:Int)) [])<|L1 v0 v1<|zc .i64<|v5-1) (.leaf (.dat i64 (0:Int)) []):=by kernel_rfl
end T151
namespace T153
def T[Srt](a b:List Int):Tr:=tree jM false 9 153<|Ag ([zj i64,zj i64]) (a,b)
def L1[Srt](v0 v1:List Int)(a:Nat)(c:Int)(b:List Int):Tr:=re ((T [] []).L)<|Ax 72 [(0,.dat (zj i64) v0),(1,.dat (zj i64) v1),(5,.sl 0 1 0 a none),(6,.dat i64 c)] [(0,.arr false 3 i64 b)] 1
theorem Aj[Srt](a b:List Int):T a b=let c:=(length a:Int)+(length b:Int);let b':=zc .i64 c;.ck (decide (0<=zc .i64 c)&&decide (zc .i64 c=zc .i64 c)&&decide (8*toNat b'<=281474976710656)&&decide (zc .i64 c<9223372036854775808)) (L1 a b (toNat b') 0<|replicate (toNat b') 0):=by kernel_rfl
def L2[Srt](v0 v1:List Int)(a:Nat)(e b c:Int)(d:List Int):Tr:=re ((stepT jM<|L1 [] [] 0 0 []).L)<|Ax 72 [(0,.dat (zj i64) v0),(1,.dat (zj i64) v1),(5,.sl 0 1 0 a none),(6,.dat i64 e),(7,.dat i64 b),(8,.dat i64 c)] [(0,.arr false 3 i64 d)] 1
theorem Ak[Srt](v0 v1:List Int)(a:Nat)(c:Int)(b:List Int):stepT jM (L1 v0 v1 a c b)=.di (c<(length v0:Int)) (L2 v0 v1 a c 0 0 b) (.ck (decide (0+a<=length b)&&true&&decide (length (take a b)<=20000))<|.leaf (.dat (zj i64)<|AD<|take a b) []):=by kernel_rfl
theorem Az[Srt](v0 v1:List Int)(a:Nat)(b f c:Int)(d:List Int):stepT jM (L2 v0 v1 a b f c d)=let i:=decide (0<=zc .i64 (b+c))&&decide (zc .i64 (b+c)<(↑a:Int));let e:=zc .i64<|b+c;let g:=(length v1:Int);let j:=zc .i64<|zc .i64 (getD d (toNat e) 0+zc .i64 (getD v0 (toNat b) 0*getD v1 (toNat c) 0))+f;let b':=b+g;let k:=decide (toNat e<length d);let l:=decide (0<=zc .i64 b')&&decide (zc .i64 b'<(↑a:Int));let h:=zc .i64 b';let h':=decide (toNat h<length d);.di (c<g) (.ck i<|.ck k<|.ck (decide (0<=b)&&decide (b<(length v0:Int)))<|.ck (decide (0<=c)&&decide (c<g))<|.ck true<|.ck i<|.ck k<|.ck true<|L2 v0 v1 a b (zc .i64<|yn j 1000000000) (zc .i64<|c+1)<|set d (toNat e)<|yv j 1000000000) (.ck l<|.ck h'<|.ck l<|.ck h'<|L1 v0 v1 a (zc .i64<|b+1)<|set d (toNat h)<|zc .i64<|getD d (toNat h) 0+f):=by kernel_rfl
end T153
namespace T189
def T[Srt](a:List Int)(d:Int):Tr:=tree jM false 9 189<|Ag ([zj i64,zw qw]) (a,d)
def L1[Srt](v0:List Int)(v1:Int)(a:Nat)(b c:Int)(d:List Int):Tr:=re ((T [] 0).L)<|Ax 39 [(0,.dat (zj i64) v0),(1,.dat i64 v1),(6,.sl 0 1 0 a none),(7,.dat i64 b),(8,.dat i64 c)] [(0,.arr false 3 i64 d)] 1
theorem Aj[Srt](a:List Int)(d:Int):T a d=let b:=(length a:Int);.ck (decide (0<=b)&&decide (b=b)&&decide (8*toNat b<=281474976710656)&&decide (b<9223372036854775808)) (L1 a d (toNat b) 0 (zc .i64<|b-1)<|replicate (toNat b) 0):=by kernel_rfl
theorem Ak[Srt](v0:List Int)(v1:Int)(a:Nat)(d b:Int)(c:List Int):stepT jM (L1 v0 v1 a d b c)=let e:=zc .i64<|zc .i64 (d*1000000000)+getD v0 (toNat b) 0;.di (b>=0) (.ck (decide (0<=b)&&decide (b<(length v0:Int)))<|.cd (v1≠0)<|.ck (decide (0<=b)&&decide (b<(↑a:Int)))<|.cd (toNat b<length c)<|.cd (v1≠0)<|L1 v0 v1 a (yv e v1) (zc .i64<|b-1)<|set c (toNat b)<|zc .i64<|yn e v1) (.ck (decide (0+a<=length c)&&true&&decide (length (take a c)<=20000))<|.leaf (.tup [.dat (zj i64)<|AD<|take a c,.dat i64 d]) []):=by kernel_rfl
end T189
namespace T147
def T[Srt](a b:List Int):Tr:=tree Nw false 9 147<|Ag ([zj i64,zj i64]) (a,b)
def L1[Srt](v0:List Int)(c:Nat)(v9:List Int)(b:Int)(a:Nat)(o1 d:List Int):Tr:=re ((T [] []).L.R.R.L.L.L.L.L)<|Ax 206 [(0,.dat (zj i64) v0),(8,.sl 0 1 0 c none),(9,.dat (zj i64) v9),(10,.dat i64 b),(11,.sl 1 1 0 a none)] [(1,.arr false 3 i64 o1),(0,.arr true 3 i64 d)] 2
theorem Aj[Srt](a b:List Int):T a b=let c:=(length b:Int);let f:=getD b (toNat<|zc .i64<|c-1) 0+1;let d:=yn 1000000000<|zc .i64 f;let b':=Aq a*Aq [zc .i64 d];let e:=BW<|Aq b*Aq [zc .i64 d];.ck (Bb a&&Bb b) (.di (CC (Aq a) (Aq b)<0) (.leaf (.tup [.nil,.dat (zj i64) a]) [])<|.ite (c==1) (.cd (0<c)<|.ck (K2 a&&decide (0<getD b 0 0)&&decide (getD b 0 0<1000000000))<|.ck (decide (1<=1)&&true&&decide (1<=20000))<|.leaf (.tup [.dat (zj i64)<|BW<|Aq a/getD b 0 0,.dat (zj i64)<|AD [Aq a % getD b 0 0]]) [])<|.ck (decide (0<=zc .i64 (c-1))&&decide (zc .i64 (c-1)<c))<|.cd (zc .i64 f≠0)<|.ck (decide (1<=1)&&true&&(Sp.hR b&&Sp.hR [zc .i64 d]))<|.ck (decide (1<=1)&&true&&(Sp.hR a&&Sp.hR [zc .i64 d]))<|.cd ((3*(0+length (BW b'))+2000)*8<=562949953421312)<|L1 a 1 e ((↑(length e):Int)) (zr 0<|length<|BW b') ([]++BW b')<|[zc .i64 d]):=by kernel_rfl
def L2[Srt](d:Nat)(v9:List Int)(c:Int)(a b:Nat)(e:Int)(f o1 g:List Int):Tr:=re ((stepT Nw<|L1 [] 0 [] 0 0 [] []).R.L)<|Ax 206 [(8,.sl 0 1 0 d none),(9,.dat (zj i64) v9),(10,.dat i64 c),(11,.sl 1 1 0 a none),(12,.sl 2 1 0 b none),(13,.dat i64 e)] [(2,.arr false 3 i64 f),(1,.arr false 3 i64 o1),(0,.arr true 3 i64 g)] 3
theorem Ak[Srt](v0:List Int)(c:Nat)(v9:List Int)(b:Int)(a:Nat)(o1 e:List Int):stepT Nw (L1 v0 c v9 b a o1 e)=let d:=(↑a:Int)-b;let b':=zc .i64 d;.di ((↑a:Int)<zc .i64 ((length v0:Int)+1)) (.ck (decide (a=length o1)&&decide ((3*(a+1)+2000)*8<=562949953421312))<|L1 v0 c v9 b (zr a 1) (o1++[0]) e) (.ck (decide (0<=zc .i64 d)&&decide (zc .i64 d=zc .i64 d)&&decide (8*toNat b'<=281474976710656)&&decide (zc .i64 d<9223372036854775808))<|L2 c v9 b a (toNat b') (zc .i64<|zc .i64 d-1) (replicate (toNat b') 0) o1 e):=by kernel_rfl
def L3[Srt](f:Nat)(v9:List Int)(d:Int)(a b:Nat)(i:Int)(l o1 n:List Int)(k:Nat)(v1:List Int)(v2 m:Int)(h:Int)(c:Int)(g:List Int)(j:List Int)(e:List Int):Tr:=re ((stepT Nw<|L2 f v9 d a b i l o1 n).L.L.L.L.L.L.L.L.L)<|Ax 77 [(0,.sl 1 1 0 k none),(1,.dat (zj i64) v1),(2,.dat i64 v2),(7,.dat i64 m),(9,.dat i64 h),(10,.dat i64 c)] [(2,.arr false 3 i64 g),(1,.arr false 3 i64 j),(0,.arr true 3 i64 e)] 3
theorem Az[Srt](f:Nat)(v9:List Int)(d:Int)(a b:Nat)(c:Int)(h o1 g:List Int):stepT Nw (L2 f v9 d a b c h o1 g)=let e:=(length v9:Int);let k:=take (toNat d) o1;let j:=toNat<|zc .i64<|e-1;let i:=zc .i64 (c+e)-1;let m:=decide (0<=zc .i64 (e-1))&&decide (zc .i64 (e-1)<e);let l:=zc .i64<|c+e;let b':=zc .i64<|zc .i64 (getD o1 (toNat l) 0*1000000000)+getD o1 (toNat<|zc .i64 i) 0;let h':=decide (getD v9 j 0≠0);.di (c>=0) (.ck (decide (0<=zc .i64 (c+e))&&decide (zc .i64 (c+e)<(↑a:Int)))<|.cd (toNat l<length o1)<|.ck (decide (0<=zc .i64 i)&&decide (zc .i64 i<(↑a:Int)))<|.cd (toNat (zc .i64 i)<length o1)<|.ck m<|.ck h'<|.ck m<|.ck h'<|L3 f v9 d a b c h o1 g a v9 c e (zc .i64<|yn b'<|getD v9 j 0) (yv b'<|getD v9 j 0) h o1 g) (.ck (decide (0<=d)&&true&&decide (0<=toNat d)&&decide (toNat d<=yg none a)&&decide (yg none a<=yg none a)&&true)<|.cd (0<(↑f:Int))<|.cd (0<length g)<|.ck (decide (0+toNat d<=length o1)&&true&&decide (length k<=20000))<|.ck (K2 (AD k)&&decide (0<getD g 0 0)&&decide (getD g 0 0<1000000000))<|.ck (decide (0+b<=length h)&&true&&decide (length (take b h)<=20000))<|.leaf (.tup [.dat (zj i64)<|AD<|take b h,.dat (zj i64)<|BW<|Aq (AD k)/getD g 0 0]) []):=by kernel_rfl
def L4[Srt](d:Nat)(v9:List Int)(c:Int)(a b:Nat)(g f h e:Int)(i o1 j:List Int):Tr:=re ((stepT Nw<|L3 0 [] 0 0 0 0 [] [] [] 0 [] 0 0 0 0 [] [] []).L.L.L)<|Ax 206 [(8,.sl 0 1 0 d none),(9,.dat (zj i64) v9),(10,.dat i64 c),(11,.sl 1 1 0 a none),(12,.sl 2 1 0 b none),(13,.dat i64 g),(14,.dat i64 f),(15,.dat i64 h),(16,.dat i64 e)] [(2,.arr false 3 i64 i),(1,.arr false 3 i64 o1),(0,.arr true 3 i64 j)] 3
theorem Be[Srt](i:Nat)(v9:List Int)(g:Int)(b a:Nat)(k:Int)(n o1 q:List Int)(l:Nat)(v1:List Int)(v2 f:Int)(e:Int)(d:Int)(j:List Int)(c:List Int)(h:List Int):stepT Nw (L3 i v9 g b a k n o1 q l v1 v2 f e d j c h)=let b':=zc .i64 (v2+f)-2;let o:=d+getD v1 (toNat<|zc .i64<|f-1) 0;let m:=zc .i64<|e-1;let p:Tr:=.ck (decide (0<=zc .i64 (f-1))&&decide (zc .i64 (f-1)<(length v1:Int)))<|.di (zc .i64 o>=1000000000) (L4 i v9 g b a k m 0 0 j c h)<|L3 i v9 g b a k n o1 q l v1 v2 f m (zc .i64 o) j c h;.di (e>=1000000000) p (.ck (decide (0<=zc .i64 (f-2))&&decide (zc .i64 (f-2)<(length v1:Int)))<|.ck (decide (0<=zc .i64 b')&&decide (zc .i64 b'<(↑l:Int)))<|.cd (toNat (zc .i64 b')<length c)<|.di (zc .i64 (e*getD v1 (toNat<|zc .i64<|f-2) 0)>zc .i64 (zc .i64 (d*1000000000)+getD c (toNat<|zc .i64 b') 0)) p<|L4 i v9 g b a k e 0 0 j c h):=by kernel_rfl
def L5[Srt](e:Nat)(v9:List Int)(c:Int)(a b:Nat)(g f d v20:Int)(h o1 i:List Int):Tr:=re ((stepT Nw<|L4 0 [] 0 0 0 0 0 0 0 [] [] []).R.L.L.L.L.L.L.L)<|Ax 206 [(8,.sl 0 1 0 e none),(9,.dat (zj i64) v9),(10,.dat i64 c),(11,.sl 1 1 0 a none),(12,.sl 2 1 0 b none),(13,.dat i64 g),(14,.dat i64 f),(19,.dat i64 d),(20,.dat i64 v20)] [(2,.arr false 3 i64 h),(1,.arr false 3 i64 o1),(0,.arr true 3 i64 i)] 3
theorem B1[Srt](g:Nat)(v9:List Int)(d:Int)(b c:Nat)(a f h e:Int)(i o1 j:List Int):stepT Nw (L4 g v9 d b c a f h e i o1 j)=let o:=decide (0<=zc .i64 (e+a))&&decide (zc .i64 (e+a)<(↑b:Int));let n:=decide (0<=zc .i64 (a+d))&&decide (zc .i64 (a+d)<(↑b:Int));let r:=zc .i64<|zc .i64 (f*getD v9 (toNat e) 0)+h;let m:=zc .i64<|e+a;let k:=zc .i64<|a+d;let s:=zc .i64<|e+1;let l:=set o1 (toNat k)<|zc .i64<|getD o1 (toNat k) 0-h;let b':=getD o1 (toNat m) 0-yv r 1000000000;let h':=decide (toNat m<length o1);let p:=decide (toNat k<length o1);let q:=yn r 1000000000;.di (e<d) (.ck (decide (0<=e)&&decide (e<(length v9:Int)))<|.ck o<|.ck h'<|.ck true<|.ck true<|.di (zc .i64 b'<0) (.ck o<|.ck h'<|L4 g v9 d b c a f (zc .i64<|zc .i64 q+1) s i (set o1 (toNat m)<|zc .i64<|zc .i64 b'+1000000000) j)<|.ck o<|.ck h'<|L4 g v9 d b c a f (zc .i64 q) s i (set o1 (toNat m)<|zc .i64 b') j) (.ck n<|.ck p<|.ck n<|.ck p<|.ck n<|.cd (toNat k<length l)<|.di (getD l (toNat k) 0<0) (L5 g v9 d b c a (zc .i64<|f-1) 0 0 i l j)<|.ck (decide (0<=a)&&decide (a<(↑c:Int)))<|.cd (toNat a<length i)<|L2 g v9 d b c (zc .i64<|a-1) (set i (toNat a) f) l j):=by kernel_rfl
theorem D0[Srt](f:Nat)(v9:List Int)(c:Int)(b d:Nat)(a g e v20:Int)(h o1 i:List Int):stepT Nw (L5 f v9 c b d a g e v20 h o1 i)=let b':=decide (0<=zc .i64 (v20+a))&&decide (zc .i64 (v20+a)<(↑b:Int));let l:=decide (0<=zc .i64 (a+c))&&decide (zc .i64 (a+c)<(↑b:Int));let k:=zc .i64<|v20+a;let j:=zc .i64<|a+c;let m:=zc .i64<|zc .i64 (getD o1 (toNat k) 0+getD v9 (toNat v20) 0)+e;let o:=decide (toNat k<length o1);let n:=decide (toNat j<length o1);.di (v20<c) (.ck b'<|.ck o<|.ck (decide (0<=v20)&&decide (v20<(length v9:Int)))<|.ck true<|.ck b'<|.ck o<|.ck true<|L5 f v9 c b d a g (zc .i64<|yn m 1000000000) (zc .i64<|v20+1) h (set o1 (toNat k)<|yv m 1000000000) i) (.ck l<|.ck n<|.ck l<|.ck n<|.ck (decide (0<=a)&&decide (a<(↑d:Int)))<|.cd (toNat a<length h)<|L2 f v9 c b d (zc .i64<|a-1) (set h (toNat a) g) (set o1 (toNat j)<|zc .i64<|getD o1 (toNat j) 0+e) i):=by kernel_rfl
end T147
namespace T141
def T[Srt](a b:List Int):Tr:=tree XG3 false 9 141<|Ag ([zj i64,zj i64]) (a,b)
def L1[Srt](v0 v1:List Int):Tr:=re ((T [] []))<|Ax 19 [(0,.dat (zj i64) v0),(1,.dat (zj i64) v1)] [] 0
theorem Aj[Srt](a b:List Int):T a b=L1 a b:=by kernel_rfl
theorem Ak[Srt](v0 v1:List Int):stepT XG3 (L1 v0 v1)=.di ((length v1:Int)>0) (.ck (Bb v0&&Bb v1&&decide (length v0<=9000)&&decide (length v1<=9000)&&decide (0<Aq v1))<|L1 v1<|BW<|Aq v0 % Aq v1) (.leaf (.dat (zj i64) v0) []):=by kernel_rfl
end T141
namespace T142
def T[Srt](s:Rd):Tr:=tree wL false 9 142<|Ag ([Sh.str]) s
def L1[Srt](v0:Rd)(v3 v4:Int):Tr:=re ((T []))<|Ax 20 [(0,.dat Sh.str v0),(3,.dat i64 v3),(4,.dat i64 v4)] [] 0
theorem Aj[Srt](s:Rd):T s=L1 s 0 0:=by kernel_rfl
theorem Ak[Srt](v0:Rd)(v3 v4:Int):stepT wL (L1 v0 v3 v4)=let a:=decide (v4<(length v0:Int));.ite a (.ck (decide (0<=v4)&&a)<|L1 v0 (zc .i64<|zc .i64 (zc .i64 (10*v3)+zc .i64 (↑(UInt8.toNat<|getD v0 (toNat v4) (0:UInt8)):Int))-48)<|zc .i64<|v4+1) (.leaf (.dat i64 v3) []):=by kernel_rfl
end T142
namespace T138
def T[Srt](s:Rd):Tr:=tree jP false 9 138<|Ag ([Sh.str]) s
def L1[Srt](v0:Rd)(v3:Bool):Tr:=re ((T []).L.L.L.L)<|Ax 40 [(0,.dat Sh.str v0),(2,.ptr 0 0),(3,.dat qm v3),(4,.nil)] [(0,.box [.bl false,.nil])] 1
def L2[Srt](v0:Rd):Tr:=re ((T []).R)<|Ax 40 [(0,.dat Sh.str v0),(2,.ptr 0 0),(3,.bl false),(4,.nil)] [(0,.box [.bl false,.nil])] 1
theorem Aj[Srt](s:Rd):T s=let a:=(↑(UInt8.toNat<|getD s 0 (0:UInt8)):Int)==45;.di ((length s:Int)>0) (.cd (0<(length s:Int))<|.ite a (.ck (decide (1<=length s)&&decide (length s<=length s))<|L1 (take (qt (length s) 1)<|drop 1 s) a)<|L1 s a) (L2 s):=by kernel_rfl
def L3[Srt](v0:Rd)(v3:Bool)(a:Nat)(o1:List Int):Tr:=re ((stepT jP<|L1 [] false).L.L.L.L.L)<|Ax 40 [(0,.dat Sh.str v0),(2,.ptr 0 0),(3,.dat qm v3),(4,.sl 1 1 0 a none)] [(1,.arr false 3 i64 o1),(0,.box [.bl false,.nil])] 2
theorem Ak[Srt](v0:Rd)(v3:Bool):stepT jP (L1 v0 v3)=let b':=aa 8;let b:=(length v0:Int);let a:=zc .i64<|b-9;let d:=decide (0<=zc .i64 (b-9));let c:=take (qt (length v0)<|toNat a)<|drop (toNat a) v0;let e:=decide (toNat a<=length v0);.di (b>9) (.ck (d&&true&&e&&decide (length v0<=length v0))<|.ck (Ee c)<|.ck b'<|.ck (d&&decide (0<=toNat a)&&e)<|L3 (take (toNat a) v0) v3 1<|[B6 c]) (.ck (Ee v0)<|.ck b'<|.ck (decide (0+1<=1)&&true&&decide (1<=20000))<|.leaf (yu [.dat qm<|CQ v3 [B6 v0],.dat (zj i64)<|AD [B6 v0]]) []):=by kernel_rfl
def L4[Srt](v0:Rd)(a:Nat)(o1:List Int):Tr:=re ((stepT jP<|L2 []).L.L.L.L.L)<|Ax 40 [(0,.dat Sh.str v0),(2,.ptr 0 0),(3,.bl false),(4,.sl 1 1 0 a none)] [(1,.arr false 3 i64 o1),(0,.box [.bl false,.nil])] 2
theorem Az[Srt](v0:Rd):stepT jP (L2 v0)=let b':=aa 8;let b:=(length v0:Int);let a:=zc .i64<|b-9;let d:=decide (0<=zc .i64 (b-9));let c:=take (qt (length v0)<|toNat a)<|drop (toNat a) v0;let e:=decide (toNat a<=length v0);.di (b>9) (.ck (d&&true&&e&&decide (length v0<=length v0))<|.ck (Ee c)<|.ck b'<|.ck (d&&decide (0<=toNat a)&&e)<|L4 (take (toNat a) v0) 1<|[B6 c]) (.ck (Ee v0)<|.ck b'<|.ck (decide (0+1<=1)&&true&&decide (1<=20000))<|.leaf (yu [.dat qm<|CQ false [B6 v0],.dat (zj i64)<|AD [B6 v0]]) []):=by kernel_rfl
theorem Be[Srt](v0:Rd)(v3:Bool)(a:Nat)(o1:List Int):stepT jP (L3 v0 v3 a o1)=let b':=ac a (length o1) 8;let c:=take (zr a 1)<|o1++[B6 v0];let d:=(length v0:Int);let b:=zc .i64<|d-9;let g:=decide (0<=zc .i64 (d-9));let e:=take (qt (length v0)<|toNat b)<|drop (toNat b) v0;let f:=decide (toNat b<=length v0);.di (d>9) (.ck (g&&true&&f&&decide (length v0<=length v0))<|.ck (Ee e)<|.ck b'<|.ck (g&&decide (0<=toNat b)&&f)<|L3 (take (toNat b) v0) v3 (zr a 1)<|o1++[B6 e]) (.ck (Ee v0)<|.ck b'<|.ck (decide (0+zr a 1<=length (o1++[B6 v0]))&&true&&decide (length c<=20000))<|.leaf (yu [.dat qm<|CQ v3 c,.dat (zj i64)<|AD c]) []):=by kernel_rfl
theorem B1[Srt](v0:Rd)(a:Nat)(o1:List Int):stepT jP (L4 v0 a o1)=let b':=ac a (length o1) 8;let c:=take (zr a 1)<|o1++[B6 v0];let d:=(length v0:Int);let b:=zc .i64<|d-9;let g:=decide (0<=zc .i64 (d-9));let e:=take (qt (length v0)<|toNat b)<|drop (toNat b) v0;let f:=decide (toNat b<=length v0);.di (d>9) (.ck (g&&true&&f&&decide (length v0<=length v0))<|.ck (Ee e)<|.ck b'<|.ck (g&&decide (0<=toNat b)&&f)<|L4 (take (toNat b) v0) (zr a 1)<|o1++[B6 e]) (.ck (Ee v0)<|.ck b'<|.ck (decide (0+zr a 1<=length (o1++[B6 v0]))&&true&&decide (length c<=20000))<|.leaf (yu [.dat qm<|CQ false c,.dat (zj i64)<|AD c]) []):=by kernel_rfl
end T138
namespace T68n
def T[Srt](n:Int):Tr:=tree XF0 false 9 68<|Ag ([zw qw]) n
theorem Aj[Srt](n:Int):T n=.leaf (yu [.dat i64 n,.nil]) []:=by kernel_rfl
end T68n
namespace T184
def T[Srt](a b:AM):Tr:=tree XF1 false 9 184<|Ag ([A4,A4]) (a,b)
def L1[Srt](d:Bool)(c b:List Int)(f o1 e:Int)(a:List Int):Tr:=re ((T (0,[]) (0,[])).L.L.R.L.L.L)<|Ax 84 [(3,.ptr 0 0),(4,.ptr 1 0),(5,.ptr 2 0),(8,.dat qm d),(12,.dat (zj<|zw zh) c),(13,.dat (zj<|zw zh) b)] [(2,.box [.dat i64 f,.nil]),(1,.box [.dat i64 o1,.nil]),(0,.box [.dat i64 e,.dat wU a])] 3
theorem Aj[Srt](a b:AM):T a b=let b':=BD<|Ai<|zi a;let c:=BD<|Ai<|zi b;let e:=yn (fst a)<|fst b;let d:Tr:=.ck (qy a)<|.ck (qy b)<|.ck (Vr b' c)<|L1 (decide (zi a<0)) (BD<|Aw b'/Aw c) (BD<|Aw b' % Aw c) 0 0 (fst b)<|snd b;.ite (!decide (0<length (snd a))) (.ite (!decide (0<length (snd b))) (.ite (fst a !=(-9223372036854775808)) (.cd (fst b≠0)<|.cd (fst b≠0)<|.di (yv (fst a) (fst b)<0) (.leaf (.tup [yu [.dat i64<|zc .i64<|zc .i64 e-1,.nil],yu [.dat i64<|zc .i64<|yv (fst a) (fst b)+fst b,.nil]]) [])<|.leaf (.tup [yu [.dat i64<|zc .i64 e,.nil],yu [.dat i64<|yv (fst a)<|fst b,.nil]]) []) d) d) d:=by kernel_rfl
def L2[Srt](f:Int)(b:List Int)(d:Int)(a:List Int)(g o1 e:Int)(c:List Int):Tr:=re ((stepT XF1<|L1 false [] [] 0 0 0 []).L.L)<|Ax 84 [(3,.ptr 0 0),(4,.ptr 1 0),(5,.ptr 2 0),(14,.ptr 3 0),(15,.ptr 4 0)] [(4,.box [.dat i64 f,.dat wU b]),(3,.box [.dat i64 d,.dat wU a]),(2,.box [.dat i64 g,.nil]),(1,.box [.dat i64 o1,.nil]),(0,.box [.dat i64 e,.dat wU c])] 5
theorem Ak[Srt](d:Bool)(b c:List Int)(e o1 g:Int)(a:List Int):stepT XF1 (L1 d b c e o1 g a)=let f:=qq d<|Aw c;let b':=qq d<|Aw b;.ck (Cy b) (.ck (Cy c)<|L2 (C8 f) (C6 f) (C8 b') (C6 b') e o1 g a):=by kernel_rfl
theorem Az[Srt](d:Int)(a:List Int)(e:Int)(b:List Int)(g o1 f:Int)(c:List Int):stepT XF1 (L2 d a e b g o1 f c)=.ck (qy (d,a)) (.di (IQ (d,a)<0) (.ck true<|.ck (Bg (e,b)&&Bg (1,BI 1))<|.ck (Bg (d,a)&&Bg (f,c))<|.leaf (.tup [yu [.dat i64<|Z7 (e,b) (1,BI 1),.dat wU<|cH (e,b) (1,BI 1)],yu [.dat i64<|KU (d,a) (f,c),.dat wU<|K3 (d,a) (f,c)]]) [])<|.leaf (.tup [yu [.dat i64 e,.dat wU b],yu [.dat i64 d,.dat wU a]]) []):=by kernel_rfl
end T184
namespace T171
def T[Srt](a b:AM):Tr:=tree XF2 false 9 171<|Ag ([A4,A4]) (a,b)
def L1[Srt](d o1:Int)(a:List Int)(c:Int)(b:List Int):Tr:=re ((T (0,[]) (0,[])).L.L)<|Ax 23 [(2,.ptr 0 0),(3,.ptr 1 0),(4,.ptr 2 0)] [(2,.box [.dat i64 d,.nil]),(1,.box [.dat i64 o1,.dat wU a]),(0,.box [.dat i64 c,.dat wU b])] 3
theorem Aj[Srt](a b:AM):T a b=.ck (qy a) (.ck (qy b)<|L1 0 (PB b) (Rq b) (PB a)<|Rq a):=by kernel_rfl
theorem Ak[Srt](d o1:Int)(a:List Int)(c:Int)(b:List Int):stepT XF2 (L1 d o1 a c b)=.ck (qy (o1,a)) (.ite (IQ (o1,a) !=0) (.ck (Bg (c,b)&&Bg (o1,a)&&decide (0<zi (o1,a)))<|L1 d (mV (c,b) (o1,a)) (nQ (c,b) (o1,a)) o1 a)<|.leaf (yu [.dat i64 c,.dat wU b]) []):=by kernel_rfl
end T171
namespace T199
def T[Srt](a:AM)(k:Int):Tr:=tree XF3 false 9 199<|Ag ([A4,zw qw]) (a,k)
def L1[Srt](v1 d:Int)(a:List Int)(o1 c:Int)(b:List Int):Tr:=re ((T (0,[]) 0).L)<|Ax 23 [(1,.dat i64 v1),(2,.ptr 0 0),(4,.ptr 1 0),(5,.ptr 2 0)] [(2,.box [.dat i64 d,.dat wU a]),(1,.box [.dat i64 o1,.nil]),(0,.box [.dat i64 c,.dat wU b])] 3
theorem Aj[Srt](a:AM)(k:Int):T a k=.ck true (L1 k 1 (BI 1) 0 (fst a)<|snd a):=by kernel_rfl
theorem Ak[Srt](v1 d:Int)(b:List Int)(o1 c:Int)(a:List Int):stepT XF3 (L1 v1 d b o1 c a)=let e:=qf v1<|2^1;let b':=Bg (c,a)&&Bg (c,a);let g:=Fq (d,b) (c,a);let f:=FC (d,b) (c,a);let i:=Fq (c,a) (c,a);let h:=FC (c,a) (c,a);.di (v1>0) (.ite (It qw v1 1==1) (.ck (Bg (d,b)&&Bg (c,a))<|.di (v1>1) (.ck b'<|.ck true<|L1 e g f o1 i h)<|.ck true<|L1 e g f o1 c a)<|.di (v1>1) (.ck b'<|.ck true<|L1 e d b o1 i h)<|.ck true<|L1 e d b o1 c a) (.leaf (yu [.dat i64 d,.dat wU b]) []):=by kernel_rfl
end T199
namespace T210
def T[Srt](a b:List Int):Tr:=tree KM false 9 210<|Ag ([zj<|zw zh,zj<|zw zh]) (a,b)
def L1[Srt](v0 v1:List Int)(a:Nat)(b c:Int)(d:List Int):Tr:=re ((T [] []).L.R.L.L)<|Ax 137 [(0,.dat (zj<|zw zh) v0),(1,.dat (zj<|zw zh) v1),(6,.sl 0 1 0 a none),(7,.dat (zw zh) b),(8,.dat i64 c)] [(0,.arr false 217 (zw zh) d)] 1
def L2[Srt](a b:List Int)(v1:Int)(f:Nat)(e:List Int)(d c:Int)(g:List Int):Tr:=re ((T a b).L.R.R.L.L.L)<|Ax 40 [(1,.dat i64 v1),(5,.sl 0 1 0 f none),(12,.dat (zj<|zw zh) e),(13,.dat i64 d),(14,.dat i64 c)] [(0,.arr false 217 (zw zh) g)] 1
theorem Aj[Srt](a b:List Int):T a b=let c:=(length b:Int);let b':=(length a:Int);let d:=zc .i64<|c+1;let e:=getD b (toNat<|zc .i64<|c-1) 0;.ck (Cy a&&Cy b) (.di (CC (Aw a) (Aw b)<0) (.leaf (.tup [.nil,.dat (zj<|zw zh) a]) [])<|.ite (c==1) (.ck (decide (0<=b')&&decide (b'=b')&&decide (8*toNat b'<=281474976710656)&&decide (b'<9223372036854775808))<|L1 a b (toNat b') 0 (zc .i64<|b'-1)<|replicate (toNat b') 0)<|.ck (decide (0<=zc .i64 (c-1))&&decide (zc .i64 (c-1)<c))<|.ck (zx e)<|.ck (decide (0<=zc .i64 (c+1))&&decide (zc .i64 (c+1)=zc .i64 (c+1))&&decide (8*toNat d<=281474976710656)&&decide (zc .i64 (c+1)<9223372036854775808))<|L2 a b (Sp.lz e) (toNat d) b c 0<|replicate (toNat d) 0):=by kernel_rfl
theorem Ak[Srt](v0 v1:List Int)(a:Nat)(c b:Int)(d:List Int):stepT KM (L1 v0 v1 a c b d)=let e:=getD v0 (toNat b) 0;let b':=zj<|zw zh;.di (b>=0) (.ck (decide (0<=b)&&decide (b<(length v0:Int)))<|.cd (0<(length v1:Int))<|.ck (zx c&&zx e&&zx (getD v1 0 0)&&decide (c<getD v1 0 0))<|.ck (decide (0<=b)&&decide (b<(↑a:Int)))<|.cd (toNat b<length d)<|L1 v0 v1 a (Sp.dr c e<|getD v1 0 0) (zc .i64<|b-1)<|set d (toNat b)<|Sp.dq c e<|getD v1 0 0) (.ck (decide (0+a<=length d)&&true&&Db (take a d))<|.ck (decide (1<=1)&&true&&Db [c])<|.leaf (.tup [.dat b'<|AD<|take a d,.dat b'<|AD [c]]) []):=by kernel_rfl
def L3[Srt](a b:List Int)(v1:Int)(k:Nat)(h:List Int)(j i:Int)(m:List Int)(l:Int)(c:Nat)(f:List Int)(e:Int)(d:Int)(o1:List Int)(g:List Int):Tr:=re ((stepT KM<|L2 a b v1 k h j i m).R.L.L)<|Ax 40 [(1,.dat i64 l),(5,.sl 1 1 0 c none),(12,.dat (zj<|zw zh) f),(13,.dat i64 e),(14,.dat i64 d)] [(1,.arr false 217 (zw zh) o1),(0,.arr true 217 (zw zh) g)] 2
theorem Az[Srt](a b:List Int)(v1:Int)(d:Nat)(e:List Int)(f c:Int)(g:List Int):stepT KM (L2 a b v1 d e f c g)=let i:=set g (toNat c)<|eH zh (getD g (toNat c) 0)<|zc .u64<|getD e (toNat c) 0*2^qc (toNat v1) 64;let b':=(length a:Int)+1;let h:=zc .i64<|c+1;let k:=decide (0<=c)&&decide (c<(↑d:Int));let l:=decide (toNat c<length g);let j:=zc .i64 b';.di (c<f) (.ck (decide (0<=c)&&decide (c<(length e:Int)))<|.ck k<|.ck l<|.cd (0<=v1)<|.ck k<|.ck l<|.di (v1>0) (.cd (0<=zc .i64 (64-v1))<|.ck (decide (0<=zc .i64 (c+1))&&decide (zc .i64 (c+1)<(↑d:Int)))<|.cd (toNat h<length i)<|L2 a b v1 d e f h<|set i (toNat h)<|qf (getD e (toNat c) 0)<|2^qc (toNat<|zc .i64<|64-v1) 64)<|L2 a b v1 d e f h i) (.ck (decide (0+d<=length g)&&true&&Db (take d g))<|.ck (decide (0<=zc .i64 b')&&decide (zc .i64 b'=zc .i64 b')&&decide (8*toNat j<=281474976710656)&&decide (zc .i64 b'<9223372036854775808))<|L3 a b v1 d e f c g (Sp.lz<|getD b (toNat<|zc .i64<|(length b:Int)-1) 0) (toNat j) a ((length a:Int)) 0 (replicate (toNat j) 0) g):=by kernel_rfl
def L4[Srt](v9:Int)(d:List Int)(a:Nat)(e:Int)(b:Nat)(c:Int)(o1 f:List Int):Tr:=re ((stepT KM<|L3 [] [] 0 0 [] 0 0 [] 0 0 [] 0 0 [] []).R.L)<|Ax 137 [(9,.dat i64 v9),(10,.dat (zj<|zw zh) d),(11,.sl 0 1 0 a none),(12,.dat i64 e),(13,.sl 1 1 0 b none),(14,.dat i64 c)] [(1,.arr false 217 (zw zh) o1),(0,.arr false 217 (zw zh) f)] 2
theorem Be[Srt](a b:List Int)(v1:Int)(h:Nat)(k:List Int)(l i:Int)(n:List Int)(f:Int)(e:Nat)(d:List Int)(g:Int)(c:Int)(o1:List Int)(j:List Int):stepT KM (L3 a b v1 h k l i n f e d g c o1 j)=let b':=set o1 (toNat c)<|eH zh (getD o1 (toNat c) 0)<|zc .u64<|getD d (toNat c) 0*2^qc (toNat f) 64;let o:=zc .i64<|c+1;let r:=decide (0<=c)&&decide (c<(↑e:Int));let s:=decide (toNat c<length o1);let h':=AD<|take h n;let p:=(↑(length h'):Int);let m:=zc .i64 ((length a:Int)-p)+1;let q:=zc .i64 m;.di (c<g) (.ck (decide (0<=c)&&decide (c<(↑(length d):Int)))<|.ck r<|.ck s<|.cd (0<=f)<|.ck r<|.ck s<|.di (f>0) (.cd (0<=zc .i64 (64-f))<|.ck (decide (0<=zc .i64 (c+1))&&decide (zc .i64 (c+1)<(↑e:Int)))<|.cd (toNat o<length b')<|L3 a b v1 h k l i n f e d g o (set b' (toNat o)<|qf (getD d (toNat c) 0)<|2^qc (toNat<|zc .i64<|64-f) 64) j)<|L3 a b v1 h k l i n f e d g o b' j) (.ck (decide (0<=zc .i64 m)&&decide (zc .i64 m=zc .i64 m)&&decide (8*toNat q<=281474976710656)&&decide (zc .i64 m<9223372036854775808))<|L4 (Sp.lz<|getD b (toNat<|zc .i64<|(length b:Int)-1) 0) h' e p (toNat q) (zc .i64<|(length a:Int)-p) (replicate (toNat q) 0) o1):=by kernel_rfl
def L5[Srt](v9:Int)(d:List Int)(a:Nat)(e:Int)(b:Nat)(h:Int)(o1 m:List Int)(c j g:Nat)(v1:List Int)(v5 n k l:Int)(i:List Int)(f:List Int):Tr:=re ((stepT KM<|L4 v9 d a e b h o1 m).L.L.L.L.L.L.L.L.L.L)<|Ax 186 [(0,.sl 0 1 c j<|Option.some g),(1,.dat (zj<|zw zh) v1),(5,.dat i64 v5),(6,.dat (zw zh) n),(7,.dat (zw zh) k),(8,.dat (zw zh) l)] [(1,.arr false 217 (zw zh) i),(0,.arr false 217 (zw zh) f)] 2
def L6[Srt](v9:Int)(a:Nat)(c:Int)(b:Nat)(d e:Int)(o1 f:List Int):Tr:=re ((stepT KM<|L4 0 [] 0 0 0 0 [] []).R)<|Ax 137 [(9,.dat i64 v9),(11,.sl 0 1 0 a none),(12,.dat i64 c),(13,.sl 1 1 0 b none),(96,.dat i64 d),(97,.dat i64 e)] [(1,.arr false 217 (zw zh) o1),(0,.arr false 217 (zw zh) f)] 2
theorem B1[Srt](v9:Int)(c:List Int)(a:Nat)(e:Int)(d:Nat)(b:Int)(o1 f:List Int):stepT KM (L4 v9 c a e d b o1 f)=let g:=(length c:Int);let h:=zr 0<|toNat b;let p:=qt (yg none a)<|toNat b;let p':=zc .i64 (b+e)+1;let k:=toNat<|zc .i64<|g-1;let n:=zc .i64 p';let h':=zr (toNat g) h;let l':=decide (zr (toNat g) h<length f);let n':=decide (0<=zc .i64 (g-1));let b':=qt (toNat n)<|toNat b;let m:=n'&&decide (zc .i64 (g-1)<g);let j:=getD f (zr k h) 0;let i:=getD c k 0;let o':=decide (zr k h<length f);let l:=getD f h' 0;let o:=n'&&decide (zc .i64 (g-1)<(↑b':Int));let q:=decide (0<=g)&&decide (g<(↑b':Int));.di (b>=0) (.ck (decide (0<=b)&&decide (0<=zc .i64 p')&&true&&decide (toNat b<=toNat n)&&decide (toNat n<=yg none a)&&decide (yg none a<=yg none a)&&true)<|.ck q<|.ck l'<|.ck m<|.di (getD f h' 0>=getD c k 0) (.ck o<|.ck o'<|.ck m<|.ck (zx j&&zx i&&decide ((0:Sh.T (By [u64]))<=0)&&decide (0<=(1:Sh.T (By [u64]))))<|L5 v9 c a e d b o1 f h b' p c g 18446744073709551615 (IN j i 0) (RG j i 0) o1 f)<|.ck q<|.ck l'<|.ck o<|.ck o'<|.ck m<|.ck (zx l&&zx j&&zx i&&decide (getD f h' 0<getD c k 0))<|L5 v9 c a e d b o1 f h b' p c g (Sp.dq l j i) (Sp.dr l j i) 0 o1 f) (L6 v9 a e d e 0 o1 f):=by kernel_rfl
def L7[Srt](v9:Int)(h:List Int)(d:Nat)(i:Int)(e:Nat)(m:Int)(o1 o:List Int)(g n l:Nat)(v1:List Int)(v5 p j:Int)(a:Int)(b c:Int)(f:List Int)(k:List Int):Tr:=re ((stepT KM<|L5 v9 h d i e m o1 o 0 0 0 [] 0 0 0 0 [] []).L.L.L.L)<|Ax 186 [(0,.sl 0 1 g n<|Option.some l),(1,.dat (zj<|zw zh) v1),(5,.dat i64 v5),(6,.dat (zw zh) p),(11,.dat (zw zh) j),(12,.dat (zw zh) a),(104,.dat i64 b),(105,.dat i64 c)] [(1,.arr false 217 (zw zh) f),(0,.arr false 217 (zw zh) k)] 2
theorem D0[Srt](v9:Int)(g:List Int)(c:Nat)(h:Int)(d:Nat)(j:Int)(o1 p:List Int)(a e i:Nat)(v1:List Int)(v5 k l q:Int)(f:List Int)(b:List Int):stepT KM (L5 v9 g c h d j o1 p a e i v1 v5 k l q f b)=let b':=toNat<|zc .i64<|v5-2;let o:=L7 v9 g c h d j o1 p a e i v1 v5 k 0 0 v5 0 f b;let n:=getD v1 (toNat<|zc .i64<|v5-1) 0;let s:=decide (0<=zc .i64 (v5-2));let r:Tr:=.ck (decide (0<=zc .i64 (v5-1))&&decide (zc .i64 (v5-1)<(length v1:Int)))<|.ck (zx l&&zx n&&decide ((0:Sh.T (By [u64]))<=0)&&decide (0<=(1:Sh.T (By [u64]))))<|L5 v9 g c h d j o1 p a e i v1 v5 (zc .u64<|k-1) (IN l n 0) (RG l n 0) f b;let m:=getD v1 b' 0;.ite (q==0) (.ck (s&&decide (zc .i64 (v5-2)<(length v1:Int)))<|.ck (zx k&&zx m)<|.di (SB k m<l) o<|.ite (SB k m==l) (.ck (s&&decide (zc .i64 (v5-2)<(↑e:Int)))<|.cd (zr b' a<length b)<|.di (I4 k m<=getD b (zr b' a) 0) o r) r) o:=by kernel_rfl
theorem EW[Srt](v9:Int)(b:Nat)(d:Int)(c:Nat)(e a:Int)(o1 f:List Int):stepT KM (L6 v9 b d c e a o1 f)=let g:=set f (toNat a)<|qf (getD f (toNat a) 0)<|2^qc (toNat v9) 64;let b':=decide (0<=a)&&decide (a<(↑b:Int));let h:=zc .i64<|a+1;let i:=decide (zc .i64 (a+1)<(↑b:Int));let k:=decide (toNat a<length f);let h':=zj<|zw zh;let l:=L6 v9 b d c e h o1 g;let j:=decide (toNat a<length g);.di (a<e) (.ck b'<|.ck k<|.cd (0<=v9)<|.ck b'<|.ck k<|.di (v9>0) (.ite i (.ck b'<|.ck j<|.ck (decide (0<=zc .i64 (a+1))&&i)<|.cd (toNat h<length g)<|.cd (0<=zc .i64 (64-v9))<|.ck b'<|.ck j<|L6 v9 b d c e h o1<|set g (toNat a)<|eH zh (getD g (toNat a) 0)<|zc .u64<|getD g (toNat h) 0*2^qc (toNat<|zc .i64<|64-v9) 64) l) l) (.ck (decide (0<=d)&&true&&decide (0<=toNat d)&&decide (toNat d<=yg none b)&&decide (yg none b<=yg none b)&&true)<|.ck (decide (0+c<=length o1)&&true&&Db (take c o1))<|.ck (decide (0+toNat d<=length f)&&true&&Db (take (toNat d) f))<|.leaf (.tup [.dat h'<|AD<|take c o1,.dat h'<|AD<|take (toNat d) f]) []):=by kernel_rfl
def L8[Srt](v9:Int)(h:List Int)(b:Nat)(i:Int)(d:Nat)(l:Int)(o1 n:List Int)(g m k:Nat)(v1:List Int)(v5 o e c a:Int)(f:List Int)(j:List Int):Tr:=re ((stepT KM<|L7 v9 h b i d l o1 n 0 0 0 [] 0 0 0 0 0 0 [] []).R.L.L.L.L.L.R)<|Ax 186 [(0,.sl 0 1 g m<|Option.some k),(1,.dat (zj<|zw zh) v1),(5,.dat i64 v5),(6,.dat (zw zh) o),(17,.dat (zw zh) e),(156,.dat i64 c),(157,.dat i64 a)] [(1,.arr false 217 (zw zh) f),(0,.arr false 217 (zw zh) j)] 2
theorem DY[Srt](v9:Int)(l:List Int)(h:Nat)(m:Int)(e:Nat)(d:Int)(o1 v:List Int)(f k n:Nat)(v1:List Int)(v5 o c:Int)(b:Int)(j a:Int)(i:List Int)(g:List Int):stepT KM (L7 v9 l h m e d o1 v f k n v1 v5 o c b j a i g)=let b':=zr (toNat v5) f;let p:=getD v1 (toNat a) 0;let w:=decide (zr (toNat a) f<length g);let y:=decide (zr (toNat v5) f<length g);let h':=decide (0<=a)&&decide (a<(↑k:Int));let r:=(0:Sh.T (By [u64]));let q:=(1:Sh.T (By [u64]));let x:=decide (0<=v5)&&decide (v5<(↑k:Int));let n':=zr (toNat a) f;let s:=I4 o p;let t:=getD g n' 0;let u:=getD g b' 0;let z:=set g b'<|VB u b c;let l':=IN s b 0;.di (a<j) (.ck (decide (0<=a)&&decide (a<(length v1:Int)))<|.ck (zx o&&zx p)<|.ck (zx s&&zx b&&decide (r<=0)&&decide (0<=q))<|.ck h'<|.ck w<|.ck (zx t&&zx l'&&decide (r<=c)&&decide (c<=q))<|.ck h'<|.ck w<|L7 v9 l h m e d o1 v f k n v1 v5 o (RX t l' c) (zc .u64<|SB o p+RG s b 0) j (zc .i64<|a+1) i<|set g n'<|VB t l' c) (.ck x<|.ck y<|.ck (zx u&&zx b&&decide (r<=c)&&decide (c<=q))<|.ck x<|.ck y<|.ite (RX u b c==0) (.ck (decide (0<=d)&&decide (d<(↑e:Int)))<|.cd (toNat d<length i)<|L4 v9 l h m e (zc .i64<|d-1) (set i (toNat d) o) z)<|L8 v9 l h m e d o1 v f k n v1 v5 o 0 v5 0 i z):=by kernel_rfl
theorem HG[Srt](v9:Int)(k:List Int)(g:Nat)(l:Int)(d:Nat)(c:Int)(o1 t:List Int)(f j m:Nat)(v1:List Int)(v5 p e h a:Int)(i:List Int)(b:List Int):stepT KM (L8 v9 k g l d c o1 t f j m v1 v5 p e h a i b)=let b':=decide (zr (toNat a) f<length b);let n:=getD v1 (toNat a) 0;let q:=decide (zr (toNat v5) f<length b);let s:=decide (0<=a)&&decide (a<(↑j:Int));let r:=decide (0<=v5)&&decide (v5<(↑j:Int));let u:=zr (toNat a) f;let h':=zr (toNat v5) f;let o:=getD b u 0;.di (a<h) (.ck s<|.ck b'<|.ck (decide (0<=a)&&decide (a<(length v1:Int)))<|.ck (zx o&&zx n&&decide ((0:Sh.T (By [u64]))<=e)&&decide (e<=(1:Sh.T (By [u64]))))<|.ck s<|.ck b'<|L8 v9 k g l d c o1 t f j m v1 v5 p (RG o n e) h (zc .i64<|a+1) i<|set b u<|IN o n e) (.ck r<|.ck q<|.ck r<|.ck q<|.ck (decide (0<=c)&&decide (c<(↑d:Int)))<|.cd (toNat c<length i)<|L4 v9 k g l d (zc .i64<|c-1) (set i (toNat c)<|zc .u64<|p-1)<|set b h'<|zc .u64<|getD b h' 0+e):=by kernel_rfl
end T210
end
namespace T210
theorem dqr{r x d:Int}(a:0<d)(hr:0<=r/\r<d)(b:0<=x/\x<18446744073709551616):Sp.dq r x d*d+Sp.dr r x d=r*18446744073709551616+x/\0<=Sp.dq r x d/\Sp.dq r x d<18446744073709551616/\0<=Sp.dr r x d/\Sp.dr r x d<d:=by
 unfold Sp.dq Sp.dr;have h:=z8 (r*18446744073709551616+x) d;rw[zm]at h;refine⟨h,y9 ae ae,yz a ae,yo _ ae,yk _ a⟩
theorem Au[Srt](a:List Int)(d:Int)(j:AA Ar a)(f:0<d/\d<18446744073709551616)(s:a.length<=20000)(g:∀q r ob,AA Ar q->(0<=r/\r<d)->Aw a=Aw q*d+r->Q (.tup [.dat Du<|AD q,.dat Du<|AD [r]]) ob):∀(i:Nat) (q:List Int) (r:Int),i+q.length=a.length->AA Ar q->(0<=r/\r<d)->ze Ar (a.drop i)=ze Ar q*d+r->
  Ends KM (L1 a [d] a.length r ((i:Int)-1)<|zn i 0++q) Q
 |0,q,r,p,b,hr,e=>by
  have l:((zn 0 0++q).take a.length)=q:=by
   rw[List.replicate_zero,List.nil_append];exact zz ae
  refine yb (Ak ..) (qd (by simp) ?_);rw[l];refine zd (Ab (by simp;omega)<|EG ae b) (zd (Ab rfl (EG (by simp)<|fun x c=>by rw[List.mem_singleton]at c;subst c;exact⟨hr.1,by show x<18446744073709551616;omega⟩))<|yp<|g q r _ b hr e)
 |i+1,q,r,p,b,hr,e=>by
  have u:(((i+1:Nat):Int)-1)=(i:Int):=ae
  have h:=A0 j i;obtain⟨v,m,k,t,o⟩:=dqr f.1 hr<|yw h;have n:a.drop i=a.getD i 0::a.drop (i+1):=by
   rw[zt,yi ae];exact ql ae
  have es:∀x,(zn (i+1) (0:Int)++q).set i x=zn i 0++(x::q):=by
   intro x;rw[List.replicate_succ',yc];exact DF _ _ _ _ (by simp)
  rw[u];refine yb (Ak ..) (zd (by simp) ?_);rw[zf,es,wr ((i:Int)-1) ae ae];refine zd (by simp;omega) (zd (by simp) (zd ?_<|zd (by simp;omega)<|zd (by simp;omega) ?_))
  ·exact Ab (Ab (Ab (C4 hr.1 ae) h)<|C4 (by show 0<=d;omega) f.2)<|w4 hr.2
  ·refine Au a d j f s g i _ _ (by simp;omega) (fun x c=>?_) ⟨t,o⟩ ?_
   ·rcases List.mem_cons.1 c with rfl|c
    ·exact⟨m,k⟩
    ·exact b x c
   ·rw[n];show a.getD i 0+(18446744073709551616:Int)*ze Ar (a.drop<|i+1)=(Sp.dq r (a.getD i 0) d+(18446744073709551616:Int)*ze Ar q)*d+Sp.dr r (a.getD i 0) d;rw[e,z6,zq,zk];omega
end T210
end Go.Pe
namespace Go.Sp
theorem VU{B P u0 u1 u2 a v1 v2 v' q r:Int}(g:0<P)(f:0<=v')(k:a<P)(i:0<=q)(b:q*v1+r=u0*B+u1)(h:r*B+u2<q*v2):
  ((u0*B+u1)*B+u2)*P+a<q*((v1*B+v2)*P+v'):=by
 have e:q*(v1*B+v2)=q*v1*B+q*v2:=by rw[zq,zk]
 have d:(u0*B+u1)*B=q*v1*B+r*B:=by rw[<-b,z6]
 have c:(u0*B+u1)*B+u2+1<=q*(v1*B+v2):=by rw[e,d];omega
 have j:=zg c<|zo g;have l:0<=q*v':=z7 i f;rw[zq q, <-zk];rw[z6,zy]at j;omega
theorem Xx{B P u0 u1 u2 c v1 v2 v' q r:Int}(b:0<P)(l:0<=v'/\v'<P)(n:0<=c)(g:0<=q/\q<B)(a:1<=v1)(j:0<=v2)(d:q*v1+r=u0*B+u1)(h:q*v2<=r*B+u2):
  q*((v1*B+v2)*P+v')<((u0*B+u1)*B+u2)*P+c+((v1*B+v2)*P+v'):=by
 have e:q*(v1*B+v2)=q*v1*B+q*v2:=by rw[zq,zk]
 have i:(u0*B+u1)*B=q*v1*B+r*B:=by rw[<-d,z6]
 have f:q*(v1*B+v2)<=(u0*B+u1)*B+u2:=by rw[e,i];omega
 have o:=zg f<|zo b;have m:q*v'<=(B-1)*P:=Int.le_trans (zl (zo l.2) g.1) (zg ae<|zo b);have k:B<=v1*B+v2:=by
  have:=zg a (show 0<=B by omega);omega
 have p:=zg k<|zo b;rw[qn,zy]at m;rw[zq q, <-zk];omega
theorem Ih(b:Int):∀(l:List Int) (i:Nat) (x:Int),i<l.length->val b (l.set i x)=val b l+b^i*(x-l.getD i 0)
 |[],i,x,h=>by simp at h
 |d::l,0,x,_=>by
  show x+b*val b l=d+b*val b l+b^0*(x-d);rw[yd,zy];omega
 |d::l,i+1,x,h=>by
  have:=Ih b l i x (by simpa using h);show d+b*val b (l.set i x)=d+b*val b l+b^(i+1)*(x-l.getD i 0);rw[this,zq,zp,zm (b^i) b,zk,y7]
theorem HR{b:Int}{l:List Int}(h:AA b l)(i:Nat){x:Int}(c:0<=x/\x<b):AA b (l.set i x):=by
 intro d a;rcases List.mem_or_eq_of_mem_set a with a|rfl
 ·exact h d a
 ·exact c
theorem Hd{b:Int}{l r:List Int}(c:AA b l)(e:AA b r):AA b (l++r):=by
 intro d a;rcases qv.1 a with a|a
 ·exact c d a
 ·exact e d a
theorem LA{b:Int}(c:0<b){l:List Int}(h:AA b l)(i:Nat):0<=l.getD i 0/\l.getD i 0<b:=by
 rcases Nat.lt_or_ge i l.length with a|a
 ·have:l.getD i 0∈l:=by rw[zt,yi a];exact List.getElem_mem a
  exact h _ this
 ·rw[zt,List.getElem?_eq_none a];exact⟨qo _,c⟩
theorem Cz{l:List Int}{i:Nat}(h:i<l.length):l.drop i=l.getD i 0::l.drop (i+1):=by
 rw[zt,yi h];exact ql h
theorem HA(p r:List Int)(i j:Nat)(h:p.length=j):(p++r).getD (i+j) 0=r.getD i 0:=by
 subst h;rw[zt,zt,List.getElem?_append_right ae,qg]
theorem Vt(p r:List Int)(i j:Nat)(x:Int)(h:p.length=j):(p++r).set (i+j) x=p++r.set i x:=by
 subst h;rw[List.set_append_right _ _ ae,qg]
theorem AbL(b:Int)(r:List Int)(k:Nat)(d:k+3<=r.length)(f:val b (r.drop<|k+3)=0):
  val b r=((r.getD (k+2) 0*b+r.getD (k+1) 0)*b+r.getD k 0)*b^k+val b (r.take k):=by
 have a:b^(k+1)=b^k*b:=zp ..;have c:b^(k+2)=b^k*b*b:=by rw[<-a];exact zp ..
 rw[CB b r (k+3) d,f,AK,AK,AK,a,c,yt,qe];generalize b^k=P;generalize r.getD (k+2) 0=x;generalize r.getD (k+1) 0=y;generalize r.getD k 0=z;have i:P*b*b*x=x*b*b*P:=by rw[zm (P*b*b) x,zm P b,zk b P b,zm P b, <-zk, <-zk]
 have h:P*b*y=y*b*P:=by rw[zm (P*b) y,zm P b,zk]
 have g:P*z=z*P:=zm _ _;have e:((x*b+y)*b+z)*P=x*b*b*P+y*b*P+z*P:=by rw[z6,z6,z6]
 rw[e];omega
theorem Aas(b:Int)(v:List Int)(k:Nat)(e:v.length=k+2):
  val b v=(v.getD (k+1) 0*b+v.getD k 0)*b^k+val b (v.take k):=by
 have h0:val b (v.drop<|k+2)=0:=by rw[List.drop_eq_nil_of_le ae];rfl
 have a:b^(k+1)=b^k*b:=zp ..;rw[CB b v (k+2) ae,h0,AK,AK,a,yt,qe];generalize b^k=P;generalize v.getD (k+1) 0=y;generalize v.getD k 0=z;have d:P*b*y=y*b*P:=by rw[zm (P*b) y,zm P b,zk]
 have c:P*z=z*P:=zm _ _;rw[d,c,z6];omega
theorem lK{b:Int}(g:2<=b){v:List Int}(c:AA b v)(e:nz v){k:Nat}(d:b^k<=val b v)(f:val b v<b^(k+1)):v.length=k+1:=by
 have hp:=Bj (show 0<b by omega) k;have a:v≠[]:=by rintro rfl;simp[val]at d;omega
 have a1:=Bz ae c;have a2:=Dw ae c e a;rcases Nat.lt_trichotomy v.length (k+1)with h|h|h
 ·have:=AT (show 1<=b by omega) (show v.length<=k by omega);omega
 ·exact h
 ·have:=AT (show 1<=b by omega) (show k+1<=v.length-1 by omega);omega
theorem Kq{b:Int}(e:2<=b){r:List Int}(a:AA b r){n:Nat}(c:n<=r.length)(h:val b r<b^n):val b (r.drop n)=0:=by
 have h0:=AH (show 0<=b by omega)<|E0 a n;have d:=AH (show 0<=b by omega)<|AS a n;rw[CB b r n c]at h;have hp:=Bj (show 0<b by omega) n;rcases ym 0 (val b<|r.drop n)with g|g
 ·have:=zl (show 1<=val b (r.drop n)by omega) (show 0<=b^n by omega);omega
 ·omega
theorem SI{b:Int}(d:2<=b){r:List Int}(c:AA b r){n:Nat}(a:n<=r.length)(h:val b (r.drop n)=0):val b r<b^n:=by
 have:=Bz (show 0<b by omega)<|AS c n;rw[yj,yx a]at this;rw[CB b r n a,h];omega
theorem nG{b c d x y X:Int}(l:0<c)(g:b=c*d):(x+b*(y+b*X))/c=(x/c+(y % c)*d)+b*((y+b*X)/c):=by
 subst g;have a:(x+c*d*(y+c*d*X))/c=x/c+d*(y+c*d*X):=by
  rw[zk c d,Int.add_mul_ediv_left _ _ ae]
 have h:(y+c*d*X)/c=y/c+d*X:=by
  rw[zk c d,Int.add_mul_ediv_left _ _ ae]
 have k:=z8 y c;rw[a,h];have j:d*(y+c*d*X)=d*(c*(y/c)+y % c+c*d*X):=by rw[k]
 rw[j,zq,zq,zq<|c*d];have f:d*(c*(y/c))=c*d*(y/c):=by rw[<-zk,zm d c]
 have e:d*(y % c)=(y % c)*d:=zm _ _;have i:d*(c*d*X)=c*d*(d*X):=by rw[<-zk,zm d<|c*d,zk]
 rw[f,e,i];omega
theorem Xh{b c d x k:Int}(j:0<c)(a:0<d)(g:b=c*d)(o:0<=k/\k<c)(f:0<=x/\x<b):
  (x*c) % b=(x % d)*c/\(x % d)*c+k<b/\0<=(x % d)*c/\0<=x/d/\x/d<c/\(x % d)*c+b*(x/d)=x*c:=by
 subst g;have i:=z8 x d;have h:=yo x (show d≠0 by omega);have n:=yk x a;have q0:0<=x/d:=y9 f.1 ae;have q1:x/d<c:=yz a (by have:=f.2;omega);have p0:0<=(x % d)*c:=z7 h ae;have m:(x % d)*c<=(d-1)*c:=zg ae ae;have l:(d-1)*c=c*d-c:=by rw[qn,zy,zm]
 have e:(x % d)*c+c*d*(x/d)=x*c:=by
  conv=>rhs;rw[<-i]
  rw[z6,zk c d,zm c<|d*(x/d)];omega
 refine⟨?_,by omega,p0,q0,q1,e⟩;rw[<-e,Int.add_mul_emod_self_left];exact Int.emod_eq_of_lt p0 ae
theorem Oa{B P u0 u1 u2 b v1 v2 v' q r:Int}(c:0<P)(f:0<B)(o:0<=q)(k:0<=v')(a:0<=v2)(m:b<P)(g:u2<B)(n:q*v1+r=u0*B+u1)(h:r<v1):
  ((u0*B+u1)*B+u2)*P+b<(q+1)*((v1*B+v2)*P+v'):=by
 have d:u0*B+u1+1<=(q+1)*v1:=by rw[z6,zy];omega
 have i:=zg d<|zo f;have l:(u0*B+u1)*B+u2+1<=(q+1)*v1*B:=by
  rw[z6,zy]at i;omega
 have j:=zg l<|zo c;rw[z6,zy]at j;have s:0<=(q+1)*(v2*P):=z7 ae<|z7 a<|zo c;have p:0<=(q+1)*v':=z7 ae k;have e:(q+1)*((v1*B+v2)*P+v')=(q+1)*v1*B*P+(q+1)*(v2*P)+(q+1)*v':=by
  rw[z6<|v1*B,zq,zq];congr 2;rw[zk,zk,zk]
 rw[e];omega
end Go.Sp
namespace Go.Pe
open Sp
open Go.Det
theorem WY{q x y c b:Int}(d:zx q=true)(e:zx x=true)(j:zx y=true)(g:zx c=true)(i:0<=b/\b<=1):
  zx (I4 q x)=true/\zx (IN (I4 q x) c 0)=true/\zc .u64 (SB q x+RG (I4 q x) c 0)=(q*x+c)/18446744073709551616/\zx ((q*x+c)/18446744073709551616)=true/\
  zx (VB y (IN (I4 q x) c 0) b)=true/\(0<=RX y (IN (I4 q x) c 0) b/\RX y (IN (I4 q x) c 0) b<=1)/\
  c+b+(VB y (IN (I4 q x) c 0) b-y)=18446744073709551616*((q*x+c)/18446744073709551616+RX y (IN (I4 q x) c 0) b)-q*x:=by
 have d:=yw d;have e:=yw e;have g:=yw g;have h0:0<=q*x:=z7 d.1 e.1;have k:q*x<=18446744073709551615*18446744073709551615:=by
  have a:=zl (show x<=18446744073709551615 by omega) d.1;have b:=zg (show q<=18446744073709551615 by omega) (show(0:Int)<=18446744073709551615 by omega);omega
 have f:zx (IN (I4 q x) c 0)=true:=by unfold IN;exact C4 ae ae
 obtain⟨s1,s2,s3⟩:=Sp.HK j f i;refine⟨?_,f,?_,?_,s1,s2,?_⟩
 ·unfold I4;exact C4 ae ae
 ·unfold I4 SB RG;rw[MS];generalize q*x=P at*;omega
 ·generalize q*x=P at*;exact C4 ae ae
 ·generalize RX y (IN (I4 q x) c 0) b=h at*;generalize VB y (IN (I4 q x) c 0) b=l at*;unfold IN I4 at s3;generalize q*x=P at*;omega
namespace T210
theorem gw{lo r:List Int}{j:Nat}(h:lo.length=j)(i:Nat):(lo++r).getD (zr i j) 0=r.getD i 0:=HA lo r i j h
theorem sw{lo r:List Int}{j:Nat}(h:lo.length=j)(i:Nat)(x:Int):(lo++r).set (zr i j) x=lo++r.set i x:=Vt lo r i j x h
theorem lw{lo r:List Int}{j i:Nat}(h:lo.length=j)(a:i<r.length):decide (zr i j<(lo++r).length)=true:=by
 refine w4 ?_;show i+j<_;rw[List.length_append];omega
theorem J5(r:List Int)(i n:Nat)(x:Int)(h:i<n):(r.set i x).drop n=r.drop n:=by
 rw[List.drop_set,wd h]
theorem CH[Srt](v9:Int)(l:List Int)(f:Nat)(o:Int)(a:Nat)(o1 F:List Int)(s:Nat)(v:List Int)(n j:Nat)(lo:List Int)(m:Nat)(q W:Int)(g:List Int)
  (Z:v.length=n) (C:n<=9000) (P:n+1<=m) (d:lo.length=j) (J:j<a) (y:j<g.length) (N:AA Ar v) (H:zx q=true)
  (h0:∀r:List Int,r.length=m->AA Ar r->ze Ar (r.drop<|n+1)=0->ze Ar r=W-q*ze Ar v->Ends KM (L4 v9 l f o a (zc .i64<|(j:Int)-1) (g.set j q)<|lo++r) Q)
  (K:∀r:List Int,r.length=m->AA Ar r->ze Ar (r.drop<|n+1)=0->ze Ar r=W-q*ze Ar v+(Ar:Int)^(n+1)->Ends KM (L8 v9 l f o a j o1 F j (n+1) s v n q 0 n 0 g<|lo++r) Q):
  ∀(k i:Nat) (r:List Int) (b c:Int),i+k=n->r.length=m->AA Ar r->ze Ar (r.drop<|n+1)=0->zx c=true->(0<=b/\b<=1)->ze Ar r=W-q*ze Ar (v.take i)+(Ar:Int)^i*(c+b)->
   Ends KM (L7 v9 l f o a j o1 F j (n+1) s v n q b c n i g<|lo++r) Q
 |0,i,r,b,c,I,hr,u,G,w,p,D=>by
  have I:i=n:=ae
  subst I;have A:=A0 u i;obtain⟨s1,s2,s3⟩:=Sp.HK A w p;have h:decide (zr i j<(lo++r).length)=true:=lw d ae;have t1:(decide ((0:Int)<=(i:Int))&&decide ((i:Int)<((i+1:Nat):Int)))=true:=by simp;omega
  have E:v.take i=v:=zz ae;have z:∀x:Int,0<=x/\x<18446744073709551616->(r.set i x).length=m/\AA Ar (r.set i x)/\ze Ar ((r.set i x).drop<|i+1)=0:=fun x Y=>
   ⟨by simp[hr],HR u i Y,by rw[J5 _ _ _ _ ae];exact G⟩
  obtain⟨O,B,L⟩:=z _<|yw s1;have ev:ze Ar (r.set i<|VB (r.getD i 0) c b)=W-q*ze Ar v+(Ar:Int)^(i+1)*RX (r.getD i 0) c b:=by
   rw[Ih _ _ _ _ ae,D,E,Ms,y7, <-zq];congr 2;omega
  refine yb (DY ..) (qd (by simp) ?_);rw[zf,zf,gw d,sw d];refine zd t1<|zd h<|zd (Ab (Ab (Ab A w)<|w4 p.1)<|w4 p.2)<|zd t1<|zd h<|ya (fun t=>?_)<|fun t=>?_
  ·have t:RX (r.getD i 0) c b=0:=by simpa using t
   refine zd (by simp;omega)<|zd (w4 y)<|h0 _ O B L ?_;rw[ev,t,yt,qe]
  ·have t:RX (r.getD i 0) c b≠0:=by simpa using t
   refine K _ O B L ?_;rw[ev,show RX (r.getD i 0) c b=1 by omega,qp]
 |k+1,i,r,b,c,I,hr,u,G,w,p,D=>by
  have M:=A0 N i;have A:=A0 u i;obtain⟨V,m2,R,S,X,T,U⟩:=WY H M A w p;have h:decide (zr i j<(lo++r).length)=true:=lw d ae;have t1:(decide ((0:Int)<=(i:Int))&&decide ((i:Int)<((n+1:Nat):Int)))=true:=by simp;omega
  have B:=wn (i:=i) ae;refine yb (DY ..) (zd (by simp;omega) ?_);rw[zf,gw d,sw d,R,B];refine zd (by simp;omega)<|zd (Ab H M)<|zd (Ab (Ab (Ab V w) rfl) rfl)<|zd t1<|zd h<|zd (Ab (Ab (Ab A m2)<|w4 p.1)<|w4 p.2)<|zd t1<|zd h ?_;refine CH v9 l f o a o1 F s v n j lo m q W g Z C P d J y N H h0 K k (i+1) _ _ _ ae (by simp[hr]) (HR u i<|yw X) (by rw[J5 _ _ _ _ ae];exact G) S T ?_;rw[Ih _ _ _ _ ae,D,Ms,AK,zq q,yh q];have e:(Ar:Int)^i*(c+b)+(Ar:Int)^i*(VB (r.getD i 0) (IN (I4 q<|v.getD i 0) c 0) b-r.getD i 0)=(Ar:Int)^i*(18446744073709551616*((q*v.getD i 0+c)/18446744073709551616+RX (r.getD i 0) (IN (I4 q<|v.getD i 0) c 0) b))-(Ar:Int)^i*(q*v.getD i 0):=by
   rw[<-zq, <-yy,U]
  omega
theorem Gc[Srt](v9:Int)(o:List Int)(f:Nat)(p:Int)(d:Nat)(o1 G:List Int)(t:Nat)(v:List Int)(n j:Nat)(lo:List Int)(m:Nat)(q W:Int)(l:List Int)
  (N:v.length=n) (A:n<=9000) (L:n+1<=m) (a:lo.length=j) (E:j<d) (u:j<l.length) (J:AA Ar v)
  (hW:0<=W+ze Ar v)
  (h0:∀r:List Int,r.length=m->AA Ar r->ze Ar (r.drop<|n+1)=0->ze Ar r=W+ze Ar v->Ends KM (L4 v9 o f p d (zc .i64<|(j:Int)-1) (l.set j<|zc .u64<|q-1)<|lo++r) Q):
  ∀(k i:Nat) (r:List Int) (c:Int),i+k=n->r.length=m->AA Ar r->ze Ar (r.drop<|n+1)=0->(0<=c/\c<=1)->ze Ar r=W+(Ar:Int)^(n+1)+ze Ar (v.take i)-(Ar:Int)^i*c->
   Ends KM (L8 v9 o f p d j o1 G j (n+1) t v n q c n i l<|lo++r) Q
 |0,i,r,c,D,hr,s,y,w,B=>by
  have D:i=n:=ae
  subst D;have z:=yw<|A0 s i;have h:decide (zr i j<(lo++r).length)=true:=lw a ae;have t1:(decide ((0:Int)<=(i:Int))&&decide ((i:Int)<((i+1:Nat):Int)))=true:=by simp;omega
  have C:v.take i=v:=zz ae;have K:0<=(r.getD i 0+c) % 18446744073709551616/\(r.getD i 0+c) % 18446744073709551616<18446744073709551616:=ae
  have R:(r.set i<|(r.getD i 0+c) % 18446744073709551616).length=m:=by simp[hr]
  have x:AA Ar (r.set i<|(r.getD i 0+c) % 18446744073709551616):=HR s i K;have H:ze Ar ((r.set i<|(r.getD i 0+c) % 18446744073709551616).drop<|i+1)=0:=by rw[J5 _ _ _ _ ae];exact y
  have F:=SI (b:=Ar) af x (n:=i+1) ae H;refine yb (HG ..) (qd (by simp) ?_);rw[zf,zf,gw a,sw a,MS<|r.getD i 0+c];refine zd t1 (zd h<|zd t1<|zd h<|zd (by simp;omega)<|zd (w4 u)<|h0 _ R x H ?_);have hp:=Bj (b:=Ar) af i;rw[Ih _ _ _ _ ae,B,C]at F ⊢;rcases show(r.getD i 0+c) % 18446744073709551616=r.getD i 0+c\/(r.getD i 0+c) % 18446744073709551616=r.getD i 0+c-18446744073709551616 by omega with g|g
  ·exfalso;rw[g,show r.getD i 0+c-r.getD i 0=c by omega]at F;omega
  ·have M:(Ar:Int)^(i+1)=(Ar:Int)^i*18446744073709551616:=zp ..;rw[g,show r.getD i 0+c-18446744073709551616-r.getD i 0=c-18446744073709551616 by omega,yy,M];omega
 |k+1,i,r,c,D,hr,s,y,w,B=>by
  have I:=A0 J i;have z:=A0 s i;obtain⟨P,O,S⟩:=MN z I w;have h:decide (zr i j<(lo++r).length)=true:=lw a ae;have t1:(decide ((0:Int)<=(i:Int))&&decide ((i:Int)<((n+1:Nat):Int)))=true:=by simp;omega
  have x:=wn (i:=i) ae;refine yb (HG ..) (zd (by simp;omega) ?_);rw[zf,gw a,sw a,x];refine zd t1 (zd h (zd (by simp;omega)<|zd (Ab (Ab (Ab z I)<|w4 w.1)<|w4 w.2)<|zd t1<|zd h ?_));refine Gc v9 o f p d o1 G t v n j lo m q W l N A L a E u J hW h0 k (i+1) _ _ ae (by simp[hr]) (HR s i<|yw P) (by rw[J5 _ _ _ _ ae];exact y) O ?_;rw[Ih _ _ _ _ ae,B,Ms,AK];have e:(Ar:Int)^i*(IN (r.getD i 0) (v.getD i 0) c-r.getD i 0)-(Ar:Int)^i*c=(Ar:Int)^i*v.getD i 0-(Ar:Int)^i*(18446744073709551616*RG (r.getD i 0) (v.getD i 0) c):=by
   rw[<-yy, <-yy];congr 1;omega
  omega
theorem zW[Srt](v9:Int)(k:List Int)(f:Nat)(l:Int)(e:Nat)(o1 y:List Int)(p:Nat)(v:List Int)(n j:Nat)(lo:List Int)(m:Nat)(i h:List Int)
  (C:v.length=n) (s:n<=9000) (A:n+1<=m) (u:lo.length=j) (w:j<e) (t:j<h.length) (x:AA Ar v)
  (hr:i.length=m) (z:AA Ar i) (G:ze Ar (i.drop<|n+1)=0)
  (o:∀(q:Int) (r:List Int),r.length=m->AA Ar r->(0<=q/\q<18446744073709551616)->ze Ar r<ze Ar v->ze Ar r=ze Ar i-q*ze Ar v->Ends KM (L4 v9 k f l e (zc .i64<|(j:Int)-1) (h.set j q)<|lo++r) Q)
  (q:Int) (B:zx q=true) (D:ze Ar i<(q+1)*ze Ar v) (P:q*ze Ar v<ze Ar i+ze Ar v):
  Ends KM (L7 v9 k f l e j o1 y j (n+1) p v n q 0 0 n 0 h<|lo++i) Q:=by
 have K:=yw B;have M:=AH (b:=Ar) af z;have E:=AH (b:=Ar) af x;rw[z6,zy]at D;refine CH v9 k f l e o1 y p v n j lo m q (ze Ar i) h C s A u w t x B (fun r a b c d=>o q r a b K ae d) (fun r a b c d=>?_) n 0 i 0 0 ae hr z G af af (by simp[ze]);have N:=SI (b:=Ar) af b (n:=n+1) ae c;have H:1<=q:=by
  rcases ym 0 q with g|g
  ·exact g
  ·have:q=0:=ae
   subst this;rw[qz]at d;omega
 have F:zc .u64 (q-1)=q-1:=wu _ ae ae;refine Gc v9 k f l e o1 y p v n j lo m q (ze Ar i-q*ze Ar v) h C s A u w t x ae (fun I L b' O J=>?_) n 0 r 0 ae a b c af (by rw[d];simp[ze]);rw[F];refine o (q-1) I L b' ae ae ?_;rw[J,qn,zy];omega
theorem Aij(q x:Int):SB q x*18446744073709551616+I4 q x=q*x/\0<=I4 q x/\I4 q x<18446744073709551616:=by
 unfold SB I4;generalize q*x=P;omega
theorem CS[Srt](v9:Int)(n:List Int)(h:Nat)(p:Int)(d:Nat)(o1 E:List Int)(s:Nat)(v:List Int)(k j:Nat)(lo:List Int)(m:Nat)(e i:List Int)
  (S:v.length=k+2) (I:k+2<=9000) (X:k+3<=m) (t:lo.length=j) (M:j<d) (J:j<i.length) (A:AA Ar v)
  (hr:e.length=m) (C:AA Ar e) (O:ze Ar (e.drop<|k+3)=0) (K:1<=v.getD (k+1) 0)
  (y:∀(q:Int) (r:List Int),r.length=m->AA Ar r->(0<=q/\q<18446744073709551616)->ze Ar r<ze Ar v->ze Ar r=ze Ar e-q*ze Ar v->Ends KM (L4 v9 n h p d (zc .i64<|(j:Int)-1) (i.set j q)<|lo++r) Q):
  ∀(f:Nat) (q r o:Int),0<=q->q<f->q<18446744073709551616->zx r=true->(o=0\/o=1)->q*v.getD (k+1) 0+(r+18446744073709551616*o)=e.getD (k+2) 0*18446744073709551616+e.getD (k+1) 0->ze Ar e<(q+1)*ze Ar v->
   Ends KM (L5 v9 n h p d j o1 E j (k+3) s v ((k+2:Nat):Int) q r o i<|lo++e) Q
 |0,q,r,o,h0,hf,_,_,_,_,_=>by omega
 |f+1,q,r,o,h0,hf,Z,l,ho,he,R=>by
  have Y:zx q=true:=C4 h0 Z;have L:=A0 A k;have u:=A0 A<|k+1;have P:=A0 C k;have V:=yw L;have gv1:=yw u;have gu2:=yw P;have gr:=yw l;have hP:=Bj (b:=Ar) af k;have hW:=AbL Ar e k ae O;have hV:=Aas Ar v k S;have U:=AH (b:=Ar) af<|AS C k;have x:=Bz (b:=Ar) af<|AS C k;have G:=AH (b:=Ar) af<|AS A k;have w:=Bz (b:=Ar) af<|AS A k;rw[yj,yx ae]at x w;have exit:q*v.getD k 0<=(r+18446744073709551616*o)*18446744073709551616+e.getD k 0->Ends KM (L7 v9 n h p d j o1 E j (k+3) s v ((k+2:Nat):Int) q 0 0 ((k+2:Nat):Int) 0 i<|lo++e) Q:=by
   intro N;refine zW v9 n h p d o1 E s v (k+2) j lo m e i S I X t M J A hr C O y q Y R ?_;rw[hW,hV];exact Xx hP ⟨G,w⟩ U ⟨h0,Z⟩ K V.1 he N
  have e1:zc .i64 (((k+2:Nat):Int)-2)=(k:Int):=by rw[wr _ ae ae];omega
  have e2:zc .i64 (((k+2:Nat):Int)-1)=((k+1:Nat):Int):=by rw[wr _ ae ae];omega
  obtain⟨w1,w2,w3⟩:=Aij q<|v.getD k 0;have W:decide (zr k j<(lo++e).length)=true:=lw t ae;refine yb (D0 ..)<|ya (fun c=>?_)<|fun c=>?_
  ·have c:o=0:=by simpa using c
   subst c;rw[e1,e2,zf,zf,gw t];refine zd (by simp;omega)<|zd (Ab Y L) ?_;have H:r*18446744073709551616+e.getD k 0<q*v.getD k 0->Ends KM (L5 v9 n h p d j o1 E j (k+3) s v ((k+2:Nat):Int) (zc .u64<|q-1) (IN r (v.getD (k+1) 0) 0) (RG r (v.getD (k+1) 0) 0) i<|lo++e) Q:=by
    intro N;obtain⟨a1,a2,a3⟩:=MN l u (c:=0) af;have hq1:1<=q:=by
     rcases ym 0 q with g|g
     ·exact g
     ·have:q=0:=ae
      subst this;rw[qz]at N;omega
    rw[wu (q-1) ae ae];refine CS v9 n h p d o1 E s v k j lo m e i S I X t M J A hr C O K y f (q-1) _ _ ae ae ae a1 ae ?_ ?_
    ·rw[qn,zy,a3];omega
    ·have T:q*v.getD (k+1) 0+r=e.getD (k+2) 0*18446744073709551616+e.getD (k+1) 0:=ae
     have:=VU (B:=Ar) (u0:=e.getD (k+2) 0) (u1:=e.getD (k+1) 0) (u2:=e.getD k 0) hP G x h0 (v1:=v.getD (k+1) 0) (v2:=v.getD k 0) (r:=r) T N;rw[<-hW, <-hV]at this;rw[show q-1+1=q by omega];exact this
   refine ya (fun D=>exit ?_) (fun D=>ya (fun z=>zd (by simp;omega)<|zd W<|ya (fun F=>exit ?_)<|fun F=>zd (by simp;omega)<|zd (Ab (Ab (Ab l u) rfl) rfl)<|H ?_) (fun z=>zd (by simp;omega)<|zd (Ab (Ab (Ab l u) rfl) rfl)<|H ?_))
   ·have D:=w6 D;omega
   ·have z:SB q (v.getD k 0)=r:=by simpa using z
    have F:=w6 F;omega
   ·have z:SB q (v.getD k 0)=r:=by simpa using z
    have F:=w7 F;omega
   ·have D:=w7 D;have z:SB q (v.getD k 0)≠r:=by simpa using z
    omega
  ·have c:o≠0:=by simpa using c
   refine exit ?_;have a:=zl (show v.getD k 0<=18446744073709551615 by omega) h0;omega
theorem Cc[Srt](s:Int)(v:List Int)(k f:Nat)(E:v.length=k+2)(T:f<=9000)(P:k+2<=f)(w:AA Ar v)(D:1<=v.getD (k+1) 0)(W0:Int)
  (hq:∀u e:List Int,u.length=f+1->AA Ar u->AA Ar e->ze Ar u<ze Ar v->e.length=f-(k+2)+1->W0=ze Ar u+ze Ar v*ze Ar e->Ends KM (L6 s (f+1) ((k+2:Nat):Int) (f-(k+2)+1) ((k+2:Nat):Int) 0 e u) Q):
  ∀(t:Nat) (u e:List Int),t+e.length=f-(k+2)+1->u.length=f+1->AA Ar u->AA Ar e->ze Ar (u.drop t)<ze Ar v->W0=ze Ar u+ze Ar v*((Ar:Int)^t*ze Ar e)->
   Ends KM (L4 s v (f+1) ((k+2:Nat):Int) (f-(k+2)+1) ((t:Int)-1) (zn t 0++e) u) Q
 |0,u,e,hl,X,N,C,A,he=>by
  refine yb (B1 ..) (qd (by simp) ?_);exact hq u e X N C A ae (by rw[he,yd,zy])
 |j+1,u,e,hl,X,N,C,A,he=>by
  obtain⟨lo,r,rfl,g⟩:∃lo r:List Int,u=lo++r/\lo.length=j:=⟨u.take j,u.drop j,(List.take_append_drop j u).symm,by rw[yj];omega⟩;have J:AA Ar lo:=fun d h=>N d<|qv.2<|.inl h
  have a:AA Ar r:=fun d h=>N d<|qv.2<|.inr h
  have L:r.length=f+1-j:=by rw[List.length_append]at X;omega
  have m:∀z:List Int,(lo++z).drop j=z:=fun z=>by rw[<-g];exact List.drop_left
  have V:r=r.getD 0 0::r.drop 1:=by
   have:=Cz (l:=r) (i:=0) ae;rw[List.drop_zero]at this;exact this
  have Y:(lo++r).drop (j+1)=r.drop 1:=by rw[Nat.add_comm j 1,Nat.add_comm 1 j, <-List.drop_drop,m]
  rw[Y]at A;have g0:=LA (b:=Ar) af a 0;have Z:ze Ar r=r.getD 0 0+18446744073709551616*ze Ar (r.drop 1):=by
   conv=>lhs;rw[V]
   rfl
  have M:=Bz (b:=Ar) af w;rw[E]at M;have g0:0<=r.getD 0 0/\r.getD 0 0<18446744073709551616:=g0;have R:ze Ar r<18446744073709551616*ze Ar v:=by rw[Z];omega
  have O:ze Ar (r.drop<|k+3)=0:=by
   refine Kq (b:=Ar) af a ae ?_;have ep:(Ar:Int)^(k+3)=(Ar:Int)^(k+2)*18446744073709551616:=zp ..;rw[ep];omega
  have K:=A0 a<|k+2;have n:=A0 a<|k+1;have uu2:=A0 a k;have o:=A0 w<|k+1;have gu0:=yw K;have gu1:=yw n;have W:=yw uu2;have gv1:=yw o;have U:=yw<|A0 w k;have hP:=Bj (b:=Ar) af k;have hW:=AbL Ar r k ae O;have hV:=Aas Ar v k E;have hu':=AH (b:=Ar) af<|AS a k;have y:=Bz (b:=Ar) af<|AS a k;have S:=AH (b:=Ar) af<|AS w k;rw[yj,yx ae]at y;have hle:r.getD (k+2) 0<=v.getD (k+1) 0:=by
   have a1:=CB Ar (r.drop 1) (k+1) (by rw[List.length_drop];omega);have a2:(r.drop 1).drop (k+1)=r.getD (k+2) 0::r.drop (k+3):=by
    rw[List.drop_drop,show 1+(k+1)=k+2 by omega];exact Cz ae
   have a3:ze Ar (r.getD (k+2) 0::r.drop (k+3))=r.getD (k+2) 0:=by
    show r.getD (k+2) 0+(Ar:Int)*ze Ar (r.drop<|k+3)=_;rw[O];omega
   rw[a2,a3]at a1;have b1:ze Ar v=ze Ar (v.take<|k+1)+(Ar:Int)^(k+1)*v.getD (k+1) 0:=by
    rw[<-AK,zz ae]
   have H:=Bz (b:=Ar) af<|AS w<|k+1;rw[yj,yx ae]at H;have c1:=AH (b:=Ar) af<|AS (E0 a 1)<|k+1;have c2:(Ar:Int)^(k+1)*r.getD (k+2) 0<(Ar:Int)^(k+1)*(v.getD (k+1) 0+1):=by
    rw[zq,qp];omega
   have:=yf c2 (zo<|Bj af<|k+1);omega
  have p:∀(q:Int) (B:List Int),B.length=f+1-j->AA Ar B->(0<=q/\q<18446744073709551616)->ze Ar B<ze Ar v->ze Ar B=ze Ar r-q*ze Ar v->Ends KM (L4 s v (f+1) ((k+2:Nat):Int) (f-(k+2)+1) (zc .i64<|(j:Int)-1) ((zn (j+1) 0++e).set j q)<|lo++B) Q:=by
   intro q B h1 h2 h3 h4 h5;have es:(zn (j+1) (0:Int)++e).set j q=zn j 0++(q::e):=by
    rw[List.replicate_succ',yc];exact DF _ _ _ _ (by simp)
   rw[es,wr ((j:Int)-1) ae ae];refine Cc s v k f E T P w D W0 hq j (lo++B) (q::e) (by simp;omega) (by simp;omega) (Hd J h2) (fun d h=>?_) (by rw[m];exact h4) ?_
   ·rcases List.mem_cons.1 h with rfl|h
    ·exact h3
    ·exact C d h
   ·rw[he,Df,Df,g,h5,Ms];show ze Ar lo+(Ar:Int)^j*ze Ar r+ze Ar v*((Ar:Int)^j*(18446744073709551616*ze Ar e))=ze Ar lo+(Ar:Int)^j*(ze Ar r-q*ze Ar v)+ze Ar v*((Ar:Int)^j*(q+18446744073709551616*ze Ar e));have x1:ze Ar v*((Ar:Int)^j*q)=(Ar:Int)^j*(q*ze Ar v):=by
     rw[yh,zm (ze Ar v) q]
    rw[yy,zq ((Ar:Int)^j) q,zq<|ze Ar v,x1];omega
  have ez:zr 0 j=j:=Nat.zero_add j;have e0:(((j+1:Nat):Int)-1)=(j:Int):=ae
  have e1:zc .i64 (zc .i64 ((j:Int)+((k+2:Nat):Int))+1)=((j+(k+3):Nat):Int):=by
   rw[wr ((j:Int)+((k+2:Nat):Int)) ae ae,wr _ ae ae];omega
  have e2:zc .i64 (((k+2:Nat):Int)-1)=((k+1:Nat):Int):=by rw[wr _ ae ae];omega
  have e3:qt (j+(k+3)) j=k+3:=by show j+(k+3)-j=_;omega
  have F:decide (zr (k+2) j<(lo++r).length)=true:=lw g ae;have G:decide (zr (k+1) j<(lo++r).length)=true:=lw g ae;rw[e0];refine yb (B1 ..) (zd (by simp) ?_);rw[E,e1,e2,zf,zf,zf,zf,ez,e3,gw g,gw g];have b1:(decide ((0:Int)<=((k+2:Nat):Int))&&decide (((k+2:Nat):Int)<((k+3:Nat):Int)))=true:=by simp;omega
  have H:(decide ((0:Int)<=((k+1:Nat):Int))&&decide (((k+1:Nat):Int)<((k+2:Nat):Int)))=true:=by simp;omega
  have b3:(decide ((0:Int)<=((k+1:Nat):Int))&&decide (((k+1:Nat):Int)<((k+3:Nat):Int)))=true:=by simp;omega
  have I:j<(zn (j+1) (0:Int)++e).length:=by simp;omega
  refine zd (by simp;omega)<|zd b1<|zd F<|zd H<|ya (fun c=>?_)<|fun c=>?_
  ·have c:=w6 c;obtain⟨a1,a2,a3⟩:=MN n o (c:=0) af;refine zd b3<|zd G<|zd H<|zd (Ab (Ab (Ab n o) rfl) rfl) ?_;refine CS s v (f+1) _ _ _ _ _ v k j lo (f+1-j) r _ E ae ae g ae I w L a O D p 18446744073709551616 _ _ _ af af af a1 ae ?_ ?_
   ·rw[a3];omega
   ·exact R
  ·have c:=w7 c;obtain⟨d1,d2,d3,d4,d5⟩:=dqr (r:=r.getD (k+2) 0) (x:=r.getD (k+1) 0) (d:=v.getD (k+1) 0) ae ae gu1;refine zd b1 (zd F<|zd b3<|zd G<|zd H<|zd (Ab (Ab (Ab K n) o)<|w4 ae) ?_);refine CS s v (f+1) _ _ _ _ _ v k j lo (f+1-j) r _ E ae ae g ae I w L a O D p 18446744073709551616 _ _ _ d2 d3 d3 (C4 d4 ae) (.inl rfl) ?_ ?_
   ·rw[<-d1];omega
   ·rw[hW,hV];exact Oa hP af d2 S U.1 y W.2 d1 d5
end T210
theorem V5{a b:Int}{s:Nat}(c:0<=a)(e:0<=b)(h:b<2^s)(d:a*2^s+b<18446744073709551616):eH .u64 b (a*2^s)=a*2^s+b:=by
 have:=Z4 c e h d;rw[<-this];show zc .u64 (((ye 64 b|||ye 64 (a*2^s)).toNat:Nat):Int)=zc .u64 (((ye 64 (a*2^s)|||ye 64 b).toNat:Nat):Int);rw[BitVec.or_comm]
theorem bL{s:Nat}(a:s<=63):(18446744073709551616:Int)=2^s*2^(64-s):=by rw[<-Int.pow_add,show s+(64-s)=64 by omega];rfl
namespace T210
theorem Fk[Srt](s:Nat)(R:s<=63)(a n m:Nat)(Y:n<=a)(F:a<=9000)(u g:List Int)(U:u.length=a+1)(C:AA Ar u)(N:ze Ar (u.drop n)=0)(V:g.length=m)(D:m<=9000)(r:AA Ar g)
  (O:∀(w:List Int) ob,AA Ar w->ze Ar w=ze Ar u/2^s->Q (.tup [.dat Du<|AD g,.dat Du<|AD w]) ob):
  ∀(k i:Nat) (p:List Int),i+k=n->p.length=i->AA Ar p->ze Ar p+(Ar:Int)^i*(ze Ar (u.drop i)/2^s)=ze Ar u/2^s->
   Ends KM (L6 s (a+1) n m n i g<|p++u.drop i) Q
 |0,i,p,M,hp,e,A=>by
  have M:i=n:=ae
  subst M;have ht:(p++u.drop i).take i=p:=by rw[<-hp];exact List.take_left
  have G:g.take m=g:=zz ae;rw[N,Int.zero_ediv,yt,qe]at A;refine yb (EW ..) (qd (by simp) ?_);rw[zf,ht,G];refine zd (by simp;omega) (zd (Ab (by simp;omega)<|EG ae r)<|zd (Ab (by simp;omega)<|EG ae e)<|yp<|O p _ e A)
 |k+1,i,p,M,hp,e,A=>by
  have K:=Cz (l:=u) (i:=i) ae;have S:=Cz (l:=u) (i:=i+1) ae;have P:=yw<|A0 C i;have W:=yw<|A0 C<|i+1;have g1:(p++u.drop i).getD i 0=u.getD i 0:=by rw[K];exact FD _ _ _ _ hp
  have s1:∀z,(p++u.drop i).set i z=p++z::u.drop (i+1):=fun z=>by rw[K];exact DF _ _ _ _ hp
  have s2:∀z x,(p++z::u.drop (i+1)).set i x=(p++[x])++u.drop (i+1):=fun z x=>by rw[DF _ _ _ _ hp,yc];rfl
  have g2:∀z,(p++z::u.drop (i+1)).getD i 0=z:=fun z=>FD _ _ _ _ hp
  have g3:∀z,(p++z::u.drop (i+1)).getD (i+1) 0=u.getD (i+1) 0:=fun z=>by
   rw[S,show p++z::u.getD (i+1) 0::u.drop (i+1+1)=(p++[z])++u.getD (i+1) 0::u.drop (i+1+1)by rw[yc];rfl];exact FD _ _ _ _ (by simp[hp])
  have q:∀z,(p++z::u.drop (i+1)).length=a+1:=fun z=>by simp;omega
  have j:(p++u.drop i).length=a+1:=by simp;omega
  have e2:=wn (i:=i) ae;have Z:zc .i64 ((64:Int)-(s:Int))=((64-s:Nat):Int):=by rw[wr _ ae ae];omega
  have em:qc s 64=s:=ae
  have H:qc (64-s) 64=64-s:=ae
  have v:=bL R;have o:(0:Int)<2^s:=yq af;have f:(0:Int)<2^(64-s):=yq af;have I:qf (u.getD i 0) ((2:Int)^s)=u.getD i 0/2^s:=yr _<|zo o;have a0:0<=u.getD i 0/2^s:=y9 P.1<|zo o;have a1:u.getD i 0/2^s<2^(64-s):=yz o (by rw[zm, <-v];exact P.2);have T:=yo (u.getD (i+1) 0) (show(2:Int)^s≠0 by omega);have m1:=yk (u.getD (i+1) 0) o;have p0:0<=(u.getD (i+1) 0 % 2^s)*2^(64-s):=z7 T<|zo f;have p1:(u.getD (i+1) 0 % 2^s)*2^(64-s)<=18446744073709551616-2^(64-s):=by
   have:=zg (show u.getD (i+1) 0 % 2^s<=2^s-1 by omega)<|zo f;rw[qn,zy, <-v]at this;exact this
  have h:0<=u.getD i 0/2^s+(u.getD (i+1) 0 % 2^s)*2^(64-s)/\u.getD i 0/2^s+(u.getD (i+1) 0 % 2^s)*2^(64-s)<18446744073709551616:=ae
  have E:zc .u64 (u.getD (i+1) 0*2^(64-s))=(u.getD (i+1) 0 % 2^s)*2^(64-s):=by
   rw[MS];exact(Xh (b:=18446744073709551616) (c:=2^(64-s)) (d:=2^s) (k:=0) f o (by rw[v,zm]) ⟨qo _,f⟩ W).1
  have L:eH .u64 (u.getD i 0/2^s) ((u.getD (i+1) 0 % 2^s)*2^(64-s))=u.getD i 0/2^s+(u.getD (i+1) 0 % 2^s)*2^(64-s):=by
   rw[V5 T a0 a1 ae,Int.add_comm]
  have next:∀z,z=u.getD i 0/2^s+(u.getD (i+1) 0 % 2^s)*2^(64-s)->Ends KM (L6 s (a+1) n m n ((i+1:Nat):Int) g<|(p++[z])++u.drop (i+1)) Q:=by
   intro z t;refine Fk s R a n m Y F u g U C N V D r O k (i+1) (p++[z]) ae (by simp[hp]) (El e<|by rw[t];exact C4 h.1 h.2) ?_;rw[<-A,Fp,hp,Ms,y7, <-zq];congr 2;have:=nG (b:=18446744073709551616) (c:=2^s) (d:=2^(64-s)) (x:=u.getD i 0) (y:=u.getD (i+1) 0) (X:=ze Ar<|u.drop<|i+1+1) o v;rw[t,K,S];exact this.symm
  have B:(decide ((0:Int)<=(i:Int))&&decide ((i:Int)<((a+1:Nat):Int)))=true:=by simp;omega
  have b2:(decide ((0:Int)<=((i+1:Nat):Int))&&decide (((i+1:Nat):Int)<((a+1:Nat):Int)))=true:=by simp;omega
  refine yb (EW ..) (zd (by simp;omega) ?_);rw[e2,Z,zf,zf,zf,zf,em,H,g1,I,s1,g2,g3,s2,E,L,q,j];refine zd B (zd (w4 ae)<|zd (by simp)<|zd B<|zd (w4 ae)<|ya (fun c=>zd (by simp;omega)<|zd B<|zd (w4 ae)<|zd b2<|zd (w4 ae)<|zd (by simp)<|zd B<|zd (w4 ae)<|next _ rfl)<|fun c=>?_);have c:=w7 c;have J:s=0:=ae
  subst J;rw[show ∀z:Int,p++z::u.drop (i+1)=(p++[z])++u.drop (i+1)from fun z=>by rw[yc];rfl];refine next _ ?_;rw[yd,Int.emod_one,qz,qe]
theorem Ul{X:AL}{F:Int->List Int->Tr}(w:List Int)(s:Nat)(n:s<=63)(v:AA Ar w)
  (Em:∀(i:Nat) (o:List Int),i<w.length->o.length=w.length+1->Ends X (F ((i+1:Nat):Int)<|if 0<s then(o.set i<|eH .u64 (o.getD i 0)<|zc .u64<|w.getD i 0*2^s).set (i+1) (qf (w.getD i 0)<|2^(64-s))else o.set i<|eH .u64 (o.getD i 0)<|zc .u64<|w.getD i 0*2^s) Q->Ends X (F i o) Q)
  (a:∀o:List Int,o.length=w.length+1->AA Ar o->ze Ar o=2^s*ze Ar w->Ends X (F w.length o) Q):
  ∀(k i:Nat) (p:List Int) (c:Int),i+k=w.length->p.length=i->AA Ar p->(0<=c/\c<2^s)->ze Ar p+(Ar:Int)^i*c=2^s*ze Ar (w.take i)->Ends X (F i (p++c::zn k 0)) Q
 |0,i,p,c,u,hp,e,f,h=>by
  have u:i=w.length:=ae
  subst u;have E:(2:Int)^s<=18446744073709551616:=by
   have:=bL n;have C:(1:Int)<=2^(64-s):=yq af;have G:=zl C (show(0:Int)<=2^s from zo<|yq af);omega
  rw[List.take_length]at h;refine a _ (by simp[hp]) (El e<|C4 f.1 ae) ?_;rw[<-h];show ze Ar (p++[c])=_;rw[Fp,hp]
 |k+1,i,p,c,u,hp,e,f,h=>by
  have m:=yw<|A0 v i;have B:=bL n;have l:(0:Int)<2^s:=yq af;have g:(0:Int)<2^(64-s):=yq af;obtain⟨s1,s2,s3,s4,s5,s6⟩:=Xh (b:=18446744073709551616) (c:=2^s) (d:=2^(64-s)) (x:=w.getD i 0) (k:=c) l g B f m;have q:qf (w.getD i 0) ((2:Int)^(64-s))=w.getD i 0/2^(64-s):=yr _<|zo g;have D:(p++c::zn (k+1) 0).getD i 0=c:=FD _ _ _ _ hp;have st:∀z:Int,(p++c::zn (k+1) 0).set i z=p++z::zn (k+1) 0:=fun z=>DF _ _ _ _ hp
  have j:∀z y:Int,(p++z::zn (k+1) 0).set (i+1) y=(p++[z])++y::zn k 0:=fun z y=>by
   rw[show p++z::zn (k+1) (0:Int)=(p++[z])++0::zn k 0 by rw[yc];rfl];exact DF _ _ _ _ (by simp[hp])
  have t:eH .u64 c ((w.getD i 0 % 2^(64-s))*2^s)=(w.getD i 0 % 2^(64-s))*2^s+c:=V5 (yo _ ae) f.1 f.2 s2;have go:=Ul w s n v Em a k (i+1) (p++[(w.getD i 0 % 2^(64-s))*2^s+c]) (w.getD i 0/2^(64-s)) ae (by simp[hp]) (El e<|C4 ae s2) ⟨s4,s5⟩ (by
   rw[Fp,hp,Ms,AK,zq<|2^s, <-h,y7,y7, <-zq,yh<|2^s, <-zq];congr 2;rw[zm<|2^s];omega)
  refine Em i _ ae (by simp;omega) ?_;rw[MS,s1,q,D,t,st,j];by_cases h0:0<s
  ·rw[wd h0];exact go
  ·have r:s=0:=ae
   subst r;have A:w.getD i 0/2^(64-0)=0:=qu m.1 m.2;rw[A]at go;rw[wc h0,show ∀z:Int,p++z::zn (k+1) (0:Int)=(p++[z])++0::zn k 0 from fun z=>by rw[yc];rfl];exact go
end T210
theorem Aaz[Srt]:Cv KM:=
 Aa T176.ok (Aa T217.ok<|Aa T178.ok<|Aa T216.ok<|Aa T218.ok<|Aa qU<|Aa T240.ok AB)
theorem Lz{w:List Int}(c:AA Ar w)(a:Sp.nz w){k:Nat}(b:w.length=k+1):0<w.getD k 0/\w.getD k 0<18446744073709551616:=by
 have g:=yw<|A0 c k;refine⟨?_,g.2⟩;have e:w.getLast?=some (w.getD k 0):=by
  rw[List.getLast?_eq_getElem?,b,qg,zt,yi ae];rfl
 unfold Sp.nz at a;rw[e]at a;have:w.getD k 0≠0:=fun h=>a (by rw[h])
 omega
namespace T210
set_option maxHeartbeats 1000000 in
theorem ok[Srt]:Af AY 210 G2:=by
 refine BA Aaz<|fun(i:List Int×List Int) B=>?_;obtain⟨a,b⟩:=i;have B:(Cy a&&Cy b&&decide (a.length<=9000)&&decide (b.length<=9000)&&decide (0<Aw b))=true:=B;rw[zu,zu,zu,zu,w5,w5,w5]at B;obtain⟨⟨⟨⟨na,nb⟩,la9⟩,lb9⟩,p⟩:=B;obtain⟨_,da,za⟩:=FN na;obtain⟨_,db,zb⟩:=FN nb;have p:0<ze Ar b:=p;have D:=AH (b:=Ar) af da;have hg:∀q r ob,q=BD (Aw a/Aw b)->r=BD (Aw a % Aw b)->Ac G2 (a,b) (PV.tup [PV.dat Du q,PV.dat Du r]) ob:=fun q r ob e1 G=>Ac.of rfl rfl (Prod.ext e1 G)
 have fin:∀(q r:List Int) ob,AA Ar q->AA Ar r->ze Ar a=ze Ar q*ze Ar b+ze Ar r->ze Ar r<ze Ar b->Ac G2 (a,b) (PV.tup [PV.dat Du<|AD q,PV.dat Du<|AD r]) ob:=by
  intro q r ob dq dr P hr;have Y:=AH (b:=Ar) af dr;obtain⟨u1,u2⟩:=(y8 (a:=ze Ar a) (b:=ze Ar b) (r:=ze Ar r) (q:=ze Ar q) p).2 ⟨by rw[zm<|ze Ar b];omega,Y,hr⟩;refine hg _ _ ob ?_ ?_
  ·rw[ML dq];show BD (ze Ar q)=BD (ze Ar a/ze Ar b);rw[u1]
  ·rw[ML dr];show BD (ze Ar r)=BD (ze Ar a % ze Ar b);rw[u2]
 have m:b≠[]:=by rintro rfl;simp[ze]at p
 have X:b.length≠0:=fun h=>m<|List.length_eq_zero_iff.1 h
 refine Ends.eq (Aj a b) (zd (by rw[na,nb];rfl)<|ya (fun c=>?_)<|fun c=>?_)
 ·have c:=w6 c;have n:ze Ar a<ze Ar b:=by
   unfold CC at c;have c:(if ze Ar a<ze Ar b then(-1:Int)else if ze Ar a>ze Ar b then 1 else 0)<0:=c;split at c
   ·assumption
   ·split at c<;>omega
  refine yp<|Ac.of rfl rfl ?_;show([],a)=(BD<|ze Ar a/ze Ar b,BD<|ze Ar a % ze Ar b);rw[qu D n,Int.emod_eq_of_lt D n];exact Prod.ext rfl (I5 af da za)
 ·have c:=w7 c;have hge:ze Ar b<=ze Ar a:=by
   rcases ym (ze Ar a) (ze Ar b)with g|g
   ·have:CC (Aw a) (Aw b)= -1:=wd g;omega
   ·exact g
  have hll:b.length<=a.length:=by
   rcases Nat.lt_or_ge a.length b.length with g|g
   ·have:=E4 (b:=Ar) af da db zb g;omega
   ·exact g
  refine ya (fun A=>?_)<|fun A=>?_
  ·have A:b.length=1:=by
    have:(b.length:Int)=1:=by simpa using A
    omega
   obtain⟨d,rfl⟩:=List.length_eq_one_iff.1 A;have hd:0<d/\d<18446744073709551616:=Lz (k:=0) db zb rfl;have e1:zc .i64 ((a.length:Int)-1)=(a.length:Int)-1:=wr _ ae ae;rw[e1,zf];refine zd (by simp;omega) ?_;have:=Au (Q:=Ac G2 (a,[d])) a d da hd ae (fun q r ob dq dr P=>by
    refine fin q [r] ob dq (fun x j=>by rw[List.mem_singleton]at j;subst j;exact⟨dr.1,by show x<18446744073709551616;omega⟩) ?_ ?_
    ·rw[val_one,val_one];exact P
    ·rw[val_one,val_one];exact dr.2) a.length [] 0 (by simp) (fun x j=>by cases j) ⟨qo _,hd.1⟩ (by rw[List.drop_length];simp[ze])
   rw[List.append_nil]at this;exact this
  ·have A:b.length≠1:=by
    have:(b.length:Int)≠1:=by simpa using A
    omega
   obtain⟨k,y⟩:∃k,b.length=k+2:=⟨b.length-2,by omega⟩;obtain⟨y0,y1⟩:=Lz (k:=k+1) db zb y;obtain⟨s,hs,hs63,n,_⟩:=Xs y0 y1;have hB:=bL hs63;have f:(0:Int)<2^s:=yq af;have h2d:(0:Int)<2^(64-s):=yq af;have hyd:b.getD (k+1) 0<2^(64-s):=by
    rw[hB,zm<|b.getD (k+1) 0]at n;exact yf n<|zo f
   have hv1:(Ar:Int)^(k+1)<=2^s*ze Ar b:=by
    have a1:=Dw (b:=Ar) af db zb m;rw[y,show k+2-1=k+1 by omega]at a1;have a2:=zg (show(1:Int)<=2^s by omega)<|zo p;omega
   have R:2^s*ze Ar b<(Ar:Int)^(k+2):=by
    have C:ze Ar b=ze Ar (b.take<|k+1)+(Ar:Int)^(k+1)*b.getD (k+1) 0:=by
     rw[<-AK,zz ae]
    have b2:=Bz (b:=Ar) af<|AS db<|k+1;rw[yj,yx ae]at b2;have hp:=Bj (b:=Ar) af<|k+1;have b3:ze Ar b<(Ar:Int)^(k+1)*2^(64-s):=by
     have:=zl (show b.getD (k+1) 0+1<=2^(64-s)by omega)<|zo hp;rw[zq,qp]at this;omega
    have b4:=qh b3 f;have b5:(2:Int)^s*((Ar:Int)^(k+1)*2^(64-s))=(Ar:Int)^(k+2):=by
     rw[yh, <-hB];exact(zp ..).symm
    rw[b5]at b4;exact b4
   have T:∀o:List Int,AA Ar o->ze Ar o=2^s*ze Ar b->AA Ar (AD o)/\(AD o).length=k+2/\ze Ar (AD o)=2^s*ze Ar b/\1<=(AD o).getD (k+1) 0:=by
    intro o V hv;have z:=Il V;have v:ze Ar (AD o)=2^s*ze Ar b:=by rw[Kx,hv]
    have L:=lK (b:=Ar) af z (Mb o) (k:=k+1) (by rw[v];exact hv1) (by rw[v];exact R);have:=(Lz z (Mb o) L).1;exact⟨z,L,v,by omega⟩
   have G:zc .i64 (((k+2:Nat):Int)-1)=((k+1:Nat):Int):=by rw[wr _ ae ae];omega
   have e3:zc .i64 (((k+2:Nat):Int)+1)=((k+3:Nat):Int):=by rw[wr _ ae ae];omega
   have e4:zc .i64 ((a.length:Int)+1)=((a.length+1:Nat):Int):=by rw[wr _ ae ae];omega
   have e5:zc .i64 ((a.length:Int)-((k+2:Nat):Int))=((a.length-(k+2):Nat):Int):=by rw[wr _ ae ae];omega
   have e6:zc .i64 (((a.length-(k+2):Nat):Int)+1)=((a.length-(k+2)+1:Nat):Int):=by rw[wr _ ae ae];omega
   have e7:zc .i64 ((64:Int)-(s:Int))=((64-s:Nat):Int):=by rw[wr _ ae ae];omega
   have em:qc s 64=s:=ae
   have H:qc (64-s) 64=64-s:=ae
   rw[y,G,e3,zf,zf,hs];refine zd (by simp;omega) (zd (C4 ae y1)<|zd (by simp;omega) ?_);refine Ul (F:=fun i o=>L2 a b s (k+3) b ((k+2:Nat):Int) i o) b s hs63 db (fun i o B V h=>?_) (fun o hol M hov=>?_) (k+2) 0 [] 0 ae rfl (fun x j=>by cases j) ⟨qo _,f⟩ (by simp[ze])
   ·have ei:=wn (i:=i) ae;have C:(decide ((0:Int)<=(i:Int))&&decide ((i:Int)<((k+3:Nat):Int)))=true:=by simp;omega
    refine yb (Az ..) (zd (by simp;omega) ?_);rw[ei,e7,zf,zf,zf,zf,em,H];refine zd (by simp;omega) (zd C<|zd (w4 ae)<|zd (by simp)<|zd C<|zd (w4 ae)<|ya (fun c=>zd (by simp)<|zd (by simp;omega)<|zd (by simp;omega) ?_)<|fun c=>?_)
    ·have c:=w6 c;rw[wd ae]at h;exact h
    ·have c:=w7 c;rw[wc ae]at h;exact h
   obtain⟨vd,vl,O,v1⟩:=T o M hov;have eo:o.take (k+3)=o:=zz ae;rw[y];refine yb (Az ..) (qd (by simp) ?_);rw[eo,e4,zf,y,G,zf,hs];refine zd (Ab (by simp;omega)<|EG ae M) (zd (by simp;omega) ?_);refine Ul (F:=fun i o'=>L3 a b s (k+3) b ((k+2:Nat):Int) ((k+2:Nat):Int) o s (a.length+1) a a.length i o' o) a s hs63 da (fun i o' B V h=>?_) (fun u Z K S=>?_) a.length 0 [] 0 ae rfl (fun x j=>by cases j) ⟨qo _,f⟩ (by simp[ze])
   ·have ei:=wn (i:=i) ae;have C:(decide ((0:Int)<=(i:Int))&&decide ((i:Int)<((a.length+1:Nat):Int)))=true:=by simp;omega
    refine yb (Be ..) (zd (by simp;omega) ?_);rw[ei,e7,zf,zf,zf,zf,em,H];refine zd (by simp;omega) (zd C<|zd (w4 ae) (zd (by simp) (zd C<|zd (w4 ae)<|ya (fun c=>zd (by simp)<|zd (by simp;omega)<|zd (by simp;omega) ?_)<|fun c=>?_)))
    ·have c:=w6 c;rw[wd ae]at h;exact h
    ·have c:=w7 c;rw[wc ae]at h;exact h
   refine yb (Be ..) (qd (by simp) ?_);rw[eo,vl,e5,e6,zf,y,G,zf,hs];refine zd (by simp;omega) ?_;have E:=Bj (b:=Ar) af<|a.length-(k+2)+1;have start:ze Ar (u.drop<|a.length-(k+2)+1)<ze Ar (AD o):=by
    have a1:=CB Ar u (a.length-(k+2)+1) ae;have a2:=AH (b:=Ar) af<|AS K<|a.length-(k+2)+1;have a3:=Bz (b:=Ar) af da;have a4:=qh a3 f;have a5:(Ar:Int)^a.length=(Ar:Int)^(a.length-(k+2)+1)*(Ar:Int)^(k+1):=by rw[<-Int.pow_add];congr 1;omega
    have a6:=Dw (b:=Ar) af db zb m;rw[y,show k+2-1=k+1 by omega]at a6;have a7:=zl a6<|zo f;have a8:=zl a7<|zo E;rw[a5,yh]at a4;rw[O];refine yf (a:=(Ar:Int)^(a.length-(k+2)+1)) ?_<|zo E;omega
   have go:=Cc (Q:=Ac G2 (a,b)) s (AD o) k a.length vl la9 ae vd v1 (2^s*ze Ar a) (fun W N I t J l hql P=>by
    have hz:ze Ar (W.drop<|k+2)=0:=Kq (b:=Ar) af t ae (by rw[O]at l;omega);refine Fk s hs63 a.length (k+2) (a.length-(k+2)+1) ae la9 W N I t hz hql ae J (fun w ob hw U=>?_) (k+2) 0 [] ae rfl (fun x j=>by cases j) (by simp[ze]);have e:ze Ar W=2^s*(ze Ar a-ze Ar N*ze Ar b):=by
     rw[O,zk,zm<|ze Ar b]at P;rw[yy];omega
    have ew:ze Ar w=ze Ar a-ze Ar N*ze Ar b:=by
     rw[U,e];exact Int.mul_ediv_cancel_left _ ae
    refine fin N w ob J hw ae ?_;rw[O,e]at l;have:=yf l<|zo f;omega) (a.length-(k+2)+1) u [] (by simp) Z K (fun x j=>by cases j) start (by rw[S];simp[ze])
   rw[List.append_nil,show((a.length-(k+2)+1:Nat):Int)-1=((a.length-(k+2):Nat):Int)by omega]at go;exact go
end T210
theorem Sy[Srt]:Af AY 210 G2:=T210.ok
theorem yJ[Srt]:Cv XF0:=fun g sp h=>by cases h
theorem T68n.ok[Srt]:Af AY 68 Sc:=by
 refine BA yJ<|fun(n:Int) _=>?_;refine Ends.eq (T68n.Aj n)<|yp<|Ac.of rfl rfl ?_;show(n,[])=(n,BI n);rw[Ff]
theorem zM[Srt]:Cv XF1:=
 Aa T68n.ok (Aa Sy<|Aa (T173.ok Ga)<|Aa (T174.ok Ga)<|Aa T133.ok<|Aa T124.ok<|Aa T134.ok AB)
theorem Yx{m D:Int}(c:0<D):(m % D=0->(-m)/D= -(m/D)/\(-m) % D=0)/\(m % D≠0->(-m)/D= -(m/D)-1/\(-m) % D=D-m % D):=by
 have e:=z8 m D;have f:=yo m (show D≠0 by omega);have d:=yk m c;refine⟨fun h=>?_,fun h=>?_⟩
 ·exact(y8 (a:= -m) (b:=D) (r:=0) (q:= -(m/D)) c).2 ⟨by rw[Int.mul_neg];omega,by omega,by omega⟩
 ·exact(y8 (a:= -m) (b:=D) (r:=D-m % D) (q:= -(m/D)-1) c).2 ⟨by rw[yy,Int.mul_neg,qp];omega,by omega,by omega⟩
theorem zZ{m D:Int}(a:0<=m)(b:0<D):(0<=m/D/\m/D<=m)/\(0<=m % D/\m % D<=m/\m % D<D):=by
 have e:=z8 m D;have q0:0<=m/D:=y9 a ae;have q1:m/D<=m:=Int.ediv_le_self _ a;have d:=yo m (show D≠0 by omega);have c:=yk m b;have:=z7 (show 0<=D by omega) q0;exact⟨⟨q0,q1⟩,d,by omega,c⟩
theorem Z3(n:Bool){v:Int}(h:0<=v):Ai (qq n v)=v:=by
 rw[DU,Al];split<;>omega
theorem Ec{n:Int}(h:Ai n<(Ar:Int)^9000):Bg (Dd n)=true:=by
 have:=Pv h ae;unfold Bg;exact Ab this.1<|w4 this.2
theorem oC{a b:AM}(h:0<zi a+zi b):ES a b=Dd (zi a+zi b):=by
 unfold ES;split
 ·next c=>
  have:=Fa c.2.2;rw[BG c.1,BG c.2.1]at h ⊢;exact(CD ae).symm
 ·rfl
theorem O0:((1:Int),BI (1:Int))=Dd 1:=by rw[Ff];rfl
namespace T184
theorem SS{a b:AM}(q:Int)(h: -9223372036854775808<q/\q<9223372036854775808)(c:Gv a b=Dd q\/(-9223372036854775808<q/\Gv a b=OF (Dd<|q+1) (1,[])/\q+1<9223372036854775808)):Gv a b=(q,[]):=by
 rcases c with c|⟨d,c,e⟩
 ·rw[c,CD h]
 ·rw[c,CD ae];unfold OF Dt;rw[wd ⟨rfl,by decide⟩];unfold ES;rw[wd ⟨rfl,rfl,Fo (by show _<=q+1+ -1;omega)<|by show q+1+ -1<_;omega⟩];show(q+1+ -1,[])=(q,[]);rw[show q+1+ -1=q by omega]
set_option maxHeartbeats 1000000 in
theorem ok[Srt]:Af AY 184 HI:=by
 refine BA zM<|fun(i:(Int×List Int)×(Int×List Int)) u=>?_;obtain⟨a,b⟩:=i;have u:(Bg a&&Bg b&&decide (0<zi b))=true:=u;rw[zu,zu,w5]at u;obtain⟨⟨ha,hb⟩,hD⟩:=u;obtain⟨oa,_,na,_,va,ba⟩:=words ha;obtain⟨ob,_,nb,_,vb,bb⟩:=words hb;have F:Ai (zi b)=zi b:=by rw[Al];omega
 have C:=AP<|zi a;have d:Ai (zi a)=if zi a<0 then -zi a else zi a:=rfl
 obtain⟨⟨q0,q1⟩,s,H,E⟩:=zZ (D:=zi b) C hD;obtain⟨z1,z2⟩:=Yx (m:=Ai<|zi a) hD;have j:Vr (BD<|Ai<|zi a) (BD<|Ai<|zi b)=true:=by
  unfold Vr;exact Ab (Ab (Ab (Ab na nb)<|w4<|Li C ba)<|w4<|Li (AP _) bb) (w4<|by rw[vb,F];exact hD)
 have fin:∀(q r:AM) v ob,KZ HI.outs v ob=some (true,(q,r))->q=Gv a b->r=Dd (zi a % zi b)->Ac HI (a,b) v ob:=fun q r v ob h S L=>Ac.of h rfl (by rw[S,L];rfl)
 have e:Ends XF1 (L1 (decide (zi a<0)) (BD<|Aw (BD<|Ai<|zi a)/Aw (BD<|Ai<|zi b)) (BD<|Aw (BD<|Ai<|zi a) % Aw (BD<|Ai<|zi b)) 0 0 b.1 b.2) (Ac HI (a,b)):=by
  rw[va,vb,F];obtain⟨R,_,J⟩:=Dm (n:=Ai (zi a)/zi b) (k:=9000) q0 ae ae;obtain⟨nr,_,vr⟩:=Dm (n:=Ai (zi a) % zi b) (k:=9000) s ae ae;have G:Bg (Dd<|qq (decide (zi a<0))<|Ai (zi a) % zi b)=true:=Ec (by rw[Z3 _ s];omega);have P:Bg (Dd<|qq (decide (zi a<0))<|Ai (zi a)/zi b)=true:=Ec (by rw[Z3 _ q0];omega);have O:Bg ((1:Int),BI (1:Int))=true:=by rw[O0];decide
  have es:IQ (C8<|qq (decide (zi a<0))<|Ai (zi a) % zi b,C6<|qq (decide (zi a<0))<|Ai (zi a) % zi b)=Sp.Oy (qq (decide (zi a<0))<|Ai (zi a) % zi b):=by
   show Sp.Oy (zi<|Dd _)=_;rw[CJ]
  refine yb (Ak ..)<|zd R<|zd nr ?_;rw[J,vr];refine yb (Az ..)<|zd (Ci G).1 ?_;rw[es];refine ya (fun c=>?_)<|fun c=>?_
  ·have c:=w6 c;have l:qq (decide (zi a<0)) (Ai (zi a) % zi b)<0:=by
    rw[MI]at c;split at c
    ·assumption
    ·split at c<;>omega
   have f:zi a<0:=by
    rcases ym (zi a) 0 with g|g
    ·exact g
    ·rw[DU,wc<|by simp;omega]at l;omega
   have hr:Ai (zi a) % zi b≠0:=by
    rw[DU,wd<|w4 f]at l;omega
   obtain⟨z3,z4⟩:=z2 hr;refine zd rfl (zd (Ab P O)<|zd (Ab G hb)<|yp<|fin (OF (Dd<|qq (decide (zi a<0))<|Ai (zi a)/zi b) (1,BI 1)) (ES (Dd<|qq (decide (zi a<0))<|Ai (zi a) % zi b) b) _ _ rfl ?_ ?_)
   ·unfold Gv;rw[wd ⟨f,hr⟩,Ff,DU,wd<|w4 f]
   ·have ev:zi a= -Ai (zi a):=by rw[d,wd f];omega
    have B:zi (Dd<|qq (decide (zi a<0))<|Ai (zi a) % zi b)= -(Ai (zi a) % zi b):=by rw[CJ,DU,wd<|w4 f]
    have N:zi a % zi b=zi b-Ai (zi a) % zi b:=by rw[<-z4, <-ev]
    rw[oC (by rw[B];omega),B,N];congr 1;omega
  ·have c:=w7 c;have l:¬(zi a<0/\Ai (zi a) % zi b≠0):=by
    rintro⟨f,hr⟩;rw[DU,wd<|w4 f,MI,wd ae]at c;omega
   refine yp<|fin (Dd<|qq (decide (zi a<0))<|Ai (zi a)/zi b) (Dd<|qq (decide (zi a<0))<|Ai (zi a) % zi b) _ _ rfl ?_ ?_
   ·unfold Gv;rw[wc l]
   ·congr 1;rcases ym (zi a) 0 with g|g
    ·have hr:Ai (zi a) % zi b=0:=by
      rcases ym 0 (Ai (zi a) % zi b)with g2|g2
      ·exact wh ⟨g,by omega⟩ l
      ·omega
     have ev:zi a= -Ai (zi a):=by rw[d,wd g];omega
     have:=(z1 hr).2;rw[<-ev]at this;rw[this,hr,DU];split<;>rfl
    ·rw[DU,wc (by simp;omega),d,wc ae]
 refine Ends.eq (Aj a b)<|ya (fun z=>ya (fun l=>ya (fun y=>?_)<|fun y=>?_)<|fun l=>?_)<|fun z=>?_
 ·have a2:=Qh z;have M:=Qh l;have y:a.1≠ -9223372036854775808:=by simpa using y
  have U:=Fa (n:=a.1) (by
   have:=oa;unfold qy at this;rw[zu]at this;exact this.1)
  have T:=Fa (n:=b.1) (by
   have:=ob;unfold qy at this;rw[zu]at this;exact this.1)
  have o:=BG a2;have p:=BG M;rw[o]at d;rw[p]at hD E;rw[o,p]at q0 q1 s H z1 z2;rw[o]at E;have t:yn a.1 b.1=if a.1<0 then -(Ai a.1/b.1)else Ai a.1/b.1:=by
   rw[d];split
   ·have:=Int.neg_tdiv (-a.1) b.1;rw[Int.neg_neg]at this;rw[this,qi ae]
   ·exact qi ae
  have hr:yv a.1 b.1=if a.1<0 then -(Ai a.1 % b.1)else Ai a.1 % b.1:=by
   rw[d];split
   ·have:=Int.neg_tmod (-a.1) b.1;rw[Int.neg_neg]at this;rw[this,qj ae]
   ·exact qj ae
  refine zd (w4 ae) (zd (w4 ae)<|ya (fun c=>?_)<|fun c=>?_)
  ·have c:=w6 c;rw[hr]at c;have f:a.1<0:=by split at c<;>omega
   rw[wd f]at c t hr;rw[wd f]at d;obtain⟨z3,z4⟩:=z2 ae;have ev:a.1= -Ai a.1:=ae
   have I:Ai a.1/b.1<9223372036854775807:=by
    rcases ym (Ai a.1/b.1) 9223372036854775807 with g|g
    ·exact g
    ·have:=z8 (Ai a.1) b.1;have:=zg (show 1<=b.1 by omega) q0;omega
   refine yp<|fin (zc .i64<|zc .i64 (yn a.1 b.1)-1,[]) (zc .i64<|yv a.1 b.1+b.1,[]) _ _ rfl ?_ ?_
   ·rw[t,wr (-(Ai a.1/b.1)) ae ae,wr _ ae ae];refine(SS _ ae<|.inr ⟨by omega,?_,by omega⟩).symm;unfold Gv;rw[o,p,wd ⟨f,by omega⟩,show -(Ai a.1/b.1)-1+1= -(Ai a.1/b.1)by omega]
   ·rw[hr,wr _ ae ae];have:a.1 % b.1=b.1-Ai a.1 % b.1:=by rw[<-z4, <-ev]
    rw[o,p,this,CD ae];congr 1;omega
  ·have c:=w7 c;rw[hr]at c;refine yp<|fin (zc .i64<|yn a.1 b.1,[]) (yv a.1 b.1,[]) _ _ rfl ?_ ?_
   ·have w:Gv a b=Dd (yn a.1 b.1):=by
     unfold Gv;rw[o,p,t,wc (by rintro⟨K,V⟩;rw[wd K]at c;omega),DU];by_cases h:a.1<0
     ·rw[wd<|w4 h,wd h]
     ·rw[wc (by simp;omega),wc h]
    have x: -9223372036854775808<yn a.1 b.1/\yn a.1 b.1<9223372036854775808:=by
     rw[t,d]at*;split<;>split at q1<;>split at q0<;>omega
    rw[wr _ ae ae];exact(SS _ x<|.inl w).symm
   ·rw[hr];by_cases h:a.1<0
    ·rw[wd h]at c ⊢;have A:Ai a.1 % b.1=0:=ae
     rw[wd h]at d;have ev:a.1= -Ai a.1:=ae
     have:=(z1 A).2;rw[<-ev]at this;rw[o,p,this,A];rfl
    ·rw[wc h]at c ⊢;rw[wc h]at d;rw[o,p,d,CD<|by rw[d]at s H;omega]
 ·exact zd oa<|zd ob<|zd j e
 ·exact zd oa<|zd ob<|zd j e
 ·exact zd oa<|zd ob<|zd j e
end T184
theorem yX[Srt]:Cv XF2:=
 Aa T184.ok (Aa T215.ok<|Aa T134.ok AB)
theorem xQ{a:AM}(h:qy a=true):Xm a=Dd (Ai<|zi a):=by
 have l:=yI h;obtain⟨hr,b⟩:=Ei h;unfold Xm;by_cases h0:a.1<0
 ·rw[wd h0,Al];unfold Dt;have e:=l.1 h0;split
  ·next c=>rw[BG c.1]at e ⊢;rw[CD ae];congr 1;omega
  ·congr 1;omega
 ·rw[wc h0];obtain⟨s,w⟩:=a;have h0:¬s<0:=h0;rcases b with b|⟨j,i,f⟩
  ·have b:w=[]:=b;subst b;have hr: -9223372036854775808<=s/\s<9223372036854775808:=hr;rw[FQ,Al,CD ae];congr 1;omega
  ·obtain⟨_,d,z⟩:=FN j;have i:s=1\/s= -1:=i;have f:9223372036854775808<=Aw w:=f;have g:w≠[]:=by rintro rfl;exact wh f af
   have k:s=1:=ae
   subst k;rw[Ye g,wc af,Al];have:=Va (w:=w) false d z f;rw[wc af,wc af]at this;rw[show((Aw w).natAbs:Int)=Aw w by omega,this]
theorem wD(n:Int):IQ (C8 n,C6 n)=Sp.Oy n:=by
 show Sp.Oy (zi<|Dd _)=_;rw[CJ]
theorem MP(n:Int):zi (C8 n,C6 n)=n:=CJ n
theorem cD(m n:Int):mV (C8 m,C6 m) (C8 n,C6 n)=C8 (m % n)/\nQ (C8 m,C6 m) (C8 n,C6 n)=C6 (m % n):=by
 constructor
 ·show C8 (zi (Dd _) % zi (Dd _))=_;rw[CJ,CJ]
 ·show C6 (zi (Dd _) % zi (Dd _))=_;rw[CJ,CJ]
theorem GL{n:Int}(h:Bg (Dd n)=true):Bg (C8 n,C6 n)=true:=h
theorem Pk{a:AM}(h:qy a=true):PB a=C8 (Ai<|zi a)/\Rq a=C6 (Ai<|zi a):=by
 unfold PB Rq;rw[xQ h];exact⟨rfl,rfl⟩
theorem Xb(x y:Nat):((x:Int) % (y:Int))=((x % y:Nat):Int):=rfl
theorem Abd(a b:AM)(n:Int)(h:n=Sp.gI (zi a) (zi b)):(C8 n,C6 n)=(OD a b,Oe a b):=by subst h;rfl
namespace T171
theorem AbM(n:Nat)(h:(n:Int)<(Ar:Int)^9000):Bg (Dd (n:Int))=true:=Ec (by rw[Al,Int.natAbs_natCast];exact h)
theorem Au[Srt](g:Nat)(e L:Int)(c:∀n:Nat,(n:Int)<L->Bg (Dd (n:Int))=true)(d:∀ob,Q (.agg [.dat i64<|C8 (g:Int),.dat (.nlist u64)<|C6 (g:Int)]) ob):∀(f x y:Nat),y<f->Nat.gcd x y=g->(x:Int)<L->(y:Int)<L->
  Ends XF2 (L1 e (C8 (y:Int)) (C6 (y:Int)) (C8 (x:Int))<|C6 (x:Int)) Q
 |0,x,y,h,_,_,_=>by omega
 |f+1,x,y,m,b,j,a=>by
  have l:Bg (Dd (x:Int))=true:=c x j;have i:Bg (Dd (y:Int))=true:=c y a
  refine yb (Ak ..)<|zd (Ci<|GL i).1 ?_;rw[wD,(cD _ _).1,(cD _ _).2,MP,Xb];by_cases h0:y=0
  ·subst h0;rw[Nat.gcd_zero_right]at b;subst b;exact qd rfl (yp<|d _)
  ·have k:x % y<y:=Nat.mod_lt _ ae;refine zd ?_ (zd (Ab (Ab (GL l)<|GL i)<|w4 ae) ?_)
   ·rw[MI,wc ae,wd ae];rfl
   ·exact Au g e L c d f y (x % y) ae (by rw[Nat.gcd_comm, <-Nat.gcd_rec,Nat.gcd_comm];exact b) a ae
set_option maxRecDepth 10000 in
theorem ok[Srt]:Af AY 171 bE:=by
 refine BA yX<|fun(i:(Int×List Int)×(Int×List Int)) c=>?_;obtain⟨a,b⟩:=i;have c:(Bg a&&Bg b)=true:=c;rw[zu]at c;obtain⟨ha,hb⟩:=c;have d:=(Ci ha).1;have ob:=(Ci hb).1;have e:=bounds ha;have f:=bounds hb;rw[Al]at e f;refine Ends.eq (Aj a b)<|zd d<|zd ob ?_;show Ends XF2 (L1 0 (PB b) (Rq b) (PB a)<|Rq a) _;rw[(Pk d).1,(Pk d).2,(Pk ob).1,(Pk ob).2,Al,Al];refine Au (Nat.gcd (zi a).natAbs (zi b).natAbs) 0 _ AbM (fun ob=>Ac.of rfl rfl (Abd a b _ ?_)) ((zi b).natAbs+1) _ _ (Nat.lt_succ_self _) rfl e f;rw[GJ];rfl
end T171
theorem Agv(n:Nat)(h:n<9223372036854775808):It .i64 (n:Int) 1=((n % 2:Nat):Int):=by
 have e:(ye 64 (n:Int)&&&ye 64 1).toNat=n % 2:=by
  rw[BitVec.toNat_and];have a:(ye 64 (n:Int)).toNat=n:=by rw[BitVec.ofInt_natCast,BitVec.toNat_ofNat];exact Nat.mod_eq_of_lt ae
  have b:(ye 64 1).toNat=2^1-1:=af
  rw[a,b,Nat.and_two_pow_sub_one_eq_mod]
 show zc .i64 (((ye 64 (n:Int)&&&ye 64 1).toNat:Nat):Int)=_;rw[e];exact wr _ ae ae
namespace T199
theorem V1{c:Int}(h:c≠0):1<=Ai c:=by rw[Al];omega
theorem aD(c:Int):∀k:Nat,Ai (c^k)=Ai c^k
 |0=>by rw[yd,yd];rfl
 |k+1=>by rw[zp,zp,Kl,aD c k]
theorem one_le_pow{c:Int}(h:1<=c):∀k:Nat,1<=c^k
 |0=>by rw[yd];decide
 |k+1=>by
  rw[zp];have:=zg (one_le_pow h k) (show 0<=c by omega);omega
theorem AfM{p c L:Int}{k:Nat}(m:1<L)(h:Ai (p*c^k)<L)(g:c=0->Ai p<=1)(l:c≠0->p≠0):Ai p<L/\(1<=k->Ai c<L)/\(2<=k->Ai (c*c)<L)/\(1<=k->Ai (p*c)<L):=by
 by_cases b:c=0
 ·subst b;have:=g rfl;have e:Ai 0=0:=rfl;exact⟨by omega,fun _=>by rw[e];omega,fun _=>by rw[yt,e];omega,fun _=>by rw[yt,e];omega⟩
 ·have hp:=V1<|l b;have a:=V1 b;rw[Kl,aD]at h;rw[Kl,Kl];generalize Ai p=P at*;generalize Ai c=C at*;have i:1<=C^k:=one_le_pow a k;have a1:P<=P*C^k:=by
   have:=zl i (show 0<=P by omega);omega
  have d:C^k<=P*C^k:=by
   have:=zg hp (show 0<=C^k by omega);omega
  refine⟨by omega,fun f=>?_,fun f=>?_,fun f=>?_⟩
  ·obtain⟨j,rfl⟩:∃j,k=j+1:=⟨k-1,by omega⟩;rw[zp]at d h;have:=zg (one_le_pow a j) (show 0<=C by omega);omega
  ·obtain⟨j,rfl⟩:∃j,k=j+2:=⟨k-2,by omega⟩;have e:C^(j+2)=C^j*(C*C):=by rw[zp,zp,zk]
   rw[e]at d h;have:=zg (one_le_pow a j) (z7 (show 0<=C by omega) (show 0<=C by omega));omega
  ·obtain⟨j,rfl⟩:∃j,k=j+1:=⟨k-1,by omega⟩;have e:P*C^(j+1)=C^j*(P*C):=by rw[zp,yh]
   rw[e]at h;have:=zg (one_le_pow a j) (z7 (show 0<=P by omega) (show 0<=C by omega));omega
theorem iB{p c:Int}{k j:Nat}(h:k=2*j):p*(c*c)^j=p*c^k:=by
 subst h;rw[Int.pow_mul,zp,zp,yd,zy]
theorem nD{p c:Int}{k j:Nat}(h:k=2*j+1):p*c*(c*c)^j=p*c^k:=by
 subst h;rw[zp,Int.pow_mul,show c^2=c*c by rw[zp,zp,yd,zy],zk,zm c]
theorem Ag8{x:Int}(h:x<(18446744073709551616:Int)^(4000:Nat)):x<(Ar:Int)^9000:=
 Int.lt_of_lt_of_le h (AT (b:=Ar) af ae)
theorem Au[Srt](o1 R:Int)(hR:Ai R<(18446744073709551616:Int)^(4000:Nat))(n:∀ob,Q (.agg [.dat i64<|C8 R,.dat (.nlist u64)<|C6 R]) ob):
  ∀(f k:Nat) (p:Int) (a:AM),k<f->k<=100000->(1<=k->Bg a=true)->p*zi a^k=R->(zi a=0->Ai p<=1)->(zi a≠0->p≠0)->
   Ends XF3 (L1 (k:Int) (C8 p) (C6 p) o1 a.1 a.2) Q
 |0,k,p,a,h,_,_,_,_,_=>by omega
 |f+1,k,p,a,D,v,A,i,s,o=>by
  have x:(1:Int)<(18446744073709551616:Int)^(4000:Nat):=Int.lt_of_lt_of_le (show(1:Int)<18446744073709551616^(1:Nat)by decide) (AT (b:=18446744073709551616) af ae);rw[<-i]at hR;obtain⟨s1,s2,s3,s4⟩:=AfM x hR s o;by_cases h0:k=0
  ·subst h0;rw[yd,qp]at i;subst i;exact yb (Ak ..) (qd (by simp)<|yp<|n _)
  ·have w:Bg (C8 p,C6 p)=true:=Ec<|Ag8 s1;have j:Bg a=true:=A ae;have B:qf (k:Int) ((2:Int)^(1:Nat))=((k/2:Nat):Int):=by
    rw[yr _ af];rfl
   have u:(Fq (C8 p,C6 p) a,FC (C8 p,C6 p) a)=Dd (p*zi a):=by
    show Dd (zi (Dd p)*zi a)=_;rw[CJ]
   have m:Fq (C8 p,C6 p) (a.1,a.2)=C8 (p*zi a):=wi Prod.fst u;have l:FC (C8 p,C6 p) (a.1,a.2)=C6 (p*zi a):=wi Prod.snd u;have r:zi (F4 a a)=zi a*zi a:=DT a a;have t:∀q:Int,1<k->q*(zi a*zi a)^(k/2)=p*zi a^k->(zi a=0->Ai q<=1)->(zi a≠0->q≠0)->Ends XF3 (L1 ((k/2:Nat):Int) (C8 q) (C6 q) o1 (Fq (a.1,a.2) (a.1,a.2))<|FC (a.1,a.2) (a.1,a.2)) Q:=by
    intro q e g y C;refine Au o1 R (by rw[i]at hR;exact hR) n f (k/2) q (F4 a a) ae ae (fun _=>Ec<|Ag8<|s3 ae) (by rw[r,g,i]) (fun z=>y ?_)<|fun z=>C ?_
    ·rw[r]at z;rcases Int.mul_eq_zero.1 z with z|z<;>exact z
    ·rintro z2;rw[r,z2]at z;exact z rfl
   have st:∀q:Int,k=1->q=R->Ends XF3 (L1 ((k/2:Nat):Int) (C8 q) (C6 q) o1 a.1 a.2) Q:=by
    intro q e g;subst e g;exact yb (Ak ..) (qd (by simp)<|yp<|n _)
   refine yb (Ak ..) (zd (w4 ae) ?_);rw[Agv k ae,B,m,l];refine ya (fun c=>?_)<|fun c=>?_
   ·have c:((k % 2:Nat):Int)=1:=by simpa using c
    refine zd (Ab w j)<|ya (fun d=>zd (Ab j j)<|zd rfl ?_)<|fun d=>zd rfl ?_
    ·have d:=w6 d;refine t _ ae (nD ae) (fun z=>by rw[z,yt];decide)<|fun z=>?_;exact Int.mul_ne_zero (o z) z
    ·have d:=w7 d;have e:k=1:=ae
     refine st _ e ?_;rw[<-i,e,zp,yd,zy]
   ·have c:((k % 2:Nat):Int)≠1:=by simpa using c
    refine ya (fun d=>zd (Ab j j)<|zd rfl ?_)<|fun d=>?_
    ·have d:=w6 d;exact t _ ae (iB ae) s o
    ·have d:=w7 d;omega
theorem yD[Srt]:Cv XF3:=Aa T68n.ok<|Aa T125.ok AB
theorem ok[Srt]:Af AY 199 wA:=by
 refine BA yD<|fun(i:(Int×List Int)×Int) b=>?_;obtain⟨a,k⟩:=i;have b:(Bg a&&(decide (0<=k)&&decide (k<=100000)&&decide (Ai (Sp.pI (zi a) k)<(18446744073709551616:Int)^(4000:Nat))))=true:=b;rw[zu,zu,zu,w5,w5,w5,Yi]at b;obtain⟨ha,⟨k0,k1⟩,hR⟩:=b;obtain⟨n,rfl⟩:=Int.eq_ofNat_of_zero_le k0;have c:BI 1=C6 1:=by rw[Ff];rfl
 refine Ends.eq (Aj a n)<|zd rfl ?_;rw[c];refine Au (Q:=Ac wA (a,(n:Int))) 0 (zi a^n) hR (fun ob=>Ac.of rfl rfl ?_) (n+1) n 1 a ae ae (fun _=>ha) (zy _) (fun _=>by decide) (fun _=>by decide);show Dd _=Dd (Sp.pI (zi a) (n:Int));rw[Yi];rfl
end T199
end Go.Pe
