import Derived.Test.YtobmcolckeoejaaGreatDoorX10
/- A part of a proof; no law is stated here. -/
noncomputable section
open Go.IntKind renaming wrap -> zc, u64 -> zh, i64 -> qw
open Go.Pe.Ends renaming tt -> zd, ite -> ya, An -> yb, leaf -> yp, ff -> qd
open Go.Sp renaming val -> ze, vI -> zi, u64 -> zx, A3 -> yw, sg -> qq, Da -> qy
open Int renaming toNat_natCast -> zf, mul_le_mul_of_nonneg_right -> zg, mul_assoc -> zk, mul_le_mul_of_nonneg_left -> zl, mul_comm -> zm, le_of_lt -> zo, pow_succ -> zp, mul_add -> zq, one_mul -> zy, add_mul -> z6, mul_nonneg -> z7, mul_ediv_add_emod -> z8, pow_zero -> yd, lt_of_mul_lt_mul_left -> yf, mul_left_comm -> yh, emod_lt_of_pos -> yk, lt_or_le -> ym, tdiv -> yn, emod_nonneg -> yo, pow_pos -> yq, fdiv_eq_ediv_of_nonneg -> yr, mul_zero -> yt, tmod -> yv, mul_sub -> yy, ediv_lt_of_lt_mul -> yz, add_assoc -> y7, ediv_emod_unique -> y8, ediv_nonneg -> y9, add_zero -> qe, fdiv -> qf, mul_lt_mul_of_pos_left -> qh, tdiv_eq_ediv_of_nonneg -> qi, tmod_eq_emod_of_nonneg -> qj, sub_mul -> qn, le_refl -> qo, mul_one -> qp, ediv_eq_zero_of_lt -> qu, zero_mul -> qz
open Go.Pe.Sh renaming list -> zj, int -> zw, bool -> qm
open List renaming replicate -> zn, getD_eq_getElem?_getD -> zt, take_of_length_le -> zz, append_assoc -> yc, getElem?_eq_getElem -> yi, length_take -> yj, drop_eq_getElem_cons -> ql, mem_append -> qv
open Nat renaming add -> zr, min_eq_left -> yx, add_sub_cancel -> qg, sub -> qt
open Bool renaming and_eq_true -> zu
open BitVec renaming ofInt -> ye
open Option renaming getD -> yg
open Go.Pe.PV renaming agg -> yu
open Min renaming min -> qc
variable {Q:Go.Pe.PV->Go.Pe.Ob->Prop}
namespace Go.Pe
open Sp
open Go.Det
section
open List Int Prod
namespace T147
def T[Srt](w:List Int):Tr:=tree uT false 9 147<|Ag ([zj i64]) w
def L1[Srt](v0:List Int):Tr:=re ((T []))<|Ay 21 [(0,.dat (zj i64) v0)] [] 0
theorem Ak[Srt](w:List Int):T w=L1 w:=by kernel_rfl
theorem Al[Srt](v0:List Int):stepT uT (L1 v0)=let b':=(length v0:Int);let b:Tr:=.leaf (.dat (zj i64) v0) [];let a:=zc .i64<|b'-1;let c:=decide (0<=zc .i64 (b'-1));.di (b'>0) (.ck (c&&decide (zc .i64 (b'-1)<b'))<|.ite (getD v0 (toNat a) 0==0) (.ck (c&&decide (0<=toNat a)&&decide (toNat a<=length v0))<|L1<|take (toNat a) v0) b) b:=by kernel_rfl
end T147
namespace T110
def T[Srt](n:Bool)(w:List Int):Tr:=tree iT false 9 110<|Ag ([qm,zj i64]) (n,w)
theorem Ak[Srt](n:Bool)(w:List Int):T n w=.cd (length w<=20000) (.ite n (.leaf (yu [.dat qm<|decide ((↑(length<|AB w):Int)>0),.dat (zj i64)<|AB w]) [])<|.leaf (yu [.bl false,.dat (zj i64)<|AB w]) []):=by kernel_rfl
end T110
namespace T112
def T[Srt](a b:List Int):Tr:=tree uT false 9 112<|Ag ([zj i64,zj i64]) (a,b)
def L1[Srt](v0 v1:List Int)(v5:Int):Tr:=re ((T [] []).R)<|Ay 41 [(0,.dat (zj i64) v0),(1,.dat (zj i64) v1),(5,.dat i64 v5)] [] 0
theorem Ak[Srt](a b:List Int):T a b=let c:=(length a:Int);.ite (c !=(length b:Int)) (.di (c<(length b:Int)) (.leaf (.dat i64 (-1:Int)) [])<|.leaf (.dat i64 (1:Int)) []) (L1 a b<|zc .i64<|c-1):=by kernel_rfl
theorem Al[Srt](v0 v1:List Int)(v5:Int):stepT uT (L1 v0 v1 v5)=let a:=decide (0<=v5)&&decide (v5<(length v0:Int));let b':=decide (0<=v5)&&decide (v5<(length v1:Int));.di (v5>=0) (.ck a<|.ck b'<|.di (getD v0 (toNat v5) 0<getD v1 (toNat v5) 0) (.leaf (.dat i64 (-1:Int)) [])<|.ck a<|.ck b'<|.di (getD v0 (toNat v5) 0>getD v1 (toNat v5) 0) (.leaf (.dat i64 (1:Int)) [])<|L1 v0 v1<|zc .i64<|v5-1) (.leaf (.dat i64 (0:Int)) []):=by kernel_rfl
end T112
namespace T114
def T[Srt](a b:List Int):Tr:=tree iT false 9 114<|Ag ([zj i64,zj i64]) (a,b)
def L1[Srt](v0 v1:List Int)(a:Nat)(b:Int)(c:List Int):Tr:=re ((T [] []).L)<|Ay 72 [(0,.dat (zj i64) v0),(1,.dat (zj i64) v1),(5,.sl 0 1 0 a none),(6,.dat i64 b)] [(0,.arr false 3 i64 c)] 1
theorem Ak[Srt](a b:List Int):T a b=let c:=(length a:Int)+(length b:Int);let b':=zc .i64 c;.ck (decide (0<=zc .i64 c)&&decide (zc .i64 c=zc .i64 c)&&decide (8*toNat b'<=281474976710656)&&decide (zc .i64 c<9223372036854775808)) (L1 a b (toNat b') 0<|replicate (toNat b') 0):=by kernel_rfl
def L2[Srt](v0 v1:List Int)(a:Nat)(d c b:Int)(e:List Int):Tr:=re ((stepT iT<|L1 [] [] 0 0 []).L)<|Ay 72 [(0,.dat (zj i64) v0),(1,.dat (zj i64) v1),(5,.sl 0 1 0 a none),(6,.dat i64 d),(7,.dat i64 c),(8,.dat i64 b)] [(0,.arr false 3 i64 e)] 1
theorem Al[Srt](v0 v1:List Int)(a:Nat)(c:Int)(b:List Int):stepT iT (L1 v0 v1 a c b)=.di (c<(length v0:Int)) (L2 v0 v1 a c 0 0 b) (.ck (decide (0+a<=length b)&&true&&decide (length (take a b)<=20000))<|.leaf (.dat (zj i64)<|AB<|take a b) []):=by kernel_rfl
theorem AL[Srt](v0 v1:List Int)(a:Nat)(b h c:Int)(d:List Int):stepT iT (L2 v0 v1 a b h c d)=let k:=decide (0<=zc .i64 (b+c))&&decide (zc .i64 (b+c)<(↑a:Int));let e:=zc .i64<|b+c;let g:=(length v1:Int);let l:=zc .i64<|zc .i64 (getD d (toNat e) 0+zc .i64 (getD v0 (toNat b) 0*getD v1 (toNat c) 0))+h;let b':=b+g;let j:=decide (toNat e<length d);let i:=decide (0<=zc .i64 b')&&decide (zc .i64 b'<(↑a:Int));let f:=zc .i64 b';let h':=decide (toNat f<length d);.di (c<g) (.ck k<|.ck j<|.ck (decide (0<=b)&&decide (b<(length v0:Int)))<|.ck (decide (0<=c)&&decide (c<g))<|.ck true<|.ck k<|.ck j<|.ck true<|L2 v0 v1 a b (zc .i64<|yn l 1000000000) (zc .i64<|c+1)<|set d (toNat e)<|yv l 1000000000) (.ck i<|.ck h'<|.ck i<|.ck h'<|L1 v0 v1 a (zc .i64<|b+1)<|set d (toNat f)<|zc .i64<|getD d (toNat f) 0+h):=by kernel_rfl
end T114
namespace T146
def T[Srt](a:List Int)(d:Int):Tr:=tree iT false 9 146<|Ag ([zj i64,zw qw]) (a,d)
def L1[Srt](v0:List Int)(v1:Int)(a:Nat)(c b:Int)(d:List Int):Tr:=re ((T [] 0).L)<|Ay 39 [(0,.dat (zj i64) v0),(1,.dat i64 v1),(6,.sl 0 1 0 a none),(7,.dat i64 c),(8,.dat i64 b)] [(0,.arr false 3 i64 d)] 1
theorem Ak[Srt](a:List Int)(d:Int):T a d=let b:=(length a:Int);.ck (decide (0<=b)&&decide (b=b)&&decide (8*toNat b<=281474976710656)&&decide (b<9223372036854775808)) (L1 a d (toNat b) 0 (zc .i64<|b-1)<|replicate (toNat b) 0):=by kernel_rfl
theorem Al[Srt](v0:List Int)(v1:Int)(a:Nat)(d b:Int)(c:List Int):stepT iT (L1 v0 v1 a d b c)=let e:=zc .i64<|zc .i64 (d*1000000000)+getD v0 (toNat b) 0;.di (b>=0) (.ck (decide (0<=b)&&decide (b<(length v0:Int)))<|.cd (v1≠0)<|.ck (decide (0<=b)&&decide (b<(↑a:Int)))<|.cd (toNat b<length c)<|.cd (v1≠0)<|L1 v0 v1 a (yv e v1) (zc .i64<|b-1)<|set c (toNat b)<|zc .i64<|yn e v1) (.ck (decide (0+a<=length c)&&true&&decide (length (take a c)<=20000))<|.leaf (.tup [.dat (zj i64)<|AB<|take a c,.dat i64 d]) []):=by kernel_rfl
end T146
namespace T109
def T[Srt](a b:List Int):Tr:=tree MI false 9 109<|Ag ([zj i64,zj i64]) (a,b)
def L1[Srt](v0:List Int)(c:Nat)(v9:List Int)(b:Int)(a:Nat)(o1 d:List Int):Tr:=re ((T [] []).L.R.R.L.L.L.L.L)<|Ay 206 [(0,.dat (zj i64) v0),(8,.sl 0 1 0 c none),(9,.dat (zj i64) v9),(10,.dat i64 b),(11,.sl 1 1 0 a none)] [(1,.arr false 3 i64 o1),(0,.arr true 3 i64 d)] 2
theorem Ak[Srt](a b:List Int):T a b=let c:=(length b:Int);let e:=getD b (toNat<|zc .i64<|c-1) 0+1;let d:=yn 1000000000<|zc .i64 e;let b':=Ax a*Ax [zc .i64 d];let f:=B7<|Ax b*Ax [zc .i64 d];.ck (A8 a&&A8 b) (.di (Cp (Ax a) (Ax b)<0) (.leaf (.tup [.nil,.dat (zj i64) a]) [])<|.ite (c==1) (.cd (0<c)<|.ck (Kp a&&decide (0<getD b 0 0)&&decide (getD b 0 0<1000000000))<|.ck (decide (1<=1)&&true&&decide (1<=20000))<|.leaf (.tup [.dat (zj i64)<|B7<|Ax a/getD b 0 0,.dat (zj i64)<|AB [Ax a % getD b 0 0]]) [])<|.ck (decide (0<=zc .i64 (c-1))&&decide (zc .i64 (c-1)<c))<|.cd (zc .i64 e≠0)<|.ck (decide (1<=1)&&true&&(Sp.hR b&&Sp.hR [zc .i64 d]))<|.ck (decide (1<=1)&&true&&(Sp.hR a&&Sp.hR [zc .i64 d]))<|.cd ((3*(0+length (B7 b'))+2000)*8<=562949953421312)<|L1 a 1 f ((↑(length f):Int)) (zr 0<|length<|B7 b') ([]++B7 b')<|[zc .i64 d]):=by kernel_rfl
def L2[Srt](d:Nat)(v9:List Int)(c:Int)(b a:Nat)(e:Int)(f o1 g:List Int):Tr:=re ((stepT MI<|L1 [] 0 [] 0 0 [] []).R.L)<|Ay 206 [(8,.sl 0 1 0 d none),(9,.dat (zj i64) v9),(10,.dat i64 c),(11,.sl 1 1 0 b none),(12,.sl 2 1 0 a none),(13,.dat i64 e)] [(2,.arr false 3 i64 f),(1,.arr false 3 i64 o1),(0,.arr true 3 i64 g)] 3
theorem Al[Srt](v0:List Int)(c:Nat)(v9:List Int)(b:Int)(a:Nat)(o1 e:List Int):stepT MI (L1 v0 c v9 b a o1 e)=let d:=(↑a:Int)-b;let b':=zc .i64 d;.di ((↑a:Int)<zc .i64 ((length v0:Int)+1)) (.ck (decide (a=length o1)&&decide ((3*(a+1)+2000)*8<=562949953421312))<|L1 v0 c v9 b (zr a 1) (o1++[0]) e) (.ck (decide (0<=zc .i64 d)&&decide (zc .i64 d=zc .i64 d)&&decide (8*toNat b'<=281474976710656)&&decide (zc .i64 d<9223372036854775808))<|L2 c v9 b a (toNat b') (zc .i64<|zc .i64 d-1) (replicate (toNat b') 0) o1 e):=by kernel_rfl
def L3[Srt](h:Nat)(v9:List Int)(f:Int)(c b:Nat)(j:Int)(l o1 n:List Int)(g:Nat)(v1:List Int)(v2 m:Int)(e:Int)(a:Int)(d:List Int)(k:List Int)(i:List Int):Tr:=re ((stepT MI<|L2 h v9 f c b j l o1 n).L.L.L.L.L.L.L.L.L)<|Ay 77 [(0,.sl 1 1 0 g none),(1,.dat (zj i64) v1),(2,.dat i64 v2),(7,.dat i64 m),(9,.dat i64 e),(10,.dat i64 a)] [(2,.arr false 3 i64 d),(1,.arr false 3 i64 k),(0,.arr true 3 i64 i)] 3
theorem AL[Srt](f:Nat)(v9:List Int)(d:Int)(a b:Nat)(c:Int)(h o1 g:List Int):stepT MI (L2 f v9 d a b c h o1 g)=let e:=(length v9:Int);let j:=take (toNat d) o1;let k:=toNat<|zc .i64<|e-1;let i:=zc .i64 (c+e)-1;let l:=decide (0<=zc .i64 (e-1))&&decide (zc .i64 (e-1)<e);let m:=zc .i64<|c+e;let b':=zc .i64<|zc .i64 (getD o1 (toNat m) 0*1000000000)+getD o1 (toNat<|zc .i64 i) 0;let h':=decide (getD v9 k 0≠0);.di (c>=0) (.ck (decide (0<=zc .i64 (c+e))&&decide (zc .i64 (c+e)<(↑a:Int)))<|.cd (toNat m<length o1)<|.ck (decide (0<=zc .i64 i)&&decide (zc .i64 i<(↑a:Int)))<|.cd (toNat (zc .i64 i)<length o1)<|.ck l<|.ck h'<|.ck l<|.ck h'<|L3 f v9 d a b c h o1 g a v9 c e (zc .i64<|yn b'<|getD v9 k 0) (yv b'<|getD v9 k 0) h o1 g) (.ck (decide (0<=d)&&true&&decide (0<=toNat d)&&decide (toNat d<=yg none a)&&decide (yg none a<=yg none a)&&true)<|.cd (0<(↑f:Int))<|.cd (0<length g)<|.ck (decide (0+toNat d<=length o1)&&true&&decide (length j<=20000))<|.ck (Kp (AB j)&&decide (0<getD g 0 0)&&decide (getD g 0 0<1000000000))<|.ck (decide (0+b<=length h)&&true&&decide (length (take b h)<=20000))<|.leaf (.tup [.dat (zj i64)<|AB<|take b h,.dat (zj i64)<|B7<|Ax (AB j)/getD g 0 0]) []):=by kernel_rfl
def L4[Srt](f:Nat)(v9:List Int)(c:Int)(b a:Nat)(h e g d:Int)(i o1 j:List Int):Tr:=re ((stepT MI<|L3 0 [] 0 0 0 0 [] [] [] 0 [] 0 0 0 0 [] [] []).L.L.L)<|Ay 206 [(8,.sl 0 1 0 f none),(9,.dat (zj i64) v9),(10,.dat i64 c),(11,.sl 1 1 0 b none),(12,.sl 2 1 0 a none),(13,.dat i64 h),(14,.dat i64 e),(15,.dat i64 g),(16,.dat i64 d)] [(2,.arr false 3 i64 i),(1,.arr false 3 i64 o1),(0,.arr true 3 i64 j)] 3
theorem BT[Srt](i:Nat)(v9:List Int)(f:Int)(b a:Nat)(g:Int)(p o1 q:List Int)(l:Nat)(v1:List Int)(v2 k:Int)(d:Int)(e:Int)(h:List Int)(c:List Int)(j:List Int):stepT MI (L3 i v9 f b a g p o1 q l v1 v2 k d e h c j)=let b':=zc .i64 (v2+k)-2;let o:=e+getD v1 (toNat<|zc .i64<|k-1) 0;let n:=zc .i64<|d-1;let m:Tr:=.ck (decide (0<=zc .i64 (k-1))&&decide (zc .i64 (k-1)<(length v1:Int)))<|.di (zc .i64 o>=1000000000) (L4 i v9 f b a g n 0 0 h c j)<|L3 i v9 f b a g p o1 q l v1 v2 k n (zc .i64 o) h c j;.di (d>=1000000000) m (.ck (decide (0<=zc .i64 (k-2))&&decide (zc .i64 (k-2)<(length v1:Int)))<|.ck (decide (0<=zc .i64 b')&&decide (zc .i64 b'<(↑l:Int)))<|.cd (toNat (zc .i64 b')<length c)<|.di (zc .i64 (d*getD v1 (toNat<|zc .i64<|k-2) 0)>zc .i64 (zc .i64 (e*1000000000)+getD c (toNat<|zc .i64 b') 0)) m<|L4 i v9 f b a g d 0 0 h c j):=by kernel_rfl
def L5[Srt](f:Nat)(v9:List Int)(c:Int)(b a:Nat)(g d e v20:Int)(h o1 i:List Int):Tr:=re ((stepT MI<|L4 0 [] 0 0 0 0 0 0 0 [] [] []).R.L.L.L.L.L.L.L)<|Ay 206 [(8,.sl 0 1 0 f none),(9,.dat (zj i64) v9),(10,.dat i64 c),(11,.sl 1 1 0 b none),(12,.sl 2 1 0 a none),(13,.dat i64 g),(14,.dat i64 d),(19,.dat i64 e),(20,.dat i64 v20)] [(2,.arr false 3 i64 h),(1,.arr false 3 i64 o1),(0,.arr true 3 i64 i)] 3
theorem BU[Srt](g:Nat)(v9:List Int)(d:Int)(b c:Nat)(a f h e:Int)(i o1 k:List Int):stepT MI (L4 g v9 d b c a f h e i o1 k)=let o:=decide (0<=zc .i64 (e+a))&&decide (zc .i64 (e+a)<(↑b:Int));let n:=decide (0<=zc .i64 (a+d))&&decide (zc .i64 (a+d)<(↑b:Int));let r:=zc .i64<|zc .i64 (f*getD v9 (toNat e) 0)+h;let m:=zc .i64<|e+a;let j:=zc .i64<|a+d;let q:=zc .i64<|e+1;let l:=set o1 (toNat j)<|zc .i64<|getD o1 (toNat j) 0-h;let b':=getD o1 (toNat m) 0-yv r 1000000000;let h':=decide (toNat m<length o1);let s:=decide (toNat j<length o1);let p:=yn r 1000000000;.di (e<d) (.ck (decide (0<=e)&&decide (e<(length v9:Int)))<|.ck o<|.ck h'<|.ck true<|.ck true<|.di (zc .i64 b'<0) (.ck o<|.ck h'<|L4 g v9 d b c a f (zc .i64<|zc .i64 p+1) q i (set o1 (toNat m)<|zc .i64<|zc .i64 b'+1000000000) k)<|.ck o<|.ck h'<|L4 g v9 d b c a f (zc .i64 p) q i (set o1 (toNat m)<|zc .i64 b') k) (.ck n<|.ck s<|.ck n<|.ck s<|.ck n<|.cd (toNat j<length l)<|.di (getD l (toNat j) 0<0) (L5 g v9 d b c a (zc .i64<|f-1) 0 0 i l k)<|.ck (decide (0<=a)&&decide (a<(↑c:Int)))<|.cd (toNat a<length i)<|L2 g v9 d b c (zc .i64<|a-1) (set i (toNat a) f) l k):=by kernel_rfl
theorem Fi[Srt](g:Nat)(v9:List Int)(c:Int)(b d:Nat)(a e f v20:Int)(h o1 k:List Int):stepT MI (L5 g v9 c b d a e f v20 h o1 k)=let b':=decide (0<=zc .i64 (v20+a))&&decide (zc .i64 (v20+a)<(↑b:Int));let o:=decide (0<=zc .i64 (a+c))&&decide (zc .i64 (a+c)<(↑b:Int));let i:=zc .i64<|v20+a;let j:=zc .i64<|a+c;let m:=zc .i64<|zc .i64 (getD o1 (toNat i) 0+getD v9 (toNat v20) 0)+f;let n:=decide (toNat i<length o1);let l:=decide (toNat j<length o1);.di (v20<c) (.ck b'<|.ck n<|.ck (decide (0<=v20)&&decide (v20<(length v9:Int)))<|.ck true<|.ck b'<|.ck n<|.ck true<|L5 g v9 c b d a e (zc .i64<|yn m 1000000000) (zc .i64<|v20+1) h (set o1 (toNat i)<|yv m 1000000000) k) (.ck o<|.ck l<|.ck o<|.ck l<|.ck (decide (0<=a)&&decide (a<(↑d:Int)))<|.cd (toNat a<length h)<|L2 g v9 c b d (zc .i64<|a-1) (set h (toNat a) e) (set o1 (toNat j)<|zc .i64<|getD o1 (toNat j) 0+f) k):=by kernel_rfl
end T109
namespace T102
def T[Srt](a b:List Int):Tr:=tree XG3 false 9 102<|Ag ([zj i64,zj i64]) (a,b)
def L1[Srt](v0 v1:List Int):Tr:=re ((T [] []))<|Ay 19 [(0,.dat (zj i64) v0),(1,.dat (zj i64) v1)] [] 0
theorem Ak[Srt](a b:List Int):T a b=L1 a b:=by kernel_rfl
theorem Al[Srt](v0 v1:List Int):stepT XG3 (L1 v0 v1)=.di ((length v1:Int)>0) (.ck (A8 v0&&A8 v1&&decide (length v0<=9000)&&decide (length v1<=9000)&&decide (0<Ax v1))<|L1 v1<|B7<|Ax v0 % Ax v1) (.leaf (.dat (zj i64) v0) []):=by kernel_rfl
end T102
namespace T104
def T[Srt](s:Rd):Tr:=tree uT false 9 104<|Ag ([Sh.str]) s
def L1[Srt](v0:Rd)(v3 v4:Int):Tr:=re ((T []))<|Ay 20 [(0,.dat Sh.str v0),(3,.dat i64 v3),(4,.dat i64 v4)] [] 0
theorem Ak[Srt](s:Rd):T s=L1 s 0 0:=by kernel_rfl
theorem Al[Srt](v0:Rd)(v3 v4:Int):stepT uT (L1 v0 v3 v4)=let a:=decide (v4<(length v0:Int));.ite a (.ck (decide (0<=v4)&&a)<|L1 v0 (zc .i64<|zc .i64 (zc .i64 (10*v3)+zc .i64 (↑(UInt8.toNat<|getD v0 (toNat v4) (0:UInt8)):Int))-48)<|zc .i64<|v4+1) (.leaf (.dat i64 v3) []):=by kernel_rfl
end T104
namespace T107
def T[Srt](s:Rd):Tr:=tree iS false 9 107<|Ag ([Sh.str]) s
def L1[Srt](v0:Rd)(v3:Bool):Tr:=re ((T []).L.L.L.L)<|Ay 40 [(0,.dat Sh.str v0),(2,.ptr 0 0),(3,.dat qm v3),(4,.nil)] [(0,.box [.bl false,.nil])] 1
def L2[Srt](v0:Rd):Tr:=re ((T []).R)<|Ay 40 [(0,.dat Sh.str v0),(2,.ptr 0 0),(3,.bl false),(4,.nil)] [(0,.box [.bl false,.nil])] 1
theorem Ak[Srt](s:Rd):T s=let a:=(↑(UInt8.toNat<|getD s 0 (0:UInt8)):Int)==45;.di ((length s:Int)>0) (.cd (0<(length s:Int))<|.ite a (.ck (decide (1<=length s)&&decide (length s<=length s))<|L1 (take (qt (length s) 1)<|drop 1 s) a)<|L1 s a) (L2 s):=by kernel_rfl
def L3[Srt](v0:Rd)(v3:Bool)(a:Nat)(o1:List Int):Tr:=re ((stepT iS<|L1 [] false).L.L.L.L.L)<|Ay 40 [(0,.dat Sh.str v0),(2,.ptr 0 0),(3,.dat qm v3),(4,.sl 1 1 0 a none)] [(1,.arr false 3 i64 o1),(0,.box [.bl false,.nil])] 2
theorem Al[Srt](v0:Rd)(v3:Bool):stepT iS (L1 v0 v3)=let b':=aa 8;let b:=(length v0:Int);let a:=zc .i64<|b-9;let c:=decide (0<=zc .i64 (b-9));let e:=take (qt (length v0)<|toNat a)<|drop (toNat a) v0;let d:=decide (toNat a<=length v0);.di (b>9) (.ck (c&&true&&d&&decide (length v0<=length v0))<|.ck (DU e)<|.ck b'<|.ck (c&&decide (0<=toNat a)&&d)<|L3 (take (toNat a) v0) v3 1<|[BO e]) (.ck (DU v0)<|.ck b'<|.ck (decide (0+1<=1)&&true&&decide (1<=20000))<|.leaf (yu [.dat qm<|CY v3 [BO v0],.dat (zj i64)<|AB [BO v0]]) []):=by kernel_rfl
def L4[Srt](v0:Rd)(a:Nat)(o1:List Int):Tr:=re ((stepT iS<|L2 []).L.L.L.L.L)<|Ay 40 [(0,.dat Sh.str v0),(2,.ptr 0 0),(3,.bl false),(4,.sl 1 1 0 a none)] [(1,.arr false 3 i64 o1),(0,.box [.bl false,.nil])] 2
theorem AL[Srt](v0:Rd):stepT iS (L2 v0)=let b':=aa 8;let b:=(length v0:Int);let a:=zc .i64<|b-9;let c:=decide (0<=zc .i64 (b-9));let e:=take (qt (length v0)<|toNat a)<|drop (toNat a) v0;let d:=decide (toNat a<=length v0);.di (b>9) (.ck (c&&true&&d&&decide (length v0<=length v0))<|.ck (DU e)<|.ck b'<|.ck (c&&decide (0<=toNat a)&&d)<|L4 (take (toNat a) v0) 1<|[BO e]) (.ck (DU v0)<|.ck b'<|.ck (decide (0+1<=1)&&true&&decide (1<=20000))<|.leaf (yu [.dat qm<|CY false [BO v0],.dat (zj i64)<|AB [BO v0]]) []):=by kernel_rfl
theorem BT[Srt](v0:Rd)(v3:Bool)(a:Nat)(o1:List Int):stepT iS (L3 v0 v3 a o1)=let b':=ac a (length o1) 8;let d:=take (zr a 1)<|o1++[BO v0];let c:=(length v0:Int);let b:=zc .i64<|c-9;let f:=decide (0<=zc .i64 (c-9));let g:=take (qt (length v0)<|toNat b)<|drop (toNat b) v0;let e:=decide (toNat b<=length v0);.di (c>9) (.ck (f&&true&&e&&decide (length v0<=length v0))<|.ck (DU g)<|.ck b'<|.ck (f&&decide (0<=toNat b)&&e)<|L3 (take (toNat b) v0) v3 (zr a 1)<|o1++[BO g]) (.ck (DU v0)<|.ck b'<|.ck (decide (0+zr a 1<=length (o1++[BO v0]))&&true&&decide (length d<=20000))<|.leaf (yu [.dat qm<|CY v3 d,.dat (zj i64)<|AB d]) []):=by kernel_rfl
theorem BU[Srt](v0:Rd)(a:Nat)(o1:List Int):stepT iS (L4 v0 a o1)=let b':=ac a (length o1) 8;let d:=take (zr a 1)<|o1++[BO v0];let c:=(length v0:Int);let b:=zc .i64<|c-9;let f:=decide (0<=zc .i64 (c-9));let g:=take (qt (length v0)<|toNat b)<|drop (toNat b) v0;let e:=decide (toNat b<=length v0);.di (c>9) (.ck (f&&true&&e&&decide (length v0<=length v0))<|.ck (DU g)<|.ck b'<|.ck (f&&decide (0<=toNat b)&&e)<|L4 (take (toNat b) v0) (zr a 1)<|o1++[BO g]) (.ck (DU v0)<|.ck b'<|.ck (decide (0+zr a 1<=length (o1++[BO v0]))&&true&&decide (length d<=20000))<|.leaf (yu [.dat qm<|CY false d,.dat (zj i64)<|AB d]) []):=by kernel_rfl
end T107
namespace T77n
def T[Srt](n:Int):Tr:=tree XF0 false 9 77<|Ag ([zw qw]) n
theorem Ak[Srt](n:Int):T n=.leaf (yu [.dat i64 n,.nil]) []:=by kernel_rfl
end T77n
namespace T169
def T[Srt](a b:AJ):Tr:=tree XF1 false 9 169<|Ag ([A0,A0]) (a,b)
def L1[Srt](e:Bool)(c b:List Int)(d o1 f:Int)(a:List Int):Tr:=re ((T (0,[]) (0,[])).L.L.R.L.L.L)<|Ay 84 [(3,.ptr 0 0),(4,.ptr 1 0),(5,.ptr 2 0),(8,.dat qm e),(12,.dat (zj<|zw zh) c),(13,.dat (zj<|zw zh) b)] [(2,.box [.dat i64 d,.nil]),(1,.box [.dat i64 o1,.nil]),(0,.box [.dat i64 f,.dat wU a])] 3
theorem Ak[Srt](a b:AJ):T a b=let b':=Bs<|Ah<|zi a;let c:=Bs<|Ah<|zi b;let e:=yn (fst a)<|fst b;let d:Tr:=.ck (qy a)<|.ck (qy b)<|.ck (UC b' c)<|L1 (decide (zi a<0)) (Bs<|As b'/As c) (Bs<|As b' % As c) 0 0 (fst b)<|snd b;.ite (!decide (0<length (snd a))) (.ite (!decide (0<length (snd b))) (.ite (fst a !=(-9223372036854775808)) (.cd (fst b≠0)<|.cd (fst b≠0)<|.di (yv (fst a) (fst b)<0) (.leaf (.tup [yu [.dat i64<|zc .i64<|zc .i64 e-1,.nil],yu [.dat i64<|zc .i64<|yv (fst a) (fst b)+fst b,.nil]]) [])<|.leaf (.tup [yu [.dat i64<|zc .i64 e,.nil],yu [.dat i64<|yv (fst a)<|fst b,.nil]]) []) d) d) d:=by kernel_rfl
def L2[Srt](f:Int)(c:List Int)(d:Int)(a:List Int)(e o1 g:Int)(b:List Int):Tr:=re ((stepT XF1<|L1 false [] [] 0 0 0 []).L.L)<|Ay 84 [(3,.ptr 0 0),(4,.ptr 1 0),(5,.ptr 2 0),(14,.ptr 3 0),(15,.ptr 4 0)] [(4,.box [.dat i64 f,.dat wU c]),(3,.box [.dat i64 d,.dat wU a]),(2,.box [.dat i64 e,.nil]),(1,.box [.dat i64 o1,.nil]),(0,.box [.dat i64 g,.dat wU b])] 5
theorem Al[Srt](d:Bool)(c b:List Int)(g o1 f:Int)(a:List Int):stepT XF1 (L1 d c b g o1 f a)=let e:=qq d<|As b;let b':=qq d<|As c;.ck (Cj c) (.ck (Cj b)<|L2 (CP e) (CO e) (CP b') (CO b') g o1 f a):=by kernel_rfl
theorem AL[Srt](d:Int)(a:List Int)(e:Int)(b:List Int)(g o1 f:Int)(c:List Int):stepT XF1 (L2 d a e b g o1 f c)=.ck (qy (d,a)) (.di (It (d,a)<0) (.ck true<|.ck (A9 (e,b)&&A9 (1,Bo 1))<|.ck (A9 (d,a)&&A9 (f,c))<|.leaf (.tup [yu [.dat i64<|bW (e,b) (1,Bo 1),.dat wU<|aL (e,b) (1,Bo 1)],yu [.dat i64<|Kn (d,a) (f,c),.dat wU<|Kf (d,a) (f,c)]]) [])<|.leaf (.tup [yu [.dat i64 e,.dat wU b],yu [.dat i64 d,.dat wU a]]) []):=by kernel_rfl
end T169
namespace T140
def T[Srt](a b:AJ):Tr:=tree XF2 false 9 140<|Ag ([A0,A0]) (a,b)
def L1[Srt](c o1:Int)(a:List Int)(d:Int)(b:List Int):Tr:=re ((T (0,[]) (0,[])).L.L)<|Ay 23 [(2,.ptr 0 0),(3,.ptr 1 0),(4,.ptr 2 0)] [(2,.box [.dat i64 c,.nil]),(1,.box [.dat i64 o1,.dat wU a]),(0,.box [.dat i64 d,.dat wU b])] 3
theorem Ak[Srt](a b:AJ):T a b=.ck (qy a) (.ck (qy b)<|L1 0 (PH b) (QB b) (PH a)<|QB a):=by kernel_rfl
theorem Al[Srt](d o1:Int)(a:List Int)(c:Int)(b:List Int):stepT XF2 (L1 d o1 a c b)=.ck (qy (o1,a)) (.ite (It (o1,a) !=0) (.ck (A9 (c,b)&&A9 (o1,a)&&decide (0<zi (o1,a)))<|L1 d (jK (c,b) (o1,a)) (mL (c,b) (o1,a)) o1 a)<|.leaf (yu [.dat i64 c,.dat wU b]) []):=by kernel_rfl
end T140
namespace T160
def T[Srt](a:AJ)(k:Int):Tr:=tree XF3 false 9 160<|Ag ([A0,zw qw]) (a,k)
def L1[Srt](v1 c:Int)(a:List Int)(o1 d:Int)(b:List Int):Tr:=re ((T (0,[]) 0).L)<|Ay 23 [(1,.dat i64 v1),(2,.ptr 0 0),(4,.ptr 1 0),(5,.ptr 2 0)] [(2,.box [.dat i64 c,.dat wU a]),(1,.box [.dat i64 o1,.nil]),(0,.box [.dat i64 d,.dat wU b])] 3
theorem Ak[Srt](a:AJ)(k:Int):T a k=.ck true (L1 k 1 (Bo 1) 0 (fst a)<|snd a):=by kernel_rfl
theorem Al[Srt](v1 d:Int)(b:List Int)(o1 c:Int)(a:List Int):stepT XF3 (L1 v1 d b o1 c a)=let e:=qf v1<|2^1;let b':=A9 (c,a)&&A9 (c,a);let i:=E7 (d,b) (c,a);let f:=E2 (d,b) (c,a);let g:=E7 (c,a) (c,a);let h:=E2 (c,a) (c,a);.di (v1>0) (.ite (H3 qw v1 1==1) (.ck (A9 (d,b)&&A9 (c,a))<|.di (v1>1) (.ck b'<|.ck true<|L1 e i f o1 g h)<|.ck true<|L1 e i f o1 c a)<|.di (v1>1) (.ck b'<|.ck true<|L1 e d b o1 g h)<|.ck true<|L1 e d b o1 c a) (.leaf (yu [.dat i64 d,.dat wU b]) []):=by kernel_rfl
end T160
namespace T178
def T[Srt](a b:List Int):Tr:=tree J6 false 9 178<|Ag ([zj<|zw zh,zj<|zw zh]) (a,b)
def L1[Srt](v0 v1:List Int)(a:Nat)(c b:Int)(d:List Int):Tr:=re ((T [] []).L.R.L.L)<|Ay 137 [(0,.dat (zj<|zw zh) v0),(1,.dat (zj<|zw zh) v1),(6,.sl 0 1 0 a none),(7,.dat (zw zh) c),(8,.dat i64 b)] [(0,.arr false 185 (zw zh) d)] 1
def L2[Srt](a b:List Int)(v1:Int)(d:Nat)(f:List Int)(c e:Int)(g:List Int):Tr:=re ((T a b).L.R.R.L.L.L)<|Ay 40 [(1,.dat i64 v1),(5,.sl 0 1 0 d none),(12,.dat (zj<|zw zh) f),(13,.dat i64 c),(14,.dat i64 e)] [(0,.arr false 185 (zw zh) g)] 1
theorem Ak[Srt](a b:List Int):T a b=let c:=(length b:Int);let b':=(length a:Int);let d:=zc .i64<|c+1;let e:=getD b (toNat<|zc .i64<|c-1) 0;.ck (Cj a&&Cj b) (.di (Cp (As a) (As b)<0) (.leaf (.tup [.nil,.dat (zj<|zw zh) a]) [])<|.ite (c==1) (.ck (decide (0<=b')&&decide (b'=b')&&decide (8*toNat b'<=281474976710656)&&decide (b'<9223372036854775808))<|L1 a b (toNat b') 0 (zc .i64<|b'-1)<|replicate (toNat b') 0)<|.ck (decide (0<=zc .i64 (c-1))&&decide (zc .i64 (c-1)<c))<|.ck (zx e)<|.ck (decide (0<=zc .i64 (c+1))&&decide (zc .i64 (c+1)=zc .i64 (c+1))&&decide (8*toNat d<=281474976710656)&&decide (zc .i64 (c+1)<9223372036854775808))<|L2 a b (Sp.lz e) (toNat d) b c 0<|replicate (toNat d) 0):=by kernel_rfl
theorem Al[Srt](v0 v1:List Int)(a:Nat)(c b:Int)(d:List Int):stepT J6 (L1 v0 v1 a c b d)=let e:=getD v0 (toNat b) 0;let b':=zj<|zw zh;.di (b>=0) (.ck (decide (0<=b)&&decide (b<(length v0:Int)))<|.cd (0<(length v1:Int))<|.ck (zx c&&zx e&&zx (getD v1 0 0)&&decide (c<getD v1 0 0))<|.ck (decide (0<=b)&&decide (b<(↑a:Int)))<|.cd (toNat b<length d)<|L1 v0 v1 a (Sp.dr c e<|getD v1 0 0) (zc .i64<|b-1)<|set d (toNat b)<|Sp.dq c e<|getD v1 0 0) (.ck (decide (0+a<=length d)&&true&&CT (take a d))<|.ck (decide (1<=1)&&true&&CT [c])<|.leaf (.tup [.dat b'<|AB<|take a d,.dat b'<|AB [c]]) []):=by kernel_rfl
def L3[Srt](a b:List Int)(v1:Int)(l:Nat)(i:List Int)(k h:Int)(m:List Int)(g:Int)(f:Nat)(e:List Int)(c:Int)(d:Int)(o1:List Int)(j:List Int):Tr:=re ((stepT J6<|L2 a b v1 l i k h m).R.L.L)<|Ay 40 [(1,.dat i64 g),(5,.sl 1 1 0 f none),(12,.dat (zj<|zw zh) e),(13,.dat i64 c),(14,.dat i64 d)] [(1,.arr false 185 (zw zh) o1),(0,.arr true 185 (zw zh) j)] 2
theorem AL[Srt](a b:List Int)(v1:Int)(d:Nat)(e:List Int)(f c:Int)(g:List Int):stepT J6 (L2 a b v1 d e f c g)=let j:=set g (toNat c)<|fT zh (getD g (toNat c) 0)<|zc .u64<|getD e (toNat c) 0*2^qc (toNat v1) 64;let b':=(length a:Int)+1;let h:=zc .i64<|c+1;let k:=decide (0<=c)&&decide (c<(↑d:Int));let l:=decide (toNat c<length g);let i:=zc .i64 b';.di (c<f) (.ck (decide (0<=c)&&decide (c<(length e:Int)))<|.ck k<|.ck l<|.cd (0<=v1)<|.ck k<|.ck l<|.di (v1>0) (.cd (0<=zc .i64 (64-v1))<|.ck (decide (0<=zc .i64 (c+1))&&decide (zc .i64 (c+1)<(↑d:Int)))<|.cd (toNat h<length j)<|L2 a b v1 d e f h<|set j (toNat h)<|qf (getD e (toNat c) 0)<|2^qc (toNat<|zc .i64<|64-v1) 64)<|L2 a b v1 d e f h j) (.ck (decide (0+d<=length g)&&true&&CT (take d g))<|.ck (decide (0<=zc .i64 b')&&decide (zc .i64 b'=zc .i64 b')&&decide (8*toNat i<=281474976710656)&&decide (zc .i64 b'<9223372036854775808))<|L3 a b v1 d e f c g (Sp.lz<|getD b (toNat<|zc .i64<|(length b:Int)-1) 0) (toNat i) a ((length a:Int)) 0 (replicate (toNat i) 0) g):=by kernel_rfl
def L4[Srt](v9:Int)(c:List Int)(b:Nat)(e:Int)(a:Nat)(d:Int)(o1 f:List Int):Tr:=re ((stepT J6<|L3 [] [] 0 0 [] 0 0 [] 0 0 [] 0 0 [] []).R.L)<|Ay 137 [(9,.dat i64 v9),(10,.dat (zj<|zw zh) c),(11,.sl 0 1 0 b none),(12,.dat i64 e),(13,.sl 1 1 0 a none),(14,.dat i64 d)] [(1,.arr false 185 (zw zh) o1),(0,.arr false 185 (zw zh) f)] 2
theorem BT[Srt](a b:List Int)(v1:Int)(h:Nat)(j:List Int)(i l:Int)(o:List Int)(f:Int)(d:Nat)(e:List Int)(g:Int)(c:Int)(o1:List Int)(k:List Int):stepT J6 (L3 a b v1 h j i l o f d e g c o1 k)=let b':=set o1 (toNat c)<|fT zh (getD o1 (toNat c) 0)<|zc .u64<|getD e (toNat c) 0*2^qc (toNat f) 64;let n:=zc .i64<|c+1;let s:=decide (0<=c)&&decide (c<(↑d:Int));let r:=decide (toNat c<length o1);let h':=AB<|take h o;let q:=(↑(length h'):Int);let m:=zc .i64 ((length a:Int)-q)+1;let p:=zc .i64 m;.di (c<g) (.ck (decide (0<=c)&&decide (c<(↑(length e):Int)))<|.ck s<|.ck r<|.cd (0<=f)<|.ck s<|.ck r<|.di (f>0) (.cd (0<=zc .i64 (64-f))<|.ck (decide (0<=zc .i64 (c+1))&&decide (zc .i64 (c+1)<(↑d:Int)))<|.cd (toNat n<length b')<|L3 a b v1 h j i l o f d e g n (set b' (toNat n)<|qf (getD e (toNat c) 0)<|2^qc (toNat<|zc .i64<|64-f) 64) k)<|L3 a b v1 h j i l o f d e g n b' k) (.ck (decide (0<=zc .i64 m)&&decide (zc .i64 m=zc .i64 m)&&decide (8*toNat p<=281474976710656)&&decide (zc .i64 m<9223372036854775808))<|L4 (Sp.lz<|getD b (toNat<|zc .i64<|(length b:Int)-1) 0) h' d q (toNat p) (zc .i64<|(length a:Int)-q) (replicate (toNat p) 0) o1):=by kernel_rfl
def L5[Srt](v9:Int)(c:List Int)(b:Nat)(g:Int)(a:Nat)(f:Int)(o1 n:List Int)(e d i:Nat)(v1:List Int)(v5 l m k:Int)(j:List Int)(h:List Int):Tr:=re ((stepT J6<|L4 v9 c b g a f o1 n).L.L.L.L.L.L.L.L.L.L)<|Ay 186 [(0,.sl 0 1 e d<|Option.some i),(1,.dat (zj<|zw zh) v1),(5,.dat i64 v5),(6,.dat (zw zh) l),(7,.dat (zw zh) m),(8,.dat (zw zh) k)] [(1,.arr false 185 (zw zh) j),(0,.arr false 185 (zw zh) h)] 2
def L6[Srt](v9:Int)(b:Nat)(e:Int)(a:Nat)(d c:Int)(o1 f:List Int):Tr:=re ((stepT J6<|L4 0 [] 0 0 0 0 [] []).R)<|Ay 137 [(9,.dat i64 v9),(11,.sl 0 1 0 b none),(12,.dat i64 e),(13,.sl 1 1 0 a none),(96,.dat i64 d),(97,.dat i64 c)] [(1,.arr false 185 (zw zh) o1),(0,.arr false 185 (zw zh) f)] 2
theorem BU[Srt](v9:Int)(c:List Int)(a:Nat)(e:Int)(d:Nat)(b:Int)(o1 f:List Int):stepT J6 (L4 v9 c a e d b o1 f)=let g:=(length c:Int);let j:=zr 0<|toNat b;let o:=qt (yg none a)<|toNat b;let p':=zc .i64 (b+e)+1;let k:=toNat<|zc .i64<|g-1;let l:=zc .i64 p';let h':=zr (toNat g) j;let l':=decide (zr (toNat g) j<length f);let n':=decide (0<=zc .i64 (g-1));let b':=qt (toNat l)<|toNat b;let n:=n'&&decide (zc .i64 (g-1)<g);let h:=getD f (zr k j) 0;let i:=getD c k 0;let o':=decide (zr k j<length f);let m:=getD f h' 0;let q:=n'&&decide (zc .i64 (g-1)<(↑b':Int));let p:=decide (0<=g)&&decide (g<(↑b':Int));.di (b>=0) (.ck (decide (0<=b)&&decide (0<=zc .i64 p')&&true&&decide (toNat b<=toNat l)&&decide (toNat l<=yg none a)&&decide (yg none a<=yg none a)&&true)<|.ck p<|.ck l'<|.ck n<|.di (getD f h' 0>=getD c k 0) (.ck q<|.ck o'<|.ck n<|.ck (zx h&&zx i&&decide ((0:Sh.T (BA [u64]))<=0)&&decide (0<=(1:Sh.T (BA [u64]))))<|L5 v9 c a e d b o1 f j b' o c g 18446744073709551615 (Iv h i 0) (QS h i 0) o1 f)<|.ck p<|.ck l'<|.ck q<|.ck o'<|.ck n<|.ck (zx m&&zx h&&zx i&&decide (getD f h' 0<getD c k 0))<|L5 v9 c a e d b o1 f j b' o c g (Sp.dq m h i) (Sp.dr m h i) 0 o1 f) (L6 v9 a e d e 0 o1 f):=by kernel_rfl
def L7[Srt](v9:Int)(f:List Int)(b:Nat)(k:Int)(a:Nat)(i:Int)(o1 p:List Int)(h g m:Nat)(v1:List Int)(v5 o j:Int)(e:Int)(d c:Int)(n:List Int)(l:List Int):Tr:=re ((stepT J6<|L5 v9 f b k a i o1 p 0 0 0 [] 0 0 0 0 [] []).L.L.L.L)<|Ay 186 [(0,.sl 0 1 h g<|Option.some m),(1,.dat (zj<|zw zh) v1),(5,.dat i64 v5),(6,.dat (zw zh) o),(11,.dat (zw zh) j),(12,.dat (zw zh) e),(104,.dat i64 d),(105,.dat i64 c)] [(1,.arr false 185 (zw zh) n),(0,.arr false 185 (zw zh) l)] 2
theorem Fi[Srt](v9:Int)(f:List Int)(c:Nat)(i:Int)(a:Nat)(g:Int)(o1 p:List Int)(b e j:Nat)(v1:List Int)(v5 h l r:Int)(k:List Int)(d:List Int):stepT J6 (L5 v9 f c i a g o1 p b e j v1 v5 h l r k d)=let b':=toNat<|zc .i64<|v5-2;let o:=L7 v9 f c i a g o1 p b e j v1 v5 h 0 0 v5 0 k d;let n:=getD v1 (toNat<|zc .i64<|v5-1) 0;let s:=decide (0<=zc .i64 (v5-2));let q:Tr:=.ck (decide (0<=zc .i64 (v5-1))&&decide (zc .i64 (v5-1)<(length v1:Int)))<|.ck (zx l&&zx n&&decide ((0:Sh.T (BA [u64]))<=0)&&decide (0<=(1:Sh.T (BA [u64]))))<|L5 v9 f c i a g o1 p b e j v1 v5 (zc .u64<|h-1) (Iv l n 0) (QS l n 0) k d;let m:=getD v1 b' 0;.ite (r==0) (.ck (s&&decide (zc .i64 (v5-2)<(length v1:Int)))<|.ck (zx h&&zx m)<|.di (RZ h m<l) o<|.ite (RZ h m==l) (.ck (s&&decide (zc .i64 (v5-2)<(↑e:Int)))<|.cd (zr b' b<length d)<|.di (IC h m<=getD d (zr b' b) 0) o q) q) o:=by kernel_rfl
theorem GG[Srt](v9:Int)(b:Nat)(d:Int)(c:Nat)(e a:Int)(o1 f:List Int):stepT J6 (L6 v9 b d c e a o1 f)=let g:=set f (toNat a)<|qf (getD f (toNat a) 0)<|2^qc (toNat v9) 64;let b':=decide (0<=a)&&decide (a<(↑b:Int));let h:=zc .i64<|a+1;let j:=decide (zc .i64 (a+1)<(↑b:Int));let l:=decide (toNat a<length f);let h':=zj<|zw zh;let k:=L6 v9 b d c e h o1 g;let i:=decide (toNat a<length g);.di (a<e) (.ck b'<|.ck l<|.cd (0<=v9)<|.ck b'<|.ck l<|.di (v9>0) (.ite j (.ck b'<|.ck i<|.ck (decide (0<=zc .i64 (a+1))&&j)<|.cd (toNat h<length g)<|.cd (0<=zc .i64 (64-v9))<|.ck b'<|.ck i<|L6 v9 b d c e h o1<|set g (toNat a)<|fT zh (getD g (toNat a) 0)<|zc .u64<|getD g (toNat h) 0*2^qc (toNat<|zc .i64<|64-v9) 64) k) k) (.ck (decide (0<=d)&&true&&decide (0<=toNat d)&&decide (toNat d<=yg none b)&&decide (yg none b<=yg none b)&&true)<|.ck (decide (0+c<=length o1)&&true&&CT (take c o1))<|.ck (decide (0+toNat d<=length f)&&true&&CT (take (toNat d) f))<|.leaf (.tup [.dat h'<|AB<|take c o1,.dat h'<|AB<|take (toNat d) f]) []):=by kernel_rfl
def L8[Srt](v9:Int)(e:List Int)(b:Nat)(i:Int)(a:Nat)(h:Int)(o1 o:List Int)(g f l:Nat)(v1:List Int)(v5 n j c d:Int)(m:List Int)(k:List Int):Tr:=re ((stepT J6<|L7 v9 e b i a h o1 o 0 0 0 [] 0 0 0 0 0 0 [] []).R.L.L.L.L.L.R)<|Ay 186 [(0,.sl 0 1 g f<|Option.some l),(1,.dat (zj<|zw zh) v1),(5,.dat i64 v5),(6,.dat (zw zh) n),(17,.dat (zw zh) j),(156,.dat i64 c),(157,.dat i64 d)] [(1,.arr false 185 (zw zh) m),(0,.arr false 185 (zw zh) k)] 2
theorem GQ[Srt](v9:Int)(l:List Int)(h:Nat)(m:Int)(d:Nat)(e:Int)(o1 v:List Int)(f i o:Nat)(v1:List Int)(v5 n c:Int)(b:Int)(j a:Int)(k:List Int)(g:List Int):stepT J6 (L7 v9 l h m d e o1 v f i o v1 v5 n c b j a k g)=let b':=zr (toNat v5) f;let s:=getD v1 (toNat a) 0;let y:=decide (zr (toNat a) f<length g);let x:=decide (zr (toNat v5) f<length g);let h':=decide (0<=a)&&decide (a<(↑i:Int));let u:=(0:Sh.T (BA [u64]));let r:=(1:Sh.T (BA [u64]));let w:=decide (0<=v5)&&decide (v5<(↑i:Int));let n':=zr (toNat a) f;let q:=IC n s;let t:=getD g n' 0;let p:=getD g b' 0;let z:=set g b'<|U6 p b c;let l':=Iv q b 0;.di (a<j) (.ck (decide (0<=a)&&decide (a<(length v1:Int)))<|.ck (zx n&&zx s)<|.ck (zx q&&zx b&&decide (u<=0)&&decide (0<=r))<|.ck h'<|.ck y<|.ck (zx t&&zx l'&&decide (u<=c)&&decide (c<=r))<|.ck h'<|.ck y<|L7 v9 l h m d e o1 v f i o v1 v5 n (Rh t l' c) (zc .u64<|RZ n s+QS q b 0) j (zc .i64<|a+1) k<|set g n'<|U6 t l' c) (.ck w<|.ck x<|.ck (zx p&&zx b&&decide (u<=c)&&decide (c<=r))<|.ck w<|.ck x<|.ite (Rh p b c==0) (.ck (decide (0<=e)&&decide (e<(↑d:Int)))<|.cd (toNat e<length k)<|L4 v9 l h m d (zc .i64<|e-1) (set k (toNat e) n) z)<|L8 v9 l h m d e o1 v f i o v1 v5 n 0 v5 0 k z):=by kernel_rfl
theorem Kg[Srt](v9:Int)(k:List Int)(g:Nat)(l:Int)(d:Nat)(b:Int)(o1 u:List Int)(e i m:Nat)(v1:List Int)(v5 o f h a:Int)(j:List Int)(c:List Int):stepT J6 (L8 v9 k g l d b o1 u e i m v1 v5 o f h a j c)=let b':=decide (zr (toNat a) e<length c);let p:=getD v1 (toNat a) 0;let r:=decide (zr (toNat v5) e<length c);let s:=decide (0<=a)&&decide (a<(↑i:Int));let t:=decide (0<=v5)&&decide (v5<(↑i:Int));let q:=zr (toNat a) e;let h':=zr (toNat v5) e;let n:=getD c q 0;.di (a<h) (.ck s<|.ck b'<|.ck (decide (0<=a)&&decide (a<(length v1:Int)))<|.ck (zx n&&zx p&&decide ((0:Sh.T (BA [u64]))<=f)&&decide (f<=(1:Sh.T (BA [u64]))))<|.ck s<|.ck b'<|L8 v9 k g l d b o1 u e i m v1 v5 o (QS n p f) h (zc .i64<|a+1) j<|set c q<|Iv n p f) (.ck t<|.ck r<|.ck t<|.ck r<|.ck (decide (0<=b)&&decide (b<(↑d:Int)))<|.cd (toNat b<length j)<|L4 v9 k g l d (zc .i64<|b-1) (set j (toNat b)<|zc .u64<|o-1)<|set c h'<|zc .u64<|getD c h' 0+f):=by kernel_rfl
end T178
end
namespace T178
theorem dqr{r x d:Int}(a:0<d)(hr:0<=r/\r<d)(b:0<=x/\x<18446744073709551616):Sp.dq r x d*d+Sp.dr r x d=r*18446744073709551616+x/\0<=Sp.dq r x d/\Sp.dq r x d<18446744073709551616/\0<=Sp.dr r x d/\Sp.dr r x d<d:=by
 unfold Sp.dq Sp.dr;have h:=z8 (r*18446744073709551616+x) d;rw[zm]at h;refine⟨h,y9 ae ae,yz a ae,yo _ ae,yk _ a⟩
theorem Ar[Srt](a:List Int)(d:Int)(g:Az Ao a)(e:0<d/\d<18446744073709551616)(t:a.length<=20000)(h:∀q r ob,Az Ao q->(0<=r/\r<d)->As a=As q*d+r->Q (.tup [.dat Dj<|AB q,.dat Dj<|AB [r]]) ob):∀(i:Nat) (q:List Int) (r:Int),i+q.length=a.length->Az Ao q->(0<=r/\r<d)->ze Ao (a.drop i)=ze Ao q*d+r->
  Ends J6 (L1 a [d] a.length r ((i:Int)-1)<|zn i 0++q) Q
 |0,q,r,m,b,hr,f=>by
  have n:((zn 0 0++q).take a.length)=q:=by
   rw[List.replicate_zero,List.nil_append];exact zz ae
  refine yb (Al ..) (qd (by simp) ?_);rw[n];refine zd (Ac (by simp;omega)<|Eh ae b) (zd (Ac rfl (Eh (by simp)<|fun x c=>by rw[List.mem_singleton]at c;subst c;exact⟨hr.1,by show x<18446744073709551616;omega⟩))<|yp<|h q r _ b hr f)
 |i+1,q,r,m,b,hr,f=>by
  have o:(((i+1:Nat):Int)-1)=(i:Int):=ae
  have j:=AW g i;obtain⟨v,s,k,u,l⟩:=dqr e.1 hr<|yw j;have p:a.drop i=a.getD i 0::a.drop (i+1):=by
   rw[zt,yi ae];exact ql ae
  have es:∀x,(zn (i+1) (0:Int)++q).set i x=zn i 0++(x::q):=by
   intro x;rw[List.replicate_succ',yc];exact Dn _ _ _ _ (by simp)
  rw[o];refine yb (Al ..) (zd (by simp) ?_);rw[zf,es,wr ((i:Int)-1) ae ae];refine zd (by simp;omega) (zd (by simp) (zd ?_<|zd (by simp;omega)<|zd (by simp;omega) ?_))
  ·exact Ac (Ac (Ac (CM hr.1 ae) j)<|CM (by show 0<=d;omega) e.2)<|w4 hr.2
  ·refine Ar a d g e t h i _ _ (by simp;omega) (fun x c=>?_) ⟨u,l⟩ ?_
   ·rcases List.mem_cons.1 c with rfl|c
    ·exact⟨s,k⟩
    ·exact b x c
   ·rw[p];show a.getD i 0+(18446744073709551616:Int)*ze Ao (a.drop<|i+1)=(Sp.dq r (a.getD i 0) d+(18446744073709551616:Int)*ze Ao q)*d+Sp.dr r (a.getD i 0) d;rw[f,z6,zq,zk];omega
end T178
end Go.Pe
namespace Go.Sp
theorem VC{B P u0 u1 u2 a v1 v2 v' q r:Int}(j:0<P)(i:0<=v')(k:a<P)(g:0<=q)(f:q*v1+r=u0*B+u1)(h:r*B+u2<q*v2):
  ((u0*B+u1)*B+u2)*P+a<q*((v1*B+v2)*P+v'):=by
 have e:q*(v1*B+v2)=q*v1*B+q*v2:=by rw[zq,zk]
 have c:(u0*B+u1)*B=q*v1*B+r*B:=by rw[<-f,z6]
 have b:(u0*B+u1)*B+u2+1<=q*(v1*B+v2):=by rw[e,c];omega
 have d:=zg b<|zo j;have l:0<=q*v':=z7 g i;rw[zq q, <-zk];rw[z6,zy]at d;omega
theorem Xc{B P u0 u1 u2 c v1 v2 v' q r:Int}(b:0<P)(m:0<=v'/\v'<P)(o:0<=c)(i:0<=q/\q<B)(a:1<=v1)(j:0<=v2)(f:q*v1+r=u0*B+u1)(h:q*v2<=r*B+u2):
  q*((v1*B+v2)*P+v')<((u0*B+u1)*B+u2)*P+c+((v1*B+v2)*P+v'):=by
 have e:q*(v1*B+v2)=q*v1*B+q*v2:=by rw[zq,zk]
 have g:(u0*B+u1)*B=q*v1*B+r*B:=by rw[<-f,z6]
 have d:q*(v1*B+v2)<=(u0*B+u1)*B+u2:=by rw[e,g];omega
 have p:=zg d<|zo b;have k:q*v'<=(B-1)*P:=Int.le_trans (zl (zo m.2) i.1) (zg ae<|zo b);have l:B<=v1*B+v2:=by
  have:=zg a (show 0<=B by omega);omega
 have n:=zg l<|zo b;rw[qn,zy]at k;rw[zq q, <-zk];omega
theorem H6(b:Int):∀(l:List Int) (i:Nat) (x:Int),i<l.length->val b (l.set i x)=val b l+b^i*(x-l.getD i 0)
 |[],i,x,h=>by simp at h
 |d::l,0,x,_=>by
  show x+b*val b l=d+b*val b l+b^0*(x-d);rw[yd,zy];omega
 |d::l,i+1,x,h=>by
  have:=H6 b l i x (by simpa using h);show d+b*val b (l.set i x)=d+b*val b l+b^(i+1)*(x-l.getD i 0);rw[this,zq,zp,zm (b^i) b,zk,y7]
theorem Hq{b:Int}{l:List Int}(h:Az b l)(i:Nat){x:Int}(c:0<=x/\x<b):Az b (l.set i x):=by
 intro d a;rcases List.mem_or_eq_of_mem_set a with a|rfl
 ·exact h d a
 ·exact c
theorem GM{b:Int}{l r:List Int}(c:Az b l)(e:Az b r):Az b (l++r):=by
 intro d a;rcases qv.1 a with a|a
 ·exact c d a
 ·exact e d a
theorem KT{b:Int}(c:0<b){l:List Int}(h:Az b l)(i:Nat):0<=l.getD i 0/\l.getD i 0<b:=by
 rcases Nat.lt_or_ge i l.length with a|a
 ·have:l.getD i 0∈l:=by rw[zt,yi a];exact List.getElem_mem a
  exact h _ this
 ·rw[zt,List.getElem?_eq_none a];exact⟨qo _,c⟩
theorem Co{l:List Int}{i:Nat}(h:i<l.length):l.drop i=l.getD i 0::l.drop (i+1):=by
 rw[zt,yi h];exact ql h
theorem Hm(p r:List Int)(i j:Nat)(h:p.length=j):(p++r).getD (i+j) 0=r.getD i 0:=by
 subst h;rw[zt,zt,List.getElem?_append_right ae,qg]
theorem TH(p r:List Int)(i j:Nat)(x:Int)(h:p.length=j):(p++r).set (i+j) x=p++r.set i x:=by
 subst h;rw[List.set_append_right _ _ ae,qg]
theorem AaK(b:Int)(r:List Int)(k:Nat)(c:k+3<=r.length)(d:val b (r.drop<|k+3)=0):
  val b r=((r.getD (k+2) 0*b+r.getD (k+1) 0)*b+r.getD k 0)*b^k+val b (r.take k):=by
 have a:b^(k+1)=b^k*b:=zp ..;have e:b^(k+2)=b^k*b*b:=by rw[<-a];exact zp ..
 rw[Ck b r (k+3) c,d,AH,AH,AH,a,e,yt,qe];generalize b^k=P;generalize r.getD (k+2) 0=x;generalize r.getD (k+1) 0=y;generalize r.getD k 0=z;have h:P*b*b*x=x*b*b*P:=by rw[zm (P*b*b) x,zm P b,zk b P b,zm P b, <-zk, <-zk]
 have g:P*b*y=y*b*P:=by rw[zm (P*b) y,zm P b,zk]
 have i:P*z=z*P:=zm _ _;have f:((x*b+y)*b+z)*P=x*b*b*P+y*b*P+z*P:=by rw[z6,z6,z6]
 rw[f];omega
theorem Aa0(b:Int)(v:List Int)(k:Nat)(e:v.length=k+2):
  val b v=(v.getD (k+1) 0*b+v.getD k 0)*b^k+val b (v.take k):=by
 have h0:val b (v.drop<|k+2)=0:=by rw[List.drop_eq_nil_of_le ae];rfl
 have d:b^(k+1)=b^k*b:=zp ..;rw[Ck b v (k+2) ae,h0,AH,AH,d,yt,qe];generalize b^k=P;generalize v.getD (k+1) 0=y;generalize v.getD k 0=z;have a:P*b*y=y*b*P:=by rw[zm (P*b) y,zm P b,zk]
 have c:P*z=z*P:=zm _ _;rw[a,c,z6];omega
theorem sI{b:Int}(g:2<=b){v:List Int}(c:Az b v)(e:nz v){k:Nat}(d:b^k<=val b v)(f:val b v<b^(k+1)):v.length=k+1:=by
 have hp:=Be (show 0<b by omega) k;have a:v≠[]:=by rintro rfl;simp[val]at d;omega
 have a1:=Bp ae c;have a2:=Df ae c e a;rcases Nat.lt_trichotomy v.length (k+1)with h|h|h
 ·have:=AT (show 1<=b by omega) (show v.length<=k by omega);omega
 ·exact h
 ·have:=AT (show 1<=b by omega) (show k+1<=v.length-1 by omega);omega
theorem JW{b:Int}(e:2<=b){r:List Int}(a:Az b r){n:Nat}(c:n<=r.length)(h:val b r<b^n):val b (r.drop n)=0:=by
 have h0:=AE (show 0<=b by omega)<|EH a n;have d:=AE (show 0<=b by omega)<|AR a n;rw[Ck b r n c]at h;have hp:=Be (show 0<b by omega) n;rcases ym 0 (val b<|r.drop n)with g|g
 ·have:=zl (show 1<=val b (r.drop n)by omega) (show 0<=b^n by omega);omega
 ·omega
theorem RX{b:Int}(d:2<=b){r:List Int}(c:Az b r){n:Nat}(a:n<=r.length)(h:val b (r.drop n)=0):val b r<b^n:=by
 have:=Bp (show 0<b by omega)<|AR c n;rw[yj,yx a]at this;rw[Ck b r n a,h];omega
theorem tG{b c d x y X:Int}(l:0<c)(k:b=c*d):(x+b*(y+b*X))/c=(x/c+(y % c)*d)+b*((y+b*X)/c):=by
 subst k;have a:(x+c*d*(y+c*d*X))/c=x/c+d*(y+c*d*X):=by
  rw[zk c d,Int.add_mul_ediv_left _ _ ae]
 have h:(y+c*d*X)/c=y/c+d*X:=by
  rw[zk c d,Int.add_mul_ediv_left _ _ ae]
 have g:=z8 y c;rw[a,h];have f:d*(y+c*d*X)=d*(c*(y/c)+y % c+c*d*X):=by rw[g]
 rw[f,zq,zq,zq<|c*d];have e:d*(c*(y/c))=c*d*(y/c):=by rw[<-zk,zm d c]
 have i:d*(y % c)=(y % c)*d:=zm _ _;have j:d*(c*d*X)=c*d*(d*X):=by rw[<-zk,zm d<|c*d,zk]
 rw[e,i,j];omega
theorem V8{b c d x k:Int}(l:0<c)(a:0<d)(h:b=c*d)(m:0<=k/\k<c)(f:0<=x/\x<b):
  (x*c) % b=(x % d)*c/\(x % d)*c+k<b/\0<=(x % d)*c/\0<=x/d/\x/d<c/\(x % d)*c+b*(x/d)=x*c:=by
 subst h;have g:=z8 x d;have i:=yo x (show d≠0 by omega);have p:=yk x a;have j:0<=x/d:=y9 f.1 ae;have q1:x/d<c:=yz a (by have:=f.2;omega);have p0:0<=(x % d)*c:=z7 i ae;have o:(x % d)*c<=(d-1)*c:=zg ae ae;have n:(d-1)*c=c*d-c:=by rw[qn,zy,zm]
 have e:(x % d)*c+c*d*(x/d)=x*c:=by
  conv=>rhs;rw[<-g]
  rw[z6,zk c d,zm c<|d*(x/d)];omega
 refine⟨?_,by omega,p0,j,q1,e⟩;rw[<-e,Int.add_mul_emod_self_left];exact Int.emod_eq_of_lt p0 ae
theorem NC{B P u0 u1 u2 b v1 v2 v' q r:Int}(c:0<P)(g:0<B)(p:0<=q)(k:0<=v')(a:0<=v2)(s:b<P)(f:u2<B)(n:q*v1+r=u0*B+u1)(h:r<v1):
  ((u0*B+u1)*B+u2)*P+b<(q+1)*((v1*B+v2)*P+v'):=by
 have d:u0*B+u1+1<=(q+1)*v1:=by rw[z6,zy];omega
 have l:=zg d<|zo g;have i:(u0*B+u1)*B+u2+1<=(q+1)*v1*B:=by
  rw[z6,zy]at l;omega
 have j:=zg i<|zo c;rw[z6,zy]at j;have m:0<=(q+1)*(v2*P):=z7 ae<|z7 a<|zo c;have o:0<=(q+1)*v':=z7 ae k;have e:(q+1)*((v1*B+v2)*P+v')=(q+1)*v1*B*P+(q+1)*(v2*P)+(q+1)*v':=by
  rw[z6<|v1*B,zq,zq];congr 2;rw[zk,zk,zk]
 rw[e];omega
end Go.Sp
namespace Go.Pe
open Sp
open Go.Det
theorem Wh{q x y c b:Int}(d:zx q=true)(e:zx x=true)(i:zx y=true)(g:zx c=true)(j:0<=b/\b<=1):
  zx (IC q x)=true/\zx (Iv (IC q x) c 0)=true/\zc .u64 (RZ q x+QS (IC q x) c 0)=(q*x+c)/18446744073709551616/\zx ((q*x+c)/18446744073709551616)=true/\
  zx (U6 y (Iv (IC q x) c 0) b)=true/\(0<=Rh y (Iv (IC q x) c 0) b/\Rh y (Iv (IC q x) c 0) b<=1)/\
  c+b+(U6 y (Iv (IC q x) c 0) b-y)=18446744073709551616*((q*x+c)/18446744073709551616+Rh y (Iv (IC q x) c 0) b)-q*x:=by
 have d:=yw d;have e:=yw e;have g:=yw g;have h0:0<=q*x:=z7 d.1 e.1;have k:q*x<=18446744073709551615*18446744073709551615:=by
  have a:=zl (show x<=18446744073709551615 by omega) d.1;have b:=zg (show q<=18446744073709551615 by omega) (show(0:Int)<=18446744073709551615 by omega);omega
 have f:zx (Iv (IC q x) c 0)=true:=by unfold Iv;exact CM ae ae
 obtain⟨s1,s2,s3⟩:=Sp.HC i f j;refine⟨?_,f,?_,?_,s1,s2,?_⟩
 ·unfold IC;exact CM ae ae
 ·unfold IC RZ QS;rw[LI];generalize q*x=P at*;omega
 ·generalize q*x=P at*;exact CM ae ae
 ·generalize Rh y (Iv (IC q x) c 0) b=h at*;generalize U6 y (Iv (IC q x) c 0) b=l at*;unfold Iv IC at s3;generalize q*x=P at*;omega
namespace T178
theorem gw{a r:List Int}{j:Nat}(h:a.length=j)(i:Nat):(a++r).getD (zr i j) 0=r.getD i 0:=Hm a r i j h
theorem sw{a r:List Int}{j:Nat}(h:a.length=j)(i:Nat)(x:Int):(a++r).set (zr i j) x=a++r.set i x:=TH a r i j x h
theorem lw{a r:List Int}{j i:Nat}(h:a.length=j)(b:i<r.length):decide (zr i j<(a++r).length)=true:=by
 refine w4 ?_;show i+j<_;rw[List.length_append];omega
theorem JJ(r:List Int)(i n:Nat)(x:Int)(h:i<n):(r.set i x).drop n=r.drop n:=by
 rw[List.drop_set,wd h]
theorem Ct[Srt](v9:Int)(o:List Int)(f:Nat)(l:Int)(a:Nat)(o1 K:List Int)(t:Nat)(v:List Int)(n j:Nat)(s:List Int)(m:Nat)(q W:Int)(h:List Int)
  (U:v.length=n) (E:n<=9000) (T:n+1<=m) (d:s.length=j) (D:j<a) (z:j<h.length) (O:Az Ao v) (I:zx q=true)
  (h0:∀r:List Int,r.length=m->Az Ao r->ze Ao (r.drop<|n+1)=0->ze Ao r=W-q*ze Ao v->Ends J6 (L4 v9 o f l a (zc .i64<|(j:Int)-1) (h.set j q)<|s++r) Q)
  (L:∀r:List Int,r.length=m->Az Ao r->ze Ao (r.drop<|n+1)=0->ze Ao r=W-q*ze Ao v+(Ao:Int)^(n+1)->Ends J6 (L8 v9 o f l a j o1 K j (n+1) t v n q 0 n 0 h<|s++r) Q):
  ∀(k i:Nat) (r:List Int) (b c:Int),i+k=n->r.length=m->Az Ao r->ze Ao (r.drop<|n+1)=0->zx c=true->(0<=b/\b<=1)->ze Ao r=W-q*ze Ao (v.take i)+(Ao:Int)^i*(c+b)->
   Ends J6 (L7 v9 o f l a j o1 K j (n+1) t v n q b c n i h<|s++r) Q
 |0,i,r,b,c,J,hr,w,F,y,p,H=>by
  have J:i=n:=ae
  subst J;have A:=AW w i;obtain⟨s1,s2,s3⟩:=Sp.HC A y p;have g:decide (zr i j<(s++r).length)=true:=lw d ae;have t1:(decide ((0:Int)<=(i:Int))&&decide ((i:Int)<((i+1:Nat):Int)))=true:=by simp;omega
  have G:v.take i=v:=zz ae;have B:∀x:Int,0<=x/\x<18446744073709551616->(r.set i x).length=m/\Az Ao (r.set i x)/\ze Ao ((r.set i x).drop<|i+1)=0:=fun x Y=>
   ⟨by simp[hr],Hq w i Y,by rw[JJ _ _ _ _ ae];exact F⟩
  obtain⟨N,C,M⟩:=B _<|yw s1;have ev:ze Ao (r.set i<|U6 (r.getD i 0) c b)=W-q*ze Ao v+(Ao:Int)^(i+1)*Rh (r.getD i 0) c b:=by
   rw[H6 _ _ _ _ ae,H,G,LM,y7, <-zq];congr 2;omega
  refine yb (GQ ..) (qd (by simp) ?_);rw[zf,zf,gw d,sw d];refine zd t1<|zd g<|zd (Ac (Ac (Ac A y)<|w4 p.1)<|w4 p.2)<|zd t1<|zd g<|ya (fun u=>?_)<|fun u=>?_
  ·have u:Rh (r.getD i 0) c b=0:=by simpa using u
   refine zd (by simp;omega)<|zd (w4 z)<|h0 _ N C M ?_;rw[ev,u,yt,qe]
  ·have u:Rh (r.getD i 0) c b≠0:=by simpa using u
   refine L _ N C M ?_;rw[ev,show Rh (r.getD i 0) c b=1 by omega,qp]
 |k+1,i,r,b,c,J,hr,w,F,y,p,H=>by
  have P:=AW O i;have A:=AW w i;obtain⟨m1,S,R,Z,m5,V,X⟩:=Wh I P A y p;have g:decide (zr i j<(s++r).length)=true:=lw d ae;have t1:(decide ((0:Int)<=(i:Int))&&decide ((i:Int)<((n+1:Nat):Int)))=true:=by simp;omega
  have C:=wn (i:=i) ae;refine yb (GQ ..) (zd (by simp;omega) ?_);rw[zf,gw d,sw d,R,C];refine zd (by simp;omega)<|zd (Ac I P)<|zd (Ac (Ac (Ac m1 y) rfl) rfl)<|zd t1<|zd g<|zd (Ac (Ac (Ac A S)<|w4 p.1)<|w4 p.2)<|zd t1<|zd g ?_;refine Ct v9 o f l a o1 K t v n j s m q W h U E T d D z O I h0 L k (i+1) _ _ _ ae (by simp[hr]) (Hq w i<|yw m5) (by rw[JJ _ _ _ _ ae];exact F) Z V ?_;rw[H6 _ _ _ _ ae,H,LM,AH,zq q,yh q];have e:(Ao:Int)^i*(c+b)+(Ao:Int)^i*(U6 (r.getD i 0) (Iv (IC q<|v.getD i 0) c 0) b-r.getD i 0)=(Ao:Int)^i*(18446744073709551616*((q*v.getD i 0+c)/18446744073709551616+Rh (r.getD i 0) (Iv (IC q<|v.getD i 0) c 0) b))-(Ao:Int)^i*(q*v.getD i 0):=by
   rw[<-zq, <-yy,X]
  omega
theorem FG[Srt](v9:Int)(o:List Int)(f:Nat)(p:Int)(d:Nat)(o1 K:List Int)(w:Nat)(v:List Int)(n j:Nat)(s:List Int)(m:Nat)(q W:Int)(l:List Int)
  (P:v.length=n) (B:n<=9000) (O:n+1<=m) (a:s.length=j) (A:j<d) (u:j<l.length) (I:Az Ao v)
  (hW:0<=W+ze Ao v)
  (h0:∀r:List Int,r.length=m->Az Ao r->ze Ao (r.drop<|n+1)=0->ze Ao r=W+ze Ao v->Ends J6 (L4 v9 o f p d (zc .i64<|(j:Int)-1) (l.set j<|zc .u64<|q-1)<|s++r) Q):
  ∀(k i:Nat) (r:List Int) (c:Int),i+k=n->r.length=m->Az Ao r->ze Ao (r.drop<|n+1)=0->(0<=c/\c<=1)->ze Ao r=W+(Ao:Int)^(n+1)+ze Ao (v.take i)-(Ao:Int)^i*c->
   Ends J6 (L8 v9 o f p d j o1 K j (n+1) w v n q c n i l<|s++r) Q
 |0,i,r,c,F,hr,t,z,y,D=>by
  have F:i=n:=ae
  subst F;have E:=yw<|AW t i;have h:decide (zr i j<(s++r).length)=true:=lw a ae;have t1:(decide ((0:Int)<=(i:Int))&&decide ((i:Int)<((i+1:Nat):Int)))=true:=by simp;omega
  have C:v.take i=v:=zz ae;have L:0<=(r.getD i 0+c) % 18446744073709551616/\(r.getD i 0+c) % 18446744073709551616<18446744073709551616:=ae
  have R:(r.set i<|(r.getD i 0+c) % 18446744073709551616).length=m:=by simp[hr]
  have x:Az Ao (r.set i<|(r.getD i 0+c) % 18446744073709551616):=Hq t i L;have H:ze Ao ((r.set i<|(r.getD i 0+c) % 18446744073709551616).drop<|i+1)=0:=by rw[JJ _ _ _ _ ae];exact z
  have G:=RX (b:=Ao) af x (n:=i+1) ae H;refine yb (Kg ..) (qd (by simp) ?_);rw[zf,zf,gw a,sw a,LI<|r.getD i 0+c];refine zd t1 (zd h<|zd t1<|zd h<|zd (by simp;omega)<|zd (w4 u)<|h0 _ R x H ?_);have hp:=Be (b:=Ao) af i;rw[H6 _ _ _ _ ae,D,C]at G ⊢;rcases show(r.getD i 0+c) % 18446744073709551616=r.getD i 0+c\/(r.getD i 0+c) % 18446744073709551616=r.getD i 0+c-18446744073709551616 by omega with g|g
  ·exfalso;rw[g,show r.getD i 0+c-r.getD i 0=c by omega]at G;omega
  ·have N:(Ao:Int)^(i+1)=(Ao:Int)^i*18446744073709551616:=zp ..;rw[g,show r.getD i 0+c-18446744073709551616-r.getD i 0=c-18446744073709551616 by omega,yy,N];omega
 |k+1,i,r,c,F,hr,t,z,y,D=>by
  have J:=AW I i;have E:=AW t i;obtain⟨S,M,T⟩:=K9 E J y;have h:decide (zr i j<(s++r).length)=true:=lw a ae;have t1:(decide ((0:Int)<=(i:Int))&&decide ((i:Int)<((n+1:Nat):Int)))=true:=by simp;omega
  have x:=wn (i:=i) ae;refine yb (Kg ..) (zd (by simp;omega) ?_);rw[zf,gw a,sw a,x];refine zd t1 (zd h (zd (by simp;omega)<|zd (Ac (Ac (Ac E J)<|w4 y.1)<|w4 y.2)<|zd t1<|zd h ?_));refine FG v9 o f p d o1 K w v n j s m q W l P B O a A u I hW h0 k (i+1) _ _ ae (by simp[hr]) (Hq t i<|yw S) (by rw[JJ _ _ _ _ ae];exact z) M ?_;rw[H6 _ _ _ _ ae,D,LM,AH];have e:(Ao:Int)^i*(Iv (r.getD i 0) (v.getD i 0) c-r.getD i 0)-(Ao:Int)^i*c=(Ao:Int)^i*v.getD i 0-(Ao:Int)^i*(18446744073709551616*QS (r.getD i 0) (v.getD i 0) c):=by
   rw[<-yy, <-yy];congr 1;omega
  omega
theorem yZ[Srt](v9:Int)(l:List Int)(f:Nat)(k:Int)(e:Nat)(o1 z:List Int)(p:Nat)(v:List Int)(n j:Nat)(x:List Int)(m:Nat)(i h:List Int)
  (C:v.length=n) (t:n<=9000) (B:n+1<=m) (w:x.length=j) (s:j<e) (u:j<h.length) (y:Az Ao v)
  (hr:i.length=m) (A:Az Ao i) (K:ze Ao (i.drop<|n+1)=0)
  (o:∀(q:Int) (r:List Int),r.length=m->Az Ao r->(0<=q/\q<18446744073709551616)->ze Ao r<ze Ao v->ze Ao r=ze Ao i-q*ze Ao v->Ends J6 (L4 v9 l f k e (zc .i64<|(j:Int)-1) (h.set j q)<|x++r) Q)
  (q:Int) (D:zx q=true) (E:ze Ao i<(q+1)*ze Ao v) (O:q*ze Ao v<ze Ao i+ze Ao v):
  Ends J6 (L7 v9 l f k e j o1 z j (n+1) p v n q 0 0 n 0 h<|x++i) Q:=by
 have N:=yw D;have I:=AE (b:=Ao) af A;have L:=AE (b:=Ao) af y;rw[z6,zy]at E;refine Ct v9 l f k e o1 z p v n j x m q (ze Ao i) h C t B w s u y D (fun r a b c d=>o q r a b N ae d) (fun r a b c d=>?_) n 0 i 0 0 ae hr A K af af (by simp[ze]);have P:=RX (b:=Ao) af b (n:=n+1) ae c;have J:1<=q:=by
  rcases ym 0 q with g|g
  ·exact g
  ·have:q=0:=ae
   subst this;rw[qz]at d;omega
 have G:zc .u64 (q-1)=q-1:=wu _ ae ae;refine FG v9 l f k e o1 z p v n j x m q (ze Ao i-q*ze Ao v) h C t B w s u y ae (fun F H b' R M=>?_) n 0 r 0 ae a b c af (by rw[d];simp[ze]);rw[G];refine o (q-1) F H b' ae ae ?_;rw[M,qn,zy];omega
theorem AhA(q x:Int):RZ q x*18446744073709551616+IC q x=q*x/\0<=IC q x/\IC q x<18446744073709551616:=by
 unfold RZ IC;generalize q*x=P;omega
theorem CF[Srt](v9:Int)(n:List Int)(h:Nat)(p:Int)(d:Nat)(o1 N:List Int)(s:Nat)(v:List Int)(k j:Nat)(x:List Int)(m:Nat)(e i:List Int)
  (V:v.length=k+2) (H:k+2<=9000) (hm:k+3<=m) (u:x.length=j) (G:j<d) (E:j<i.length) (C:Az Ao v)
  (hr:e.length=m) (D:Az Ao e) (R:ze Ao (e.drop<|k+3)=0) (K:1<=v.getD (k+1) 0)
  (z:∀(q:Int) (r:List Int),r.length=m->Az Ao r->(0<=q/\q<18446744073709551616)->ze Ao r<ze Ao v->ze Ao r=ze Ao e-q*ze Ao v->Ends J6 (L4 v9 n h p d (zc .i64<|(j:Int)-1) (i.set j q)<|x++r) Q):
  ∀(f:Nat) (q r o:Int),0<=q->q<f->q<18446744073709551616->zx r=true->(o=0\/o=1)->q*v.getD (k+1) 0+(r+18446744073709551616*o)=e.getD (k+2) 0*18446744073709551616+e.getD (k+1) 0->ze Ao e<(q+1)*ze Ao v->
   Ends J6 (L5 v9 n h p d j o1 N j (k+3) s v ((k+2:Nat):Int) q r o i<|x++e) Q
 |0,q,r,o,h0,hf,_,_,_,_,_=>by omega
 |f+1,q,r,o,h0,hf,Z,l,ho,he,T=>by
  have uq:zx q=true:=CM h0 Z;have I:=AW C k;have t:=AW C<|k+1;have S:=AW D k;have P:=yw I;have gv1:=yw t;have gu2:=yw S;have gr:=yw l;have hP:=Be (b:=Ao) af k;have hW:=AaK Ao e k ae R;have Y:=Aa0 Ao v k V;have U:=AE (b:=Ao) af<|AR D k;have y:=Bp (b:=Ao) af<|AR D k;have L:=AE (b:=Ao) af<|AR C k;have w:=Bp (b:=Ao) af<|AR C k;rw[yj,yx ae]at y w;have exit:q*v.getD k 0<=(r+18446744073709551616*o)*18446744073709551616+e.getD k 0->Ends J6 (L7 v9 n h p d j o1 N j (k+3) s v ((k+2:Nat):Int) q 0 0 ((k+2:Nat):Int) 0 i<|x++e) Q:=by
   intro O;refine yZ v9 n h p d o1 N s v (k+2) j x m e i V H hm u G E C hr D R z q uq T ?_;rw[hW,Y];exact Xc hP ⟨L,w⟩ U ⟨h0,Z⟩ K P.1 he O
  have e1:zc .i64 (((k+2:Nat):Int)-2)=(k:Int):=by rw[wr _ ae ae];omega
  have e2:zc .i64 (((k+2:Nat):Int)-1)=((k+1:Nat):Int):=by rw[wr _ ae ae];omega
  obtain⟨w1,w2,w3⟩:=AhA q<|v.getD k 0;have W:decide (zr k j<(x++e).length)=true:=lw u ae;refine yb (Fi ..)<|ya (fun c=>?_)<|fun c=>?_
  ·have c:o=0:=by simpa using c
   subst c;rw[e1,e2,zf,zf,gw u];refine zd (by simp;omega)<|zd (Ac uq I) ?_;have J:r*18446744073709551616+e.getD k 0<q*v.getD k 0->Ends J6 (L5 v9 n h p d j o1 N j (k+3) s v ((k+2:Nat):Int) (zc .u64<|q-1) (Iv r (v.getD (k+1) 0) 0) (QS r (v.getD (k+1) 0) 0) i<|x++e) Q:=by
    intro O;obtain⟨a1,a2,a3⟩:=K9 l t (c:=0) af;have hq1:1<=q:=by
     rcases ym 0 q with g|g
     ·exact g
     ·have:q=0:=ae
      subst this;rw[qz]at O;omega
    rw[wu (q-1) ae ae];refine CF v9 n h p d o1 N s v k j x m e i V H hm u G E C hr D R K z f (q-1) _ _ ae ae ae a1 ae ?_ ?_
    ·rw[qn,zy,a3];omega
    ·have X:q*v.getD (k+1) 0+r=e.getD (k+2) 0*18446744073709551616+e.getD (k+1) 0:=ae
     have:=VC (B:=Ao) (u0:=e.getD (k+2) 0) (u1:=e.getD (k+1) 0) (u2:=e.getD k 0) hP L y h0 (v1:=v.getD (k+1) 0) (v2:=v.getD k 0) (r:=r) X O;rw[<-hW, <-Y]at this;rw[show q-1+1=q by omega];exact this
   refine ya (fun F=>exit ?_) (fun F=>ya (fun A=>zd (by simp;omega)<|zd W<|ya (fun M=>exit ?_)<|fun M=>zd (by simp;omega)<|zd (Ac (Ac (Ac l t) rfl) rfl)<|J ?_) (fun A=>zd (by simp;omega)<|zd (Ac (Ac (Ac l t) rfl) rfl)<|J ?_))
   ·have F:=w6 F;omega
   ·have A:RZ q (v.getD k 0)=r:=by simpa using A
    have M:=w6 M;omega
   ·have A:RZ q (v.getD k 0)=r:=by simpa using A
    have M:=w7 M;omega
   ·have F:=w7 F;have A:RZ q (v.getD k 0)≠r:=by simpa using A
    omega
  ·have c:o≠0:=by simpa using c
   refine exit ?_;have a:=zl (show v.getD k 0<=18446744073709551615 by omega) h0;omega
theorem B2[Srt](s:Int)(v:List Int)(k e:Nat)(F:v.length=k+2)(T:e<=9000)(hkl:k+2<=e)(y:Az Ao v)(D:1<=v.getD (k+1) 0)(R:Int)
  (hq:∀u f:List Int,u.length=e+1->Az Ao u->Az Ao f->ze Ao u<ze Ao v->f.length=e-(k+2)+1->R=ze Ao u+ze Ao v*ze Ao f->Ends J6 (L6 s (e+1) ((k+2:Nat):Int) (e-(k+2)+1) ((k+2:Nat):Int) 0 f u) Q):
  ∀(t:Nat) (u f:List Int),t+f.length=e-(k+2)+1->u.length=e+1->Az Ao u->Az Ao f->ze Ao (u.drop t)<ze Ao v->R=ze Ao u+ze Ao v*((Ao:Int)^t*ze Ao f)->
   Ends J6 (L4 s v (e+1) ((k+2:Nat):Int) (e-(k+2)+1) ((t:Int)-1) (zn t 0++f) u) Q
 |0,u,f,hl,Z,O,E,C,V=>by
  refine yb (BU ..) (qd (by simp) ?_);exact hq u f Z O E C ae (by rw[V,yd,zy])
 |j+1,u,f,hl,Z,O,E,C,V=>by
  obtain⟨m,r,rfl,g⟩:∃m r:List Int,u=m++r/\m.length=j:=⟨u.take j,u.drop j,(List.take_append_drop j u).symm,by rw[yj];omega⟩;have N:Az Ao m:=fun d h=>O d<|qv.2<|.inl h
  have a:Az Ao r:=fun d h=>O d<|qv.2<|.inr h
  have L:r.length=e+1-j:=by rw[List.length_append]at Z;omega
  have n:∀z:List Int,(m++z).drop j=z:=fun z=>by rw[<-g];exact List.drop_left
  have hr0:r=r.getD 0 0::r.drop 1:=by
   have:=Co (l:=r) (i:=0) ae;rw[List.drop_zero]at this;exact this
  have X:(m++r).drop (j+1)=r.drop 1:=by rw[Nat.add_comm j 1,Nat.add_comm 1 j, <-List.drop_drop,n]
  rw[X]at C;have g0:=KT (b:=Ao) af a 0;have Y:ze Ao r=r.getD 0 0+18446744073709551616*ze Ao (r.drop 1):=by
   conv=>lhs;rw[hr0]
   rfl
  have G:=Bp (b:=Ao) af y;rw[F]at G;have g0:0<=r.getD 0 0/\r.getD 0 0<18446744073709551616:=g0;have hrV:ze Ao r<18446744073709551616*ze Ao v:=by rw[Y];omega
  have P:ze Ao (r.drop<|k+3)=0:=by
   refine JW (b:=Ao) af a ae ?_;have ep:(Ao:Int)^(k+3)=(Ao:Int)^(k+2)*18446744073709551616:=zp ..;rw[ep];omega
  have I:=AW a<|k+2;have p:=AW a<|k+1;have uu2:=AW a k;have o:=AW y<|k+1;have gu0:=yw I;have gu1:=yw p;have U:=yw uu2;have gv1:=yw o;have S:=yw<|AW y k;have hP:=Be (b:=Ao) af k;have hW:=AaK Ao r k ae P;have hV:=Aa0 Ao v k F;have hu':=AE (b:=Ao) af<|AR a k;have w:=Bp (b:=Ao) af<|AR a k;have W:=AE (b:=Ao) af<|AR y k;rw[yj,yx ae]at w;have hle:r.getD (k+2) 0<=v.getD (k+1) 0:=by
   have a1:=Ck Ao (r.drop 1) (k+1) (by rw[List.length_drop];omega);have a2:(r.drop 1).drop (k+1)=r.getD (k+2) 0::r.drop (k+3):=by
    rw[List.drop_drop,show 1+(k+1)=k+2 by omega];exact Co ae
   have a3:ze Ao (r.getD (k+2) 0::r.drop (k+3))=r.getD (k+2) 0:=by
    show r.getD (k+2) 0+(Ao:Int)*ze Ao (r.drop<|k+3)=_;rw[P];omega
   rw[a2,a3]at a1;have b1:ze Ao v=ze Ao (v.take<|k+1)+(Ao:Int)^(k+1)*v.getD (k+1) 0:=by
    rw[<-AH,zz ae]
   have H:=Bp (b:=Ao) af<|AR y<|k+1;rw[yj,yx ae]at H;have c1:=AE (b:=Ao) af<|AR (EH a 1)<|k+1;have c2:(Ao:Int)^(k+1)*r.getD (k+2) 0<(Ao:Int)^(k+1)*(v.getD (k+1) 0+1):=by
    rw[zq,qp];omega
   have:=yf c2 (zo<|Be af<|k+1);omega
  have A:∀(q:Int) (B:List Int),B.length=e+1-j->Az Ao B->(0<=q/\q<18446744073709551616)->ze Ao B<ze Ao v->ze Ao B=ze Ao r-q*ze Ao v->Ends J6 (L4 s v (e+1) ((k+2:Nat):Int) (e-(k+2)+1) (zc .i64<|(j:Int)-1) ((zn (j+1) 0++f).set j q)<|m++B) Q:=by
   intro q B h1 h2 h3 h4 h5;have es:(zn (j+1) (0:Int)++f).set j q=zn j 0++(q::f):=by
    rw[List.replicate_succ',yc];exact Dn _ _ _ _ (by simp)
   rw[es,wr ((j:Int)-1) ae ae];refine B2 s v k e F T hkl y D R hq j (m++B) (q::f) (by simp;omega) (by simp;omega) (GM N h2) (fun d h=>?_) (by rw[n];exact h4) ?_
   ·rcases List.mem_cons.1 h with rfl|h
    ·exact h3
    ·exact E d h
   ·rw[V,C3,C3,g,h5,LM];show ze Ao m+(Ao:Int)^j*ze Ao r+ze Ao v*((Ao:Int)^j*(18446744073709551616*ze Ao f))=ze Ao m+(Ao:Int)^j*(ze Ao r-q*ze Ao v)+ze Ao v*((Ao:Int)^j*(q+18446744073709551616*ze Ao f));have x1:ze Ao v*((Ao:Int)^j*q)=(Ao:Int)^j*(q*ze Ao v):=by
     rw[yh,zm (ze Ao v) q]
    rw[yy,zq ((Ao:Int)^j) q,zq<|ze Ao v,x1];omega
  have ez:zr 0 j=j:=Nat.zero_add j;have e0:(((j+1:Nat):Int)-1)=(j:Int):=ae
  have e1:zc .i64 (zc .i64 ((j:Int)+((k+2:Nat):Int))+1)=((j+(k+3):Nat):Int):=by
   rw[wr ((j:Int)+((k+2:Nat):Int)) ae ae,wr _ ae ae];omega
  have e2:zc .i64 (((k+2:Nat):Int)-1)=((k+1:Nat):Int):=by rw[wr _ ae ae];omega
  have e3:qt (j+(k+3)) j=k+3:=by show j+(k+3)-j=_;omega
  have M:decide (zr (k+2) j<(m++r).length)=true:=lw g ae;have K:decide (zr (k+1) j<(m++r).length)=true:=lw g ae;rw[e0];refine yb (BU ..) (zd (by simp) ?_);rw[F,e1,e2,zf,zf,zf,zf,ez,e3,gw g,gw g];have b1:(decide ((0:Int)<=((k+2:Nat):Int))&&decide (((k+2:Nat):Int)<((k+3:Nat):Int)))=true:=by simp;omega
  have H:(decide ((0:Int)<=((k+1:Nat):Int))&&decide (((k+1:Nat):Int)<((k+2:Nat):Int)))=true:=by simp;omega
  have b3:(decide ((0:Int)<=((k+1:Nat):Int))&&decide (((k+1:Nat):Int)<((k+3:Nat):Int)))=true:=by simp;omega
  have J:j<(zn (j+1) (0:Int)++f).length:=by simp;omega
  refine zd (by simp;omega)<|zd b1<|zd M<|zd H<|ya (fun c=>?_)<|fun c=>?_
  ·have c:=w6 c;obtain⟨a1,a2,a3⟩:=K9 p o (c:=0) af;refine zd b3<|zd K<|zd H<|zd (Ac (Ac (Ac p o) rfl) rfl) ?_;refine CF s v (e+1) _ _ _ _ _ v k j m (e+1-j) r _ F ae ae g ae J y L a P D A 18446744073709551616 _ _ _ af af af a1 ae ?_ ?_
   ·rw[a3];omega
   ·exact hrV
  ·have c:=w7 c;obtain⟨d1,d2,d3,d4,d5⟩:=dqr (r:=r.getD (k+2) 0) (x:=r.getD (k+1) 0) (d:=v.getD (k+1) 0) ae ae gu1;refine zd b1 (zd M<|zd b3<|zd K<|zd H<|zd (Ac (Ac (Ac I p) o)<|w4 ae) ?_);refine CF s v (e+1) _ _ _ _ _ v k j m (e+1-j) r _ F ae ae g ae J y L a P D A 18446744073709551616 _ _ _ d2 d3 d3 (CM d4 ae) (.inl rfl) ?_ ?_
   ·rw[<-d1];omega
   ·rw[hW,hV];exact NC hP af d2 W S.1 w U.2 d1 d5
end T178
theorem Vq{a b:Int}{s:Nat}(c:0<=a)(e:0<=b)(h:b<2^s)(d:a*2^s+b<18446744073709551616):fT .u64 b (a*2^s)=a*2^s+b:=by
 have:=bE c e h d;rw[<-this];show zc .u64 (((ye 64 b|||ye 64 (a*2^s)).toNat:Nat):Int)=zc .u64 (((ye 64 (a*2^s)|||ye 64 b).toNat:Nat):Int);rw[BitVec.or_comm]
theorem aO{s:Nat}(a:s<=63):(18446744073709551616:Int)=2^s*2^(64-s):=by rw[<-Int.pow_add,show s+(64-s)=64 by omega];rfl
namespace T178
theorem EO[Srt](s:Nat)(S:s<=63)(a n m:Nat)(hn:n<=a)(F:a<=9000)(u h:List Int)(W:u.length=a+1)(C:Az Ao u)(N:ze Ao (u.drop n)=0)(hm:h.length=m)(K:m<=9000)(r:Az Ao h)
  (O:∀(w:List Int) ob,Az Ao w->ze Ao w=ze Ao u/2^s->Q (.tup [.dat Dj<|AB h,.dat Dj<|AB w]) ob):
  ∀(k i:Nat) (p:List Int),i+k=n->p.length=i->Az Ao p->ze Ao p+(Ao:Int)^i*(ze Ao (u.drop i)/2^s)=ze Ao u/2^s->
   Ends J6 (L6 s (a+1) n m n i h<|p++u.drop i) Q
 |0,i,p,L,hp,e,A=>by
  have L:i=n:=ae
  subst L;have V:(p++u.drop i).take i=p:=by rw[<-hp];exact List.take_left
  have G:h.take m=h:=zz ae;rw[N,Int.zero_ediv,yt,qe]at A;refine yb (GG ..) (qd (by simp) ?_);rw[zf,V,G];refine zd (by simp;omega) (zd (Ac (by simp;omega)<|Eh ae r)<|zd (Ac (by simp;omega)<|Eh ae e)<|yp<|O p _ e A)
 |k+1,i,p,L,hp,e,A=>by
  have H:=Co (l:=u) (i:=i) ae;have P:=Co (l:=u) (i:=i+1) ae;have T:=yw<|AW C i;have gy:=yw<|AW C<|i+1;have g1:(p++u.drop i).getD i 0=u.getD i 0:=by rw[H];exact E0 _ _ _ _ hp
  have s1:∀z,(p++u.drop i).set i z=p++z::u.drop (i+1):=fun z=>by rw[H];exact Dn _ _ _ _ hp
  have s2:∀z x,(p++z::u.drop (i+1)).set i x=(p++[x])++u.drop (i+1):=fun z x=>by rw[Dn _ _ _ _ hp,yc];rfl
  have g2:∀z,(p++z::u.drop (i+1)).getD i 0=z:=fun z=>E0 _ _ _ _ hp
  have Z:∀z,(p++z::u.drop (i+1)).getD (i+1) 0=u.getD (i+1) 0:=fun z=>by
   rw[P,show p++z::u.getD (i+1) 0::u.drop (i+1+1)=(p++[z])++u.getD (i+1) 0::u.drop (i+1+1)by rw[yc];rfl];exact E0 _ _ _ _ (by simp[hp])
  have q:∀z,(p++z::u.drop (i+1)).length=a+1:=fun z=>by simp;omega
  have j:(p++u.drop i).length=a+1:=by simp;omega
  have U:=wn (i:=i) ae;have e3:zc .i64 ((64:Int)-(s:Int))=((64-s:Nat):Int):=by rw[wr _ ae ae];omega
  have Y:qc s 64=s:=ae
  have E:qc (64-s) 64=64-s:=ae
  have v:=aO S;have o:(0:Int)<2^s:=yq af;have f:(0:Int)<2^(64-s):=yq af;have D:qf (u.getD i 0) ((2:Int)^s)=u.getD i 0/2^s:=yr _<|zo o;have a0:0<=u.getD i 0/2^s:=y9 T.1<|zo o;have a1:u.getD i 0/2^s<2^(64-s):=yz o (by rw[zm, <-v];exact T.2);have R:=yo (u.getD (i+1) 0) (show(2:Int)^s≠0 by omega);have m1:=yk (u.getD (i+1) 0) o;have p0:0<=(u.getD (i+1) 0 % 2^s)*2^(64-s):=z7 R<|zo f;have p1:(u.getD (i+1) 0 % 2^s)*2^(64-s)<=18446744073709551616-2^(64-s):=by
   have:=zg (show u.getD (i+1) 0 % 2^s<=2^s-1 by omega)<|zo f;rw[qn,zy, <-v]at this;exact this
  have g:0<=u.getD i 0/2^s+(u.getD (i+1) 0 % 2^s)*2^(64-s)/\u.getD i 0/2^s+(u.getD (i+1) 0 % 2^s)*2^(64-s)<18446744073709551616:=ae
  have I:zc .u64 (u.getD (i+1) 0*2^(64-s))=(u.getD (i+1) 0 % 2^s)*2^(64-s):=by
   rw[LI];exact(V8 (b:=18446744073709551616) (c:=2^(64-s)) (d:=2^s) (k:=0) f o (by rw[v,zm]) ⟨qo _,f⟩ gy).1
  have J:fT .u64 (u.getD i 0/2^s) ((u.getD (i+1) 0 % 2^s)*2^(64-s))=u.getD i 0/2^s+(u.getD (i+1) 0 % 2^s)*2^(64-s):=by
   rw[Vq R a0 a1 ae,Int.add_comm]
  have next:∀z,z=u.getD i 0/2^s+(u.getD (i+1) 0 % 2^s)*2^(64-s)->Ends J6 (L6 s (a+1) n m n ((i+1:Nat):Int) h<|(p++[z])++u.drop (i+1)) Q:=by
   intro z t;refine EO s S a n m hn F u h W C N hm K r O k (i+1) (p++[z]) ae (by simp[hp]) (D0 e<|by rw[t];exact CM g.1 g.2) ?_;rw[<-A,Fk,hp,LM,y7, <-zq];congr 2;have:=tG (b:=18446744073709551616) (c:=2^s) (d:=2^(64-s)) (x:=u.getD i 0) (y:=u.getD (i+1) 0) (X:=ze Ao<|u.drop<|i+1+1) o v;rw[t,H,P];exact this.symm
  have B:(decide ((0:Int)<=(i:Int))&&decide ((i:Int)<((a+1:Nat):Int)))=true:=by simp;omega
  have b2:(decide ((0:Int)<=((i+1:Nat):Int))&&decide (((i+1:Nat):Int)<((a+1:Nat):Int)))=true:=by simp;omega
  refine yb (GG ..) (zd (by simp;omega) ?_);rw[U,e3,zf,zf,zf,zf,Y,E,g1,D,s1,g2,Z,s2,I,J,q,j];refine zd B (zd (w4 ae)<|zd (by simp)<|zd B<|zd (w4 ae)<|ya (fun c=>zd (by simp;omega)<|zd B<|zd (w4 ae)<|zd b2<|zd (w4 ae)<|zd (by simp)<|zd B<|zd (w4 ae)<|next _ rfl)<|fun c=>?_);have c:=w7 c;have M:s=0:=ae
  subst M;rw[show ∀z:Int,p++z::u.drop (i+1)=(p++[z])++u.drop (i+1)from fun z=>by rw[yc];rfl];refine next _ ?_;rw[yd,Int.emod_one,qz,qe]
theorem Tf{X:AO}{F:Int->List Int->Tr}(w:List Int)(s:Nat)(q:s<=63)(v:Az Ao w)
  (D7:∀(i:Nat) (o:List Int),i<w.length->o.length=w.length+1->Ends X (F ((i+1:Nat):Int)<|if 0<s then(o.set i<|fT .u64 (o.getD i 0)<|zc .u64<|w.getD i 0*2^s).set (i+1) (qf (w.getD i 0)<|2^(64-s))else o.set i<|fT .u64 (o.getD i 0)<|zc .u64<|w.getD i 0*2^s) Q->Ends X (F i o) Q)
  (a:∀o:List Int,o.length=w.length+1->Az Ao o->ze Ao o=2^s*ze Ao w->Ends X (F w.length o) Q):
  ∀(k i:Nat) (p:List Int) (c:Int),i+k=w.length->p.length=i->Az Ao p->(0<=c/\c<2^s)->ze Ao p+(Ao:Int)^i*c=2^s*ze Ao (w.take i)->Ends X (F i (p++c::zn k 0)) Q
 |0,i,p,c,t,hp,e,f,h=>by
  have t:i=w.length:=ae
  subst t;have E:(2:Int)^s<=18446744073709551616:=by
   have:=aO q;have D:(1:Int)<=2^(64-s):=yq af;have G:=zl D (show(0:Int)<=2^s from zo<|yq af);omega
  rw[List.take_length]at h;refine a _ (by simp[hp]) (D0 e<|CM f.1 ae) ?_;rw[<-h];show ze Ao (p++[c])=_;rw[Fk,hp]
 |k+1,i,p,c,t,hp,e,f,h=>by
  have r:=yw<|AW v i;have A:=aO q;have n:(0:Int)<2^s:=yq af;have g:(0:Int)<2^(64-s):=yq af;obtain⟨s1,s2,s3,s4,s5,s6⟩:=V8 (b:=18446744073709551616) (c:=2^s) (d:=2^(64-s)) (x:=w.getD i 0) (k:=c) n g A f r;have j:qf (w.getD i 0) ((2:Int)^(64-s))=w.getD i 0/2^(64-s):=yr _<|zo g;have C:(p++c::zn (k+1) 0).getD i 0=c:=E0 _ _ _ _ hp;have st:∀z:Int,(p++c::zn (k+1) 0).set i z=p++z::zn (k+1) 0:=fun z=>Dn _ _ _ _ hp
  have l:∀z y:Int,(p++z::zn (k+1) 0).set (i+1) y=(p++[z])++y::zn k 0:=fun z y=>by
   rw[show p++z::zn (k+1) (0:Int)=(p++[z])++0::zn k 0 by rw[yc];rfl];exact Dn _ _ _ _ (by simp[hp])
  have m:fT .u64 c ((w.getD i 0 % 2^(64-s))*2^s)=(w.getD i 0 % 2^(64-s))*2^s+c:=Vq (yo _ ae) f.1 f.2 s2;have go:=Tf w s q v D7 a k (i+1) (p++[(w.getD i 0 % 2^(64-s))*2^s+c]) (w.getD i 0/2^(64-s)) ae (by simp[hp]) (D0 e<|CM ae s2) ⟨s4,s5⟩ (by
   rw[Fk,hp,LM,AH,zq<|2^s, <-h,y7,y7, <-zq,yh<|2^s, <-zq];congr 2;rw[zm<|2^s];omega)
  refine D7 i _ ae (by simp;omega) ?_;rw[LI,s1,j,C,m,st,l];by_cases h0:0<s
  ·rw[wd h0];exact go
  ·have u:s=0:=ae
   subst u;have B:w.getD i 0/2^(64-0)=0:=qu r.1 r.2;rw[B]at go;rw[wc h0,show ∀z:Int,p++z::zn (k+1) (0:Int)=(p++[z])++0::zn k 0 from fun z=>by rw[yc];rfl];exact go
end T178
theorem xD[Srt]:CL J6:=
 Aa T164.ok (Aa T203.ok<|Aa T166.ok<|Aa T202.ok<|Aa T204.ok<|Aa tQ<|Aa T215.ok AI)
theorem KI{w:List Int}(c:Az Ao w)(a:Sp.nz w){k:Nat}(b:w.length=k+1):0<w.getD k 0/\w.getD k 0<18446744073709551616:=by
 have g:=yw<|AW c k;refine⟨?_,g.2⟩;have e:w.getLast?=some (w.getD k 0):=by
  rw[List.getLast?_eq_getElem?,b,qg,zt,yi ae];rfl
 unfold Sp.nz at a;rw[e]at a;have:w.getD k 0≠0:=fun h=>a (by rw[h])
 omega
namespace T178
set_option maxHeartbeats 1000000 in
theorem ok[Srt]:Af A5 178 GI:=by
 refine BG xD<|fun(i:List Int×List Int) B=>?_;obtain⟨a,b⟩:=i;have B:(Cj a&&Cj b&&decide (a.length<=9000)&&decide (b.length<=9000)&&decide (0<As b))=true:=B;rw[zu,zu,zu,zu,w5,w5,w5]at B;obtain⟨⟨⟨⟨na,nb⟩,la9⟩,lb9⟩,m⟩:=B;obtain⟨_,da,za⟩:=EY na;obtain⟨_,db,zb⟩:=EY nb;have m:0<ze Ao b:=m;have M:=AE (b:=Ao) af da;have hg:∀q r ob,q=Bs (As a/As b)->r=Bs (As a % As b)->Ad GI (a,b) (PV.tup [PV.dat Dj q,PV.dat Dj r]) ob:=fun q r ob U D=>Ad.of rfl rfl (Prod.ext U D)
 have fin:∀(q r:List Int) ob,Az Ao q->Az Ao r->ze Ao a=ze Ao q*ze Ao b+ze Ao r->ze Ao r<ze Ao b->Ad GI (a,b) (PV.tup [PV.dat Dj<|AB q,PV.dat Dj<|AB r]) ob:=by
  intro q r ob dq dr N hr;have hr0:=AE (b:=Ao) af dr;obtain⟨u1,u2⟩:=(y8 (a:=ze Ao a) (b:=ze Ao b) (r:=ze Ao r) (q:=ze Ao q) m).2 ⟨by rw[zm<|ze Ao b];omega,hr0,hr⟩;refine hg _ _ ob ?_ ?_
  ·rw[LK dq];show Bs (ze Ao q)=Bs (ze Ao a/ze Ao b);rw[u1]
  ·rw[LK dr];show Bs (ze Ao r)=Bs (ze Ao a % ze Ao b);rw[u2]
 have n:b≠[]:=by rintro rfl;simp[ze]at m
 have W:b.length≠0:=fun h=>n<|List.length_eq_zero_iff.1 h
 refine Ends.eq (Ak a b) (zd (by rw[na,nb];rfl)<|ya (fun c=>?_)<|fun c=>?_)
 ·have c:=w6 c;have l:ze Ao a<ze Ao b:=by
   unfold Cp at c;have c:(if ze Ao a<ze Ao b then(-1:Int)else if ze Ao a>ze Ao b then 1 else 0)<0:=c;split at c
   ·assumption
   ·split at c<;>omega
  refine yp<|Ad.of rfl rfl ?_;show([],a)=(Bs<|ze Ao a/ze Ao b,Bs<|ze Ao a % ze Ao b);rw[qu M l,Int.emod_eq_of_lt M l];exact Prod.ext rfl (Jt af da za)
 ·have c:=w7 c;have hge:ze Ao b<=ze Ao a:=by
   rcases ym (ze Ao a) (ze Ao b)with g|g
   ·have:Cp (As a) (As b)= -1:=wd g;omega
   ·exact g
  have hll:b.length<=a.length:=by
   rcases Nat.lt_or_ge a.length b.length with g|g
   ·have:=EJ (b:=Ao) af da db zb g;omega
   ·exact g
  refine ya (fun A=>?_)<|fun A=>?_
  ·have A:b.length=1:=by
    have:(b.length:Int)=1:=by simpa using A
    omega
   obtain⟨d,rfl⟩:=List.length_eq_one_iff.1 A;have hd:0<d/\d<18446744073709551616:=KI (k:=0) db zb rfl;have U:zc .i64 ((a.length:Int)-1)=(a.length:Int)-1:=wr _ ae ae;rw[U,zf];refine zd (by simp;omega) ?_;have:=Ar (Q:=Ad GI (a,[d])) a d da hd ae (fun q r ob dq dr N=>by
    refine fin q [r] ob dq (fun x j=>by rw[List.mem_singleton]at j;subst j;exact⟨dr.1,by show x<18446744073709551616;omega⟩) ?_ ?_
    ·rw[val_one,val_one];exact N
    ·rw[val_one,val_one];exact dr.2) a.length [] 0 (by simp) (fun x j=>by cases j) ⟨qo _,hd.1⟩ (by rw[List.drop_length];simp[ze])
   rw[List.append_nil]at this;exact this
  ·have A:b.length≠1:=by
    have:(b.length:Int)≠1:=by simpa using A
    omega
   obtain⟨k,v⟩:∃k,b.length=k+2:=⟨b.length-2,by omega⟩;obtain⟨y0,y1⟩:=KI (k:=k+1) db zb v;obtain⟨s,hs,hs63,l,_⟩:=Wy y0 y1;have hB:=aO hs63;have f:(0:Int)<2^s:=yq af;have h2d:(0:Int)<2^(64-s):=yq af;have hyd:b.getD (k+1) 0<2^(64-s):=by
    rw[hB,zm<|b.getD (k+1) 0]at l;exact yf l<|zo f
   have S:(Ao:Int)^(k+1)<=2^s*ze Ao b:=by
    have a1:=Df (b:=Ao) af db zb n;rw[v,show k+2-1=k+1 by omega]at a1;have a2:=zg (show(1:Int)<=2^s by omega)<|zo m;omega
   have V:2^s*ze Ao b<(Ao:Int)^(k+2):=by
    have C:ze Ao b=ze Ao (b.take<|k+1)+(Ao:Int)^(k+1)*b.getD (k+1) 0:=by
     rw[<-AH,zz ae]
    have b2:=Bp (b:=Ao) af<|AR db<|k+1;rw[yj,yx ae]at b2;have hp:=Be (b:=Ao) af<|k+1;have b3:ze Ao b<(Ao:Int)^(k+1)*2^(64-s):=by
     have:=zl (show b.getD (k+1) 0+1<=2^(64-s)by omega)<|zo hp;rw[zq,qp]at this;omega
    have b4:=qh b3 f;have b5:(2:Int)^s*((Ao:Int)^(k+1)*2^(64-s))=(Ao:Int)^(k+2):=by
     rw[yh, <-hB];exact(zp ..).symm
    rw[b5]at b4;exact b4
   have Z:∀o:List Int,Az Ao o->ze Ao o=2^s*ze Ao b->Az Ao (AB o)/\(AB o).length=k+2/\ze Ao (AB o)=2^s*ze Ao b/\1<=(AB o).getD (k+1) 0:=by
    intro o ho hv;have z:=Ia ho;have y:ze Ao (AB o)=2^s*ze Ao b:=by rw[J2,hv]
    have K:=sI (b:=Ao) af z (LG o) (k:=k+1) (by rw[y];exact S) (by rw[y];exact V);have:=(KI z (LG o) K).1;exact⟨z,K,y,by omega⟩
   have D:zc .i64 (((k+2:Nat):Int)-1)=((k+1:Nat):Int):=by rw[wr _ ae ae];omega
   have e3:zc .i64 (((k+2:Nat):Int)+1)=((k+3:Nat):Int):=by rw[wr _ ae ae];omega
   have e4:zc .i64 ((a.length:Int)+1)=((a.length+1:Nat):Int):=by rw[wr _ ae ae];omega
   have e5:zc .i64 ((a.length:Int)-((k+2:Nat):Int))=((a.length-(k+2):Nat):Int):=by rw[wr _ ae ae];omega
   have e6:zc .i64 (((a.length-(k+2):Nat):Int)+1)=((a.length-(k+2)+1:Nat):Int):=by rw[wr _ ae ae];omega
   have e7:zc .i64 ((64:Int)-(s:Int))=((64-s:Nat):Int):=by rw[wr _ ae ae];omega
   have em:qc s 64=s:=ae
   have I:qc (64-s) 64=64-s:=ae
   rw[v,D,e3,zf,zf,hs];refine zd (by simp;omega) (zd (CM ae y1)<|zd (by simp;omega) ?_);refine Tf (F:=fun i o=>L2 a b s (k+3) b ((k+2:Nat):Int) i o) b s hs63 db (fun i o B ho h=>?_) (fun o hol E T=>?_) (k+2) 0 [] 0 ae rfl (fun x j=>by cases j) ⟨qo _,f⟩ (by simp[ze])
   ·have ei:=wn (i:=i) ae;have C:(decide ((0:Int)<=(i:Int))&&decide ((i:Int)<((k+3:Nat):Int)))=true:=by simp;omega
    refine yb (AL ..) (zd (by simp;omega) ?_);rw[ei,e7,zf,zf,zf,zf,em,I];refine zd (by simp;omega) (zd C<|zd (w4 ae)<|zd (by simp)<|zd C<|zd (w4 ae)<|ya (fun c=>zd (by simp)<|zd (by simp;omega)<|zd (by simp;omega) ?_)<|fun c=>?_)
    ·have c:=w6 c;rw[wd ae]at h;exact h
    ·have c:=w7 c;rw[wc ae]at h;exact h
   obtain⟨vd,vl,O,v1⟩:=Z o E T;have eo:o.take (k+3)=o:=zz ae;rw[v];refine yb (AL ..) (qd (by simp) ?_);rw[eo,e4,zf,v,D,zf,hs];refine zd (Ac (by simp;omega)<|Eh ae E) (zd (by simp;omega) ?_);refine Tf (F:=fun i o'=>L3 a b s (k+3) b ((k+2:Nat):Int) ((k+2:Nat):Int) o s (a.length+1) a a.length i o' o) a s hs63 da (fun i o' B ho h=>?_) (fun u Y G R=>?_) a.length 0 [] 0 ae rfl (fun x j=>by cases j) ⟨qo _,f⟩ (by simp[ze])
   ·have ei:=wn (i:=i) ae;have C:(decide ((0:Int)<=(i:Int))&&decide ((i:Int)<((a.length+1:Nat):Int)))=true:=by simp;omega
    refine yb (BT ..) (zd (by simp;omega) ?_);rw[ei,e7,zf,zf,zf,zf,em,I];refine zd (by simp;omega) (zd C<|zd (w4 ae) (zd (by simp) (zd C<|zd (w4 ae)<|ya (fun c=>zd (by simp)<|zd (by simp;omega)<|zd (by simp;omega) ?_)<|fun c=>?_)))
    ·have c:=w6 c;rw[wd ae]at h;exact h
    ·have c:=w7 c;rw[wc ae]at h;exact h
   refine yb (BT ..) (qd (by simp) ?_);rw[eo,vl,e5,e6,zf,v,D,zf,hs];refine zd (by simp;omega) ?_;have H:=Be (b:=Ao) af<|a.length-(k+2)+1;have start:ze Ao (u.drop<|a.length-(k+2)+1)<ze Ao (AB o):=by
    have a1:=Ck Ao u (a.length-(k+2)+1) ae;have a2:=AE (b:=Ao) af<|AR G<|a.length-(k+2)+1;have a3:=Bp (b:=Ao) af da;have a4:=qh a3 f;have a5:(Ao:Int)^a.length=(Ao:Int)^(a.length-(k+2)+1)*(Ao:Int)^(k+1):=by rw[<-Int.pow_add];congr 1;omega
    have a6:=Df (b:=Ao) af db zb n;rw[v,show k+2-1=k+1 by omega]at a6;have a7:=zl a6<|zo f;have a8:=zl a7<|zo H;rw[a5,yh]at a4;rw[O];refine yf (a:=(Ao:Int)^(a.length-(k+2)+1)) ?_<|zo H;omega
   have go:=B2 (Q:=Ad GI (a,b)) s (AB o) k a.length vl la9 ae vd v1 (2^s*ze Ao a) (fun u' P L t J p hql N=>by
    have hz:ze Ao (u'.drop<|k+2)=0:=JW (b:=Ao) af t ae (by rw[O]at p;omega);refine EO s hs63 a.length (k+2) (a.length-(k+2)+1) ae la9 u' P L t hz hql ae J (fun w ob hw X=>?_) (k+2) 0 [] ae rfl (fun x j=>by cases j) (by simp[ze]);have e:ze Ao u'=2^s*(ze Ao a-ze Ao P*ze Ao b):=by
     rw[O,zk,zm<|ze Ao b]at N;rw[yy];omega
    have ew:ze Ao w=ze Ao a-ze Ao P*ze Ao b:=by
     rw[X,e];exact Int.mul_ediv_cancel_left _ ae
    refine fin P w ob J hw ae ?_;rw[O,e]at p;have:=yf p<|zo f;omega) (a.length-(k+2)+1) u [] (by simp) Y G (fun x j=>by cases j) start (by rw[R];simp[ze])
   rw[List.append_nil,show((a.length-(k+2)+1:Nat):Int)-1=((a.length-(k+2):Nat):Int)by omega]at go;exact go
end T178
theorem RL[Srt]:Af A5 178 GI:=T178.ok
theorem xZ[Srt]:CL XF0:=fun g sp h=>by cases h
theorem T77n.ok[Srt]:Af A5 77 Rr:=by
 refine BG xZ<|fun(n:Int) _=>?_;refine Ends.eq (T77n.Ak n)<|yp<|Ad.of rfl rfl ?_;show(n,[])=(n,Bo n);rw[EM]
theorem zB[Srt]:CL XF1:=
 Aa T77n.ok (Aa RL<|Aa (T161.ok FD)<|Aa (T162.ok FD)<|Aa T132.ok<|Aa T126.ok<|Aa T133.ok AI)
theorem YB{m D:Int}(c:0<D):(m % D=0->(-m)/D= -(m/D)/\(-m) % D=0)/\(m % D≠0->(-m)/D= -(m/D)-1/\(-m) % D=D-m % D):=by
 have e:=z8 m D;have d:=yo m (show D≠0 by omega);have f:=yk m c;refine⟨fun h=>?_,fun h=>?_⟩
 ·exact(y8 (a:= -m) (b:=D) (r:=0) (q:= -(m/D)) c).2 ⟨by rw[Int.mul_neg];omega,by omega,by omega⟩
 ·exact(y8 (a:= -m) (b:=D) (r:=D-m % D) (q:= -(m/D)-1) c).2 ⟨by rw[yy,Int.mul_neg,qp];omega,by omega,by omega⟩
theorem yH{m D:Int}(a:0<=m)(f:0<D):(0<=m/D/\m/D<=m)/\(0<=m % D/\m % D<=m/\m % D<D):=by
 have e:=z8 m D;have b:0<=m/D:=y9 a ae;have q1:m/D<=m:=Int.ediv_le_self _ a;have c:=yo m (show D≠0 by omega);have d:=yk m f;have:=z7 (show 0<=D by omega) b;exact⟨⟨b,q1⟩,c,by omega,d⟩
theorem ZM(n:Bool){v:Int}(h:0<=v):Ah (qq n v)=v:=by
 rw[Dx,Aj];split<;>omega
theorem DM{n:Int}(h:Ah n<(Ao:Int)^9000):A9 (CR n)=true:=by
 have:=Oo h ae;unfold A9;exact Ac this.1<|w4 this.2
theorem jW{a b:AJ}(h:0<zi a+zi b):Ex a b=CR (zi a+zi b):=by
 unfold Ex;split
 ·next c=>
  have:=ET c.2.2;rw[Bv c.1,Bv c.2.1]at h ⊢;exact(Cn ae).symm
 ·rfl
theorem Oq:((1:Int),Bo (1:Int))=CR 1:=by rw[EM];rfl
namespace T169
theorem RW{a b:AJ}(q:Int)(h: -9223372036854775808<q/\q<9223372036854775808)(c:FX a b=CR q\/(-9223372036854775808<q/\FX a b=Oe (CR<|q+1) (1,[])/\q+1<9223372036854775808)):FX a b=(q,[]):=by
 rcases c with c|⟨d,c,e⟩
 ·rw[c,Cn h]
 ·rw[c,Cn ae];unfold Oe Dd;rw[wd ⟨rfl,by decide⟩];unfold Ex;rw[wd ⟨rfl,rfl,EX (by show _<=q+1+ -1;omega)<|by show q+1+ -1<_;omega⟩];show(q+1+ -1,[])=(q,[]);rw[show q+1+ -1=q by omega]
set_option maxHeartbeats 1000000 in
theorem ok[Srt]:Af A5 169 Hv:=by
 refine BG zB<|fun(i:(Int×List Int)×(Int×List Int)) w=>?_;obtain⟨a,b⟩:=i;have w:(A9 a&&A9 b&&decide (0<zi b))=true:=w;rw[zu,zu,w5]at w;obtain⟨⟨ha,hb⟩,hD⟩:=w;obtain⟨oa,_,na,_,va,ba⟩:=words ha;obtain⟨ob,_,nb,_,vb,bb⟩:=words hb;have H:Ah (zi b)=zi b:=by rw[Aj];omega
 have B:=AM<|zi a;have d:Ah (zi a)=if zi a<0 then -zi a else zi a:=rfl
 obtain⟨⟨s,q1⟩,u,I,C⟩:=yH (D:=zi b) B hD;obtain⟨z1,z2⟩:=YB (m:=Ah<|zi a) hD;have f:UC (Bs<|Ah<|zi a) (Bs<|Ah<|zi b)=true:=by
  unfold UC;exact Ac (Ac (Ac (Ac na nb)<|w4<|KL B ba)<|w4<|KL (AM _) bb) (w4<|by rw[vb,H];exact hD)
 have fin:∀(q r:AJ) v ob,Lv Hv.outs v ob=some (true,(q,r))->q=FX a b->r=CR (zi a % zi b)->Ad Hv (a,b) v ob:=fun q r v ob h T J=>Ad.of h rfl (by rw[T,J];rfl)
 have e:Ends XF1 (L1 (decide (zi a<0)) (Bs<|As (Bs<|Ah<|zi a)/As (Bs<|Ah<|zi b)) (Bs<|As (Bs<|Ah<|zi a) % As (Bs<|Ah<|zi b)) 0 0 b.1 b.2) (Ad Hv (a,b)):=by
  rw[va,vb,H];obtain⟨O,_,R⟩:=C5 (n:=Ah (zi a)/zi b) (k:=9000) s ae ae;obtain⟨nr,_,vr⟩:=C5 (n:=Ah (zi a) % zi b) (k:=9000) u ae ae;have G:A9 (CR<|qq (decide (zi a<0))<|Ah (zi a) % zi b)=true:=DM (by rw[ZM _ u];omega);have K:A9 (CR<|qq (decide (zi a<0))<|Ah (zi a)/zi b)=true:=DM (by rw[ZM _ s];omega);have M:A9 ((1:Int),Bo (1:Int))=true:=by rw[Oq];decide
  have es:It (CP<|qq (decide (zi a<0))<|Ah (zi a) % zi b,CO<|qq (decide (zi a<0))<|Ah (zi a) % zi b)=Sp.N1 (qq (decide (zi a<0))<|Ah (zi a) % zi b):=by
   show Sp.N1 (zi<|CR _)=_;rw[Cz]
  refine yb (Al ..)<|zd O<|zd nr ?_;rw[R,vr];refine yb (AL ..)<|zd (B5 G).1 ?_;rw[es];refine ya (fun c=>?_)<|fun c=>?_
  ·have c:=w6 c;have l:qq (decide (zi a<0)) (Ah (zi a) % zi b)<0:=by
    rw[LA]at c;split at c
    ·assumption
    ·split at c<;>omega
   have j:zi a<0:=by
    rcases ym (zi a) 0 with g|g
    ·exact g
    ·rw[Dx,wc<|by simp;omega]at l;omega
   have hr:Ah (zi a) % zi b≠0:=by
    rw[Dx,wd<|w4 j]at l;omega
   obtain⟨z3,z4⟩:=z2 hr;refine zd rfl (zd (Ac K M)<|zd (Ac G hb)<|yp<|fin (Oe (CR<|qq (decide (zi a<0))<|Ah (zi a)/zi b) (1,Bo 1)) (Ex (CR<|qq (decide (zi a<0))<|Ah (zi a) % zi b) b) _ _ rfl ?_ ?_)
   ·unfold FX;rw[wd ⟨j,hr⟩,EM,Dx,wd<|w4 j]
   ·have ev:zi a= -Ah (zi a):=by rw[d,wd j];omega
    have F:zi (CR<|qq (decide (zi a<0))<|Ah (zi a) % zi b)= -(Ah (zi a) % zi b):=by rw[Cz,Dx,wd<|w4 j]
    have S:zi a % zi b=zi b-Ah (zi a) % zi b:=by rw[<-z4, <-ev]
    rw[jW (by rw[F];omega),F,S];congr 1;omega
  ·have c:=w7 c;have l:¬(zi a<0/\Ah (zi a) % zi b≠0):=by
    rintro⟨j,hr⟩;rw[Dx,wd<|w4 j,LA,wd ae]at c;omega
   refine yp<|fin (CR<|qq (decide (zi a<0))<|Ah (zi a)/zi b) (CR<|qq (decide (zi a<0))<|Ah (zi a) % zi b) _ _ rfl ?_ ?_
   ·unfold FX;rw[wc l]
   ·congr 1;rcases ym (zi a) 0 with g|g
    ·have hr:Ah (zi a) % zi b=0:=by
      rcases ym 0 (Ah (zi a) % zi b)with g2|g2
      ·exact wh ⟨g,by omega⟩ l
      ·omega
     have ev:zi a= -Ah (zi a):=by rw[d,wd g];omega
     have:=(z1 hr).2;rw[<-ev]at this;rw[this,hr,Dx];split<;>rfl
    ·rw[Dx,wc (by simp;omega),d,wc ae]
 refine Ends.eq (Ak a b)<|ya (fun A=>ya (fun l=>ya (fun z=>?_)<|fun z=>?_)<|fun l=>?_)<|fun A=>?_
 ·have a2:=PG A;have L:=PG l;have z:a.1≠ -9223372036854775808:=by simpa using z
  have U:=ET (n:=a.1) (by
   have:=oa;unfold qy at this;rw[zu]at this;exact this.1)
  have V:=ET (n:=b.1) (by
   have:=ob;unfold qy at this;rw[zu]at this;exact this.1)
  have o:=Bv a2;have p:=Bv L;rw[o]at d;rw[p]at hD C;rw[o,p]at s q1 u I z1 z2;rw[o]at C;have t:yn a.1 b.1=if a.1<0 then -(Ah a.1/b.1)else Ah a.1/b.1:=by
   rw[d];split
   ·have:=Int.neg_tdiv (-a.1) b.1;rw[Int.neg_neg]at this;rw[this,qi ae]
   ·exact qi ae
  have hr:yv a.1 b.1=if a.1<0 then -(Ah a.1 % b.1)else Ah a.1 % b.1:=by
   rw[d];split
   ·have:=Int.neg_tmod (-a.1) b.1;rw[Int.neg_neg]at this;rw[this,qj ae]
   ·exact qj ae
  refine zd (w4 ae) (zd (w4 ae)<|ya (fun c=>?_)<|fun c=>?_)
  ·have c:=w6 c;rw[hr]at c;have j:a.1<0:=by split at c<;>omega
   rw[wd j]at c t hr;rw[wd j]at d;obtain⟨z3,z4⟩:=z2 ae;have ev:a.1= -Ah a.1:=ae
   have N:Ah a.1/b.1<9223372036854775807:=by
    rcases ym (Ah a.1/b.1) 9223372036854775807 with g|g
    ·exact g
    ·have:=z8 (Ah a.1) b.1;have:=zg (show 1<=b.1 by omega) s;omega
   refine yp<|fin (zc .i64<|zc .i64 (yn a.1 b.1)-1,[]) (zc .i64<|yv a.1 b.1+b.1,[]) _ _ rfl ?_ ?_
   ·rw[t,wr (-(Ah a.1/b.1)) ae ae,wr _ ae ae];refine(RW _ ae<|.inr ⟨by omega,?_,by omega⟩).symm;unfold FX;rw[o,p,wd ⟨j,by omega⟩,show -(Ah a.1/b.1)-1+1= -(Ah a.1/b.1)by omega]
   ·rw[hr,wr _ ae ae];have:a.1 % b.1=b.1-Ah a.1 % b.1:=by rw[<-z4, <-ev]
    rw[o,p,this,Cn ae];congr 1;omega
  ·have c:=w7 c;rw[hr]at c;refine yp<|fin (zc .i64<|yn a.1 b.1,[]) (yv a.1 b.1,[]) _ _ rfl ?_ ?_
   ·have x:FX a b=CR (yn a.1 b.1):=by
     unfold FX;rw[o,p,t,wc (by rintro⟨P,W⟩;rw[wd P]at c;omega),Dx];by_cases h:a.1<0
     ·rw[wd<|w4 h,wd h]
     ·rw[wc (by simp;omega),wc h]
    have y: -9223372036854775808<yn a.1 b.1/\yn a.1 b.1<9223372036854775808:=by
     rw[t,d]at*;split<;>split at q1<;>split at s<;>omega
    rw[wr _ ae ae];exact(RW _ y<|.inl x).symm
   ·rw[hr];by_cases h:a.1<0
    ·rw[wd h]at c ⊢;have E:Ah a.1 % b.1=0:=ae
     rw[wd h]at d;have ev:a.1= -Ah a.1:=ae
     have:=(z1 E).2;rw[<-ev]at this;rw[o,p,this,E];rfl
    ·rw[wc h]at c ⊢;rw[wc h]at d;rw[o,p,d,Cn<|by rw[d]at u I;omega]
 ·exact zd oa<|zd ob<|zd f e
 ·exact zd oa<|zd ob<|zd f e
 ·exact zd oa<|zd ob<|zd f e
end T169
theorem AaS[Srt]:CL XF2:=
 Aa T169.ok (Aa T175.ok<|Aa T133.ok AI)
theorem yV{a:AJ}(h:qy a=true):VL a=CR (Ah<|zi a):=by
 have l:=Aac h;obtain⟨hr,e⟩:=DW h;unfold VL;by_cases h0:a.1<0
 ·rw[wd h0,Aj];unfold Dd;have b:=l.1 h0;split
  ·next c=>rw[Bv c.1]at b ⊢;rw[Cn ae];congr 1;omega
  ·congr 1;omega
 ·rw[wc h0];obtain⟨s,w⟩:=a;have h0:¬s<0:=h0;rcases e with e|⟨j,i,f⟩
  ·have e:w=[]:=e;subst e;have hr: -9223372036854775808<=s/\s<9223372036854775808:=hr;rw[Fm,Aj,Cn ae];congr 1;omega
  ·obtain⟨_,d,z⟩:=EY j;have i:s=1\/s= -1:=i;have f:9223372036854775808<=As w:=f;have g:w≠[]:=by rintro rfl;exact wh f af
   have k:s=1:=ae
   subst k;rw[Yr g,wc af,Aj];have:=TA (w:=w) false d z f;rw[wc af,wc af]at this;rw[show((As w).natAbs:Int)=As w by omega,this]
theorem qZ(n:Int):It (CP n,CO n)=Sp.N1 n:=by
 show Sp.N1 (zi<|CR _)=_;rw[Cz]
theorem LB(n:Int):zi (CP n,CO n)=n:=Cz n
theorem ZH(m n:Int):jK (CP m,CO m) (CP n,CO n)=CP (m % n)/\mL (CP m,CO m) (CP n,CO n)=CO (m % n):=by
 constructor
 ·show CP (zi (CR _) % zi (CR _))=_;rw[Cz,Cz]
 ·show CO (zi (CR _) % zi (CR _))=_;rw[Cz,Cz]
theorem Gs{n:Int}(h:A9 (CR n)=true):A9 (CP n,CO n)=true:=h
theorem OG{a:AJ}(h:qy a=true):PH a=CP (Ah<|zi a)/\QB a=CO (Ah<|zi a):=by
 unfold PH QB;rw[yV h];exact⟨rfl,rfl⟩
theorem VK(x y:Nat):((x:Int) % (y:Int))=((x % y:Nat):Int):=rfl
theorem yS(a b:AJ)(n:Int)(h:n=Sp.gI (zi a) (zi b)):(CP n,CO n)=(NJ a b,NS a b):=by subst h;rfl
namespace T140
theorem Aaw(n:Nat)(h:(n:Int)<(Ao:Int)^9000):A9 (CR (n:Int))=true:=DM (by rw[Aj,Int.natAbs_natCast];exact h)
theorem Ar[Srt](g:Nat)(i L:Int)(b:∀n:Nat,(n:Int)<L->A9 (CR (n:Int))=true)(d:∀ob,Q (.agg [.dat i64<|CP (g:Int),.dat (.nlist u64)<|CO (g:Int)]) ob):∀(f x y:Nat),y<f->Nat.gcd x y=g->(x:Int)<L->(y:Int)<L->
  Ends XF2 (L1 i (CP (y:Int)) (CO (y:Int)) (CP (x:Int))<|CO (x:Int)) Q
 |0,x,y,h,_,_,_=>by omega
 |f+1,x,y,m,c,k,a=>by
  have j:A9 (CR (x:Int))=true:=b x k;have e:A9 (CR (y:Int))=true:=b y a
  refine yb (Al ..)<|zd (B5<|Gs e).1 ?_;rw[qZ,(ZH _ _).1,(ZH _ _).2,LB,VK];by_cases h0:y=0
  ·subst h0;rw[Nat.gcd_zero_right]at c;subst c;exact qd rfl (yp<|d _)
  ·have l:x % y<y:=Nat.mod_lt _ ae;refine zd ?_ (zd (Ac (Ac (Gs j)<|Gs e)<|w4 ae) ?_)
   ·rw[LA,wc ae,wd ae];rfl
   ·exact Ar g i L b d f y (x % y) ae (by rw[Nat.gcd_comm, <-Nat.gcd_rec,Nat.gcd_comm];exact c) a ae
set_option maxRecDepth 10000 in
theorem ok[Srt]:Af A5 140 ZE:=by
 refine BG AaS<|fun(i:(Int×List Int)×(Int×List Int)) c=>?_;obtain⟨a,b⟩:=i;have c:(A9 a&&A9 b)=true:=c;rw[zu]at c;obtain⟨ha,hb⟩:=c;have d:=(B5 ha).1;have ob:=(B5 hb).1;have f:=bounds ha;have e:=bounds hb;rw[Aj]at f e;refine Ends.eq (Ak a b)<|zd d<|zd ob ?_;show Ends XF2 (L1 0 (PH b) (QB b) (PH a)<|QB a) _;rw[(OG d).1,(OG d).2,(OG ob).1,(OG ob).2,Aj,Aj];refine Ar (Nat.gcd (zi a).natAbs (zi b).natAbs) 0 _ Aaw (fun ob=>Ad.of rfl rfl (yS a b _ ?_)) ((zi b).natAbs+1) _ _ (Nat.lt_succ_self _) rfl f e;rw[Gk];rfl
end T140
theorem Agm(n:Nat)(h:n<9223372036854775808):H3 .i64 (n:Int) 1=((n % 2:Nat):Int):=by
 have e:(ye 64 (n:Int)&&&ye 64 1).toNat=n % 2:=by
  rw[BitVec.toNat_and];have a:(ye 64 (n:Int)).toNat=n:=by rw[BitVec.ofInt_natCast,BitVec.toNat_ofNat];exact Nat.mod_eq_of_lt ae
  have b:(ye 64 1).toNat=2^1-1:=af
  rw[a,b,Nat.and_two_pow_sub_one_eq_mod]
 show zc .i64 (((ye 64 (n:Int)&&&ye 64 1).toNat:Nat):Int)=_;rw[e];exact wr _ ae ae
namespace T160
theorem Vh{c:Int}(h:c≠0):1<=Ah c:=by rw[Aj];omega
theorem aM(c:Int):∀k:Nat,Ah (c^k)=Ah c^k
 |0=>by rw[yd,yd];rfl
 |k+1=>by rw[zp,zp,JH,aM c k]
theorem one_le_pow{c:Int}(h:1<=c):∀k:Nat,1<=c^k
 |0=>by rw[yd];decide
 |k+1=>by
  rw[zp];have:=zg (one_le_pow h k) (show 0<=c by omega);omega
theorem Afr{p c L:Int}{k:Nat}(m:1<L)(h:Ah (p*c^k)<L)(i:c=0->Ah p<=1)(l:c≠0->p≠0):Ah p<L/\(1<=k->Ah c<L)/\(2<=k->Ah (c*c)<L)/\(1<=k->Ah (p*c)<L):=by
 by_cases b:c=0
 ·subst b;have:=i rfl;have e:Ah 0=0:=rfl;exact⟨by omega,fun _=>by rw[e];omega,fun _=>by rw[yt,e];omega,fun _=>by rw[yt,e];omega⟩
 ·have hp:=Vh<|l b;have a:=Vh b;rw[JH,aM]at h;rw[JH,JH];generalize Ah p=P at*;generalize Ah c=C at*;have g:1<=C^k:=one_le_pow a k;have a1:P<=P*C^k:=by
   have:=zl g (show 0<=P by omega);omega
  have f:C^k<=P*C^k:=by
   have:=zg hp (show 0<=C^k by omega);omega
  refine⟨by omega,fun d=>?_,fun d=>?_,fun d=>?_⟩
  ·obtain⟨j,rfl⟩:∃j,k=j+1:=⟨k-1,by omega⟩;rw[zp]at f h;have:=zg (one_le_pow a j) (show 0<=C by omega);omega
  ·obtain⟨j,rfl⟩:∃j,k=j+2:=⟨k-2,by omega⟩;have e:C^(j+2)=C^j*(C*C):=by rw[zp,zp,zk]
   rw[e]at f h;have:=zg (one_le_pow a j) (z7 (show 0<=C by omega) (show 0<=C by omega));omega
  ·obtain⟨j,rfl⟩:∃j,k=j+1:=⟨k-1,by omega⟩;have e:P*C^(j+1)=C^j*(P*C):=by rw[zp,yh]
   rw[e]at h;have:=zg (one_le_pow a j) (z7 (show 0<=P by omega) (show 0<=C by omega));omega
theorem gP{p c:Int}{k j:Nat}(h:k=2*j):p*(c*c)^j=p*c^k:=by
 subst h;rw[Int.pow_mul,zp,zp,yd,zy]
theorem lX{p c:Int}{k j:Nat}(h:k=2*j+1):p*c*(c*c)^j=p*c^k:=by
 subst h;rw[zp,Int.pow_mul,show c^2=c*c by rw[zp,zp,yd,zy],zk,zm c]
theorem Agn{x:Int}(h:x<(18446744073709551616:Int)^(4000:Nat)):x<(Ao:Int)^9000:=
 Int.lt_of_lt_of_le h (AT (b:=Ao) af ae)
theorem Ar[Srt](o1 R:Int)(hR:Ah R<(18446744073709551616:Int)^(4000:Nat))(o:∀ob,Q (.agg [.dat i64<|CP R,.dat (.nlist u64)<|CO R]) ob):
  ∀(f k:Nat) (p:Int) (a:AJ),k<f->k<=100000->(1<=k->A9 a=true)->p*zi a^k=R->(zi a=0->Ah p<=1)->(zi a≠0->p≠0)->
   Ends XF3 (L1 (k:Int) (CP p) (CO p) o1 a.1 a.2) Q
 |0,k,p,a,h,_,_,_,_,_=>by omega
 |f+1,k,p,a,D,y,v,i,s,m=>by
  have A:(1:Int)<(18446744073709551616:Int)^(4000:Nat):=Int.lt_of_lt_of_le (show(1:Int)<18446744073709551616^(1:Nat)by decide) (AT (b:=18446744073709551616) af ae);rw[<-i]at hR;obtain⟨s1,s2,s3,s4⟩:=Afr A hR s m;by_cases h0:k=0
  ·subst h0;rw[yd,qp]at i;subst i;exact yb (Al ..) (qd (by simp)<|yp<|o _)
  ·have x:A9 (CP p,CO p)=true:=DM<|Agn s1;have j:A9 a=true:=v ae;have w:qf (k:Int) ((2:Int)^(1:Nat))=((k/2:Nat):Int):=by
    rw[yr _ af];rfl
   have u:(E7 (CP p,CO p) a,E2 (CP p,CO p) a)=CR (p*zi a):=by
    show CR (zi (CR p)*zi a)=_;rw[Cz]
   have r:E7 (CP p,CO p) (a.1,a.2)=CP (p*zi a):=wi Prod.fst u;have n:E2 (CP p,CO p) (a.1,a.2)=CO (p*zi a):=wi Prod.snd u;have l:zi (Fp a a)=zi a*zi a:=DA a a;have t:∀q:Int,1<k->q*(zi a*zi a)^(k/2)=p*zi a^k->(zi a=0->Ah q<=1)->(zi a≠0->q≠0)->Ends XF3 (L1 ((k/2:Nat):Int) (CP q) (CO q) o1 (E7 (a.1,a.2) (a.1,a.2))<|E2 (a.1,a.2) (a.1,a.2)) Q:=by
    intro q e g C B;refine Ar o1 R (by rw[i]at hR;exact hR) o f (k/2) q (Fp a a) ae ae (fun _=>DM<|Agn<|s3 ae) (by rw[l,g,i]) (fun z=>C ?_)<|fun z=>B ?_
    ·rw[l]at z;rcases Int.mul_eq_zero.1 z with z|z<;>exact z
    ·rintro z2;rw[l,z2]at z;exact z rfl
   have st:∀q:Int,k=1->q=R->Ends XF3 (L1 ((k/2:Nat):Int) (CP q) (CO q) o1 a.1 a.2) Q:=by
    intro q e g;subst e g;exact yb (Al ..) (qd (by simp)<|yp<|o _)
   refine yb (Al ..) (zd (w4 ae) ?_);rw[Agm k ae,w,r,n];refine ya (fun c=>?_)<|fun c=>?_
   ·have c:((k % 2:Nat):Int)=1:=by simpa using c
    refine zd (Ac x j)<|ya (fun d=>zd (Ac j j)<|zd rfl ?_)<|fun d=>zd rfl ?_
    ·have d:=w6 d;refine t _ ae (lX ae) (fun z=>by rw[z,yt];decide)<|fun z=>?_;exact Int.mul_ne_zero (m z) z
    ·have d:=w7 d;have e:k=1:=ae
     refine st _ e ?_;rw[<-i,e,zp,yd,zy]
   ·have c:((k % 2:Nat):Int)≠1:=by simpa using c
    refine ya (fun d=>zd (Ac j j)<|zd rfl ?_)<|fun d=>?_
    ·have d:=w6 d;exact t _ ae (gP ae) s m
    ·have d:=w7 d;omega
theorem wG[Srt]:CL XF3:=Aa T77n.ok<|Aa T127.ok AI
theorem ok[Srt]:Af A5 160 tV:=by
 refine BG wG<|fun(i:(Int×List Int)×Int) b=>?_;obtain⟨a,k⟩:=i;have b:(A9 a&&(decide (0<=k)&&decide (k<=100000)&&decide (Ah (Sp.pI (zi a) k)<(18446744073709551616:Int)^(4000:Nat))))=true:=b;rw[zu,zu,zu,w5,w5,w5,Ya]at b;obtain⟨ha,⟨k0,k1⟩,hR⟩:=b;obtain⟨n,rfl⟩:=Int.eq_ofNat_of_zero_le k0;have c:Bo 1=CO 1:=by rw[EM];rfl
 refine Ends.eq (Ak a n)<|zd rfl ?_;rw[c];refine Ar (Q:=Ad tV (a,(n:Int))) 0 (zi a^n) hR (fun ob=>Ad.of rfl rfl ?_) (n+1) n 1 a ae ae (fun _=>ha) (zy _) (fun _=>by decide) (fun _=>by decide);show CR _=CR (Sp.pI (zi a) (n:Int));rw[Ya];rfl
end T160
end Go.Pe
