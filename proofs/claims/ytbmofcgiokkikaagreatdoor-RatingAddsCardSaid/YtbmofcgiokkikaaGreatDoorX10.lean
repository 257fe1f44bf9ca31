import Derived.Test.YtbmofcgiokkikaaGreatDoorX09
/- A part of a proof; no law is stated here. -/
noncomputable section
open Go.IntKind renaming wrap -> zc, u64 -> zi, u8 -> qx, i64 -> q9
open Go.Pe.Ends renaming tt -> zd, ite -> ye, Ah -> yf, leaf -> yz, ff -> qk
open Go.Sp renaming val -> ze, vI -> zj, u64 -> z6, Bd -> qc, sg -> qw, Dz -> je
open Int renaming toNat_natCast -> zf, mul_le_mul_of_nonneg_right -> zh, mul_assoc -> zl, mul_le_mul_of_nonneg_left -> zm, mul_comm -> zn, le_of_lt -> zp, pow_succ -> zq, mul_add -> zr, one_mul -> z7, add_mul -> yb, mul_nonneg -> yc, mul_ediv_add_emod -> yd, pow_zero -> yh, lt_of_mul_lt_mul_left -> yj, mul_left_comm -> yn, emod_lt_of_pos -> yr, lt_or_le -> yt, tdiv -> yu, emod_nonneg -> yv, pow_pos -> yw, fdiv_eq_ediv_of_nonneg -> yx, mul_zero -> y7, tmod -> y9, ediv_lt_of_lt_mul -> qe, add_assoc -> qf, mul_sub -> qg, ediv_emod_unique -> qh, ediv_nonneg -> qi, add_zero -> ql, fdiv -> qm, mul_lt_mul_of_pos_left -> qo, tdiv_eq_ediv_of_nonneg -> qp, tmod_eq_emod_of_nonneg -> qq, sub_mul -> qu, le_refl -> qv, ediv_eq_zero_of_lt -> qy, mul_one -> jc, zero_mul -> jf
open Go.Pe.Sh renaming list -> zk, int -> zt, str -> ya, bool -> yk, T -> jg
open List renaming replicate -> zo, getD_eq_getElem?_getD -> zy, take_of_length_le -> z8, append_assoc -> yg, getElem?_eq_getElem -> yo, length_take -> yp, drop_eq_getElem_cons -> qt, mem_append -> qz
open Nat renaming add -> zu, sub -> yy, min_eq_left -> qd, add_sub_cancel -> qn
open Bool renaming and_eq_true -> zz
open BitVec renaming ofInt -> yi
open Option renaming getD -> ym
open UInt8 renaming toNat -> yq
open Go.Pe.PV renaming agg -> y8
open Min renaming min -> qj
variable {Q:Go.Pe.PV->Go.Pe.Ob->Prop}
namespace Go.Pe
open Go.Det
section
open List Int Prod
namespace T236
def T(s t:Z):Tr:=tree mB false 9 236<|Af ([ya,ya]) (s,t)
def L1(s t v0:Z)(v4:Int)(a:List Bool):Tr:=re ((T s t).R.R.L.L.R)<|Ap 21 [(0,.dat ya v0),(2,.ptr 0 0),(4,.dat i64 v4)] [(0,.arr false 293 yk a)] 1
def L2(s t v0:Z)(v4:Int)(a:List Bool):Tr:=re ((T s t).R.R.R)<|Ap 21 [(0,.dat ya v0),(2,.ptr 0 0),(4,.dat i64 v4)] [(0,.arr false 293 yk a)] 1
theorem Ai(s t:Z):T s t=let a:=decide (0<(length t:Int));let b':Tr:=.leaf (.dat ya s) [];.ite (s==[]) b' (.ite (t==[]) b'<|.ite ((length t:Int)==1) (.ck a<|.di ((↑(yq<|getD t 0 (0:UInt8)):Int)<128) (.ck a<|.ck a<|.ck false<|.ck false b')<|L1 s t t 0 Sp.Adu)<|L2 s t t 0 Sp.Adu):=by kernel_rfl
def L4(s t v0:Z)(v4:Int)(c:List Bool)(a:Z)(o1:List Bool)(b:List Bool):Tr:=re ((stepT mB<|L2 s t v0 v4 c).R.L.L.L.L)<|Ap 22 [(0,.dat ya a),(1,.ptr 1 0)] [(1,.arr false 293 yk o1),(0,.arr false 293 yk b)] 2
theorem AA(s t v0:Z)(v4:Int)(a:List Bool):stepT mB (L2 s t v0 v4 a)=let b:=(↑(yq<|getD v0 (toNat v4) (0:UInt8)):Int);let b':=decide (length a=256);let c:=decide (v4<(length v0:Int));.ite c (.ck (decide (0<=v4)&&c)<|.di (b>=128) (.ck b'<|.ck b'<|.cd (256=256)<|.ck true<|.ck false<|.ck false<|.leaf (.dat ya s) [])<|.ck (decide ((0:jg (zt qx))<=b)&&decide (b<(↑256:Int)))<|.cd (toNat b<length a)<|L2 s t v0 (zc .i64<|v4+1)<|set a (toNat b) true) (.ck b'<|.ck b'<|.cd (256=256)<|.ck true<|L4 s t v0 v4 a s ((Sp.AdO a))<|(Sp.AdO a)):=by kernel_rfl
def L7(s t v0:Z)(v4:Int)(f:List Bool)(d:Z)(o1:List Bool)(e:List Bool)(a:Z)(c:List Bool)(b:List Bool):Tr:=re ((stepT mB<|L4 s t v0 v4 f d o1 e).L.L.L.L.L)<|Ap 16 [(0,.dat ya a),(1,.ptr 1 0)] [(1,.arr false 293 yk c),(0,.arr false 293 yk b)] 2
def L8(s t v0:Z)(v4:Int)(f:List Bool)(d:Z)(o1:List Bool)(e:List Bool)(a:Z)(c:List Bool)(b:List Bool):Tr:=re ((stepT mB<|L4 s t v0 v4 f d o1 e).R)<|Ap 16 [(0,.dat ya a),(1,.ptr 1 0)] [(1,.arr false 293 yk c),(0,.arr false 293 yk b)] 2
theorem BX(s t v0:Z)(v4:Int)(e:List Bool)(a:Z)(o1:List Bool)(b:List Bool):stepT mB (L4 s t v0 v4 e a o1 b)=let b':=(↑(length a):Int);let c:=zc .i64<|b'-1;let f:=decide (0<=zc .i64 (b'-1));let d:=(↑(yq<|getD a (toNat c) (0:UInt8)):Int);.di (b'>0) (.ck (f&&decide (zc .i64 (b'-1)<b'))<|.ck (decide ((0:jg (zt qx))<=d)&&decide (d<(↑256:Int)))<|.cd (toNat d<length o1)<|.ite (!getD o1 (toNat d) false) (L7 s t v0 v4 e a o1 b a o1 b)<|.ck (f&&decide (0<=toNat c)&&decide (toNat c<=length a))<|L4 s t v0 v4 e (take (toNat c) a) o1 b) (L8 s t v0 v4 e a o1 b a o1 b):=by kernel_rfl
theorem C6(s t v0:Z)(v4:Int)(g:List Bool)(d:Z)(o1:List Bool)(e:List Bool)(a:Z)(b:List Bool)(c:List Bool):stepT mB (L7 s t v0 v4 g d o1 e a b c)=let f:=(↑(yq<|getD a 0 (0:UInt8)):Int);let b':Tr:=.leaf (.dat ya a) [];.di ((↑(length a):Int)>0) (.cd (0<(↑(length a):Int))<|.ck (decide ((0:jg (zt qx))<=f)&&decide (f<(↑256:Int)))<|.cd (toNat f<length b)<|.ite (!getD b (toNat f) false) b'<|.ck (decide (1<=length a)&&decide (length a<=length a))<|L7 s t v0 v4 g d o1 e (take (yy (length a) 1)<|drop 1 a) b c) b':=by kernel_rfl
theorem DM(s t v0:Z)(v4:Int)(g:List Bool)(d:Z)(o1:List Bool)(e:List Bool)(a:Z)(b:List Bool)(c:List Bool):stepT mB (L8 s t v0 v4 g d o1 e a b c)=let f:=(↑(yq<|getD a 0 (0:UInt8)):Int);let b':Tr:=.leaf (.dat ya a) [];.di ((↑(length a):Int)>0) (.cd (0<(↑(length a):Int))<|.ck (decide ((0:jg (zt qx))<=f)&&decide (f<(↑256:Int)))<|.cd (toNat f<length b)<|.ite (!getD b (toNat f) false) b'<|.ck (decide (1<=length a)&&decide (length a<=length a))<|L8 s t v0 v4 g d o1 e (take (yy (length a) 1)<|drop 1 a) b c) b':=by kernel_rfl
end T236
namespace T201
def T(s:Z):Tr:=tree XH1 false 9 201<|Af ([ya]) s
theorem Ai(s:Z):T s=.ite (!s==[]) (.ck (Sp.Aeb s [(48:UInt8),49,50,51,52,53,54,55,56,57])<|.ite (Sp.QP s==[]) (.cd (0<(length s:Int))<|.ite ((↑(yq<|getD s 0 (0:UInt8)):Int) !=48) (.leaf (.bl true) [])<|.leaf (.dat yk<|s==[(48:UInt8)]) [])<|.leaf (.bl false) []) (.leaf (.bl false) []):=by kernel_rfl
end T201
namespace T200
def T(s t:Z):Tr:=tree Mh false 9 200<|Af ([ya,ya]) (s,t)
theorem Ai(s t:Z):T s t=let a:=(length t:Int);let b':Tr:=.leaf (.tup [.dat ya s,.bl false]) [];let b:=decide (toNat a<=length s);.di ((length s:Int)>=a) (.ck (decide (0<=a)&&decide (0<=toNat a)&&b)<|.ite (!take (toNat a) s==t) b'<|.ck (decide (0<=a)&&true&&b&&decide (length s<=length s))<|.leaf (.tup [.dat ya<|take (yy (length s)<|toNat a)<|drop (toNat a) s,.bl true]) []) b':=by kernel_rfl
end T200
namespace T159
def T(s t:Z):Tr:=tree XH2 false 9 159<|Af ([ya,ya]) (s,t)
theorem Ai(s t:Z):T s t=let b':=(↑(yq<|getD t 0 (0:UInt8)):Int);let a:=(length t:Int);let f:Tr:=.leaf (.tup [.dat ya s,.dat ya [],.bl false]) [];let b:=decide (length s<=length s);let h:=BF [zt qx];let e:=zc .i64<|Sp.Rh s b'+a;let c:=zc .i64<|(-1)+a;let h':=zc .i64<|0+a;let d:=Sp.Rh s b';let g:Tr:=.ite true (.cd (0<=length s)<|.ck (decide (0<=zc .i64 (0+a))&&true&&decide (toNat h'<=length s)&&b)<|.leaf (.tup [.dat ya<|take 0 s,.dat ya<|take (yy (length s)<|toNat h')<|drop (toNat h') s,.bl true]) []) f;.ite (a==0) g (.ite (t==s) g<|.ite (a==1) (.cd (0<a)<|.ck (decide ((0:jg h)<=b')&&decide (b'<(256:jg h)))<|.di (Sp.Rh s b'>=0) (.ck (decide (0<=Sp.Rh s b')&&decide (0<=toNat d)&&decide (toNat d<=length s))<|.ck (decide (0<=zc .i64 (Sp.Rh s b'+a))&&true&&decide (toNat e<=length s)&&b)<|.leaf (.tup [.dat ya<|take (toNat d) s,.dat ya<|take (yy (length s)<|toNat e)<|drop (toNat e) s,.bl true]) []) f)<|.cd (a>=(length s:Int))<|.ite false (.ck (false&&decide (0<=length s))<|.ck (decide (0<=zc .i64 ((-1)+a))&&true&&decide (toNat c<=length s)&&b)<|.leaf (.tup [.dat ya<|take 0 s,.dat ya<|take (yy (length s)<|toNat c)<|drop (toNat c) s,.bl true]) []) f):=by kernel_rfl
end T159
end
open Sp
section
open List Int Prod
namespace T190
def T(w:List Int):Tr:=tree mT false 9 190<|Af ([zk i64]) w
def L1(v0:List Int):Tr:=re ((T []))<|Ap 21 [(0,.dat (zk i64) v0)] [] 0
theorem Ai(w:List Int):T w=L1 w:=by kernel_rfl
theorem Al(v0:List Int):stepT mT (L1 v0)=let b':=(length v0:Int);let c:Tr:=.leaf (.dat (zk i64) v0) [];let a:=zc .i64<|b'-1;let b:=decide (0<=zc .i64 (b'-1));.di (b'>0) (.ck (b&&decide (zc .i64 (b'-1)<b'))<|.ite (getD v0 (toNat a) 0==0) (.ck (b&&decide (0<=toNat a)&&decide (toNat a<=length v0))<|L1<|take (toNat a) v0) c) c:=by kernel_rfl
end T190
namespace T149
def T(n:Bool)(w:List Int):Tr:=tree bF false 9 149<|Af ([yk,zk i64]) (n,w)
theorem Ai(n:Bool)(w:List Int):T n w=.cd (length w<=20000) (.ite n (.leaf (y8 [.dat yk<|decide ((↑(length<|AE w):Int)>0),.dat (zk i64)<|AE w]) [])<|.leaf (y8 [.bl false,.dat (zk i64)<|AE w]) []):=by kernel_rfl
end T149
namespace T151
def T(a b:List Int):Tr:=tree mT false 9 151<|Af ([zk i64,zk i64]) (a,b)
def L1(v0 v1:List Int)(v5:Int):Tr:=re ((T [] []).R)<|Ap 41 [(0,.dat (zk i64) v0),(1,.dat (zk i64) v1),(5,.dat i64 v5)] [] 0
theorem Ai(a b:List Int):T a b=let c:=(length a:Int);.ite (c !=(length b:Int)) (.di (c<(length b:Int)) (.leaf (.dat i64 (-1:Int)) [])<|.leaf (.dat i64 (1:Int)) []) (L1 a b<|zc .i64<|c-1):=by kernel_rfl
theorem Al(v0 v1:List Int)(v5:Int):stepT mT (L1 v0 v1 v5)=let a:=decide (0<=v5)&&decide (v5<(length v0:Int));let b':=decide (0<=v5)&&decide (v5<(length v1:Int));.di (v5>=0) (.ck a<|.ck b'<|.di (getD v0 (toNat v5) 0<getD v1 (toNat v5) 0) (.leaf (.dat i64 (-1:Int)) [])<|.ck a<|.ck b'<|.di (getD v0 (toNat v5) 0>getD v1 (toNat v5) 0) (.leaf (.dat i64 (1:Int)) [])<|L1 v0 v1<|zc .i64<|v5-1) (.leaf (.dat i64 (0:Int)) []):=by kernel_rfl
end T151
namespace T153
def T(a b:List Int):Tr:=tree bF false 9 153<|Af ([zk i64,zk i64]) (a,b)
def L1(v0 v1:List Int)(a:Nat)(c:Int)(b:List Int):Tr:=re ((T [] []).L)<|Ap 72 [(0,.dat (zk i64) v0),(1,.dat (zk i64) v1),(5,.sl 0 1 0 a none),(6,.dat i64 c)] [(0,.arr false 3 i64 b)] 1
theorem Ai(a b:List Int):T a b=let c:=(length a:Int)+(length b:Int);let b':=zc .i64 c;.ck (decide (0<=zc .i64 c)&&decide (zc .i64 c=zc .i64 c)&&decide (8*toNat b'<=281474976710656)&&decide (zc .i64 c<9223372036854775808)) (L1 a b (toNat b') 0<|replicate (toNat b') 0):=by kernel_rfl
def L2(v0 v1:List Int)(a:Nat)(e c b:Int)(d:List Int):Tr:=re ((stepT bF<|L1 [] [] 0 0 []).L)<|Ap 72 [(0,.dat (zk i64) v0),(1,.dat (zk i64) v1),(5,.sl 0 1 0 a none),(6,.dat i64 e),(7,.dat i64 c),(8,.dat i64 b)] [(0,.arr false 3 i64 d)] 1
theorem Al(v0 v1:List Int)(a:Nat)(c:Int)(b:List Int):stepT bF (L1 v0 v1 a c b)=.di (c<(length v0:Int)) (L2 v0 v1 a c 0 0 b) (.ck (decide (0+a<=length b)&&true&&decide (length (take a b)<=20000))<|.leaf (.dat (zk i64)<|AE<|take a b) []):=by kernel_rfl
theorem AA(v0 v1:List Int)(a:Nat)(b g c:Int)(d:List Int):stepT bF (L2 v0 v1 a b g c d)=let i:=decide (0<=zc .i64 (b+c))&&decide (zc .i64 (b+c)<(↑a:Int));let h:=zc .i64<|b+c;let e:=(length v1:Int);let l:=zc .i64<|zc .i64 (getD d (toNat h) 0+zc .i64 (getD v0 (toNat b) 0*getD v1 (toNat c) 0))+g;let b':=b+e;let k:=decide (toNat h<length d);let j:=decide (0<=zc .i64 b')&&decide (zc .i64 b'<(↑a:Int));let f:=zc .i64 b';let h':=decide (toNat f<length d);.di (c<e) (.ck i<|.ck k<|.ck (decide (0<=b)&&decide (b<(length v0:Int)))<|.ck (decide (0<=c)&&decide (c<e))<|.ck true<|.ck i<|.ck k<|.ck true<|L2 v0 v1 a b (zc .i64<|yu l 1000000000) (zc .i64<|c+1)<|set d (toNat h)<|y9 l 1000000000) (.ck j<|.ck h'<|.ck j<|.ck h'<|L1 v0 v1 a (zc .i64<|b+1)<|set d (toNat f)<|zc .i64<|getD d (toNat f) 0+g):=by kernel_rfl
end T153
namespace T189
def T(a:List Int)(d:Int):Tr:=tree bF false 9 189<|Af ([zk i64,zt q9]) (a,d)
def L1(v0:List Int)(v1:Int)(a:Nat)(c b:Int)(d:List Int):Tr:=re ((T [] 0).L)<|Ap 39 [(0,.dat (zk i64) v0),(1,.dat i64 v1),(6,.sl 0 1 0 a none),(7,.dat i64 c),(8,.dat i64 b)] [(0,.arr false 3 i64 d)] 1
theorem Ai(a:List Int)(d:Int):T a d=let b:=(length a:Int);.ck (decide (0<=b)&&decide (b=b)&&decide (8*toNat b<=281474976710656)&&decide (b<9223372036854775808)) (L1 a d (toNat b) 0 (zc .i64<|b-1)<|replicate (toNat b) 0):=by kernel_rfl
theorem Al(v0:List Int)(v1:Int)(a:Nat)(d b:Int)(c:List Int):stepT bF (L1 v0 v1 a d b c)=let e:=zc .i64<|zc .i64 (d*1000000000)+getD v0 (toNat b) 0;.di (b>=0) (.ck (decide (0<=b)&&decide (b<(length v0:Int)))<|.cd (v1≠0)<|.ck (decide (0<=b)&&decide (b<(↑a:Int)))<|.cd (toNat b<length c)<|.cd (v1≠0)<|L1 v0 v1 a (y9 e v1) (zc .i64<|b-1)<|set c (toNat b)<|zc .i64<|yu e v1) (.ck (decide (0+a<=length c)&&true&&decide (length (take a c)<=20000))<|.leaf (.tup [.dat (zk i64)<|AE<|take a c,.dat i64 d]) []):=by kernel_rfl
end T189
namespace T147
def T(a b:List Int):Tr:=tree NJ false 9 147<|Af ([zk i64,zk i64]) (a,b)
def L1(v0:List Int)(b:Nat)(v9:List Int)(c:Int)(a:Nat)(o1 d:List Int):Tr:=re ((T [] []).L.R.R.L.L.L.L.L)<|Ap 206 [(0,.dat (zk i64) v0),(8,.sl 0 1 0 b none),(9,.dat (zk i64) v9),(10,.dat i64 c),(11,.sl 1 1 0 a none)] [(1,.arr false 3 i64 o1),(0,.arr true 3 i64 d)] 2
theorem Ai(a b:List Int):T a b=let c:=(length b:Int);let e:=getD b (toNat<|zc .i64<|c-1) 0+1;let d:=yu 1000000000<|zc .i64 e;let b':=Ar a*Ar [zc .i64 d];let f:=B0<|Ar b*Ar [zc .i64 d];.ck (Bh a&&Bh b) (.di (Cd (Ar a) (Ar b)<0) (.leaf (.tup [.nil,.dat (zk i64) a]) [])<|.ite (c==1) (.cd (0<c)<|.ck (Lz a&&decide (0<getD b 0 0)&&decide (getD b 0 0<1000000000))<|.ck (decide (1<=1)&&true&&decide (1<=20000))<|.leaf (.tup [.dat (zk i64)<|B0<|Ar a/getD b 0 0,.dat (zk i64)<|AE [Ar a % getD b 0 0]]) [])<|.ck (decide (0<=zc .i64 (c-1))&&decide (zc .i64 (c-1)<c))<|.cd (zc .i64 e≠0)<|.ck (decide (1<=1)&&true&&(Sp.hR b&&Sp.hR [zc .i64 d]))<|.ck (decide (1<=1)&&true&&(Sp.hR a&&Sp.hR [zc .i64 d]))<|.cd ((3*(0+length (B0 b'))+2000)*8<=562949953421312)<|L1 a 1 f ((↑(length f):Int)) (zu 0<|length<|B0 b') ([]++B0 b')<|[zc .i64 d]):=by kernel_rfl
def L2(c:Nat)(v9:List Int)(e:Int)(a b:Nat)(d:Int)(g o1 f:List Int):Tr:=re ((stepT NJ<|L1 [] 0 [] 0 0 [] []).R.L)<|Ap 206 [(8,.sl 0 1 0 c none),(9,.dat (zk i64) v9),(10,.dat i64 e),(11,.sl 1 1 0 a none),(12,.sl 2 1 0 b none),(13,.dat i64 d)] [(2,.arr false 3 i64 g),(1,.arr false 3 i64 o1),(0,.arr true 3 i64 f)] 3
theorem Al(v0:List Int)(c:Nat)(v9:List Int)(b:Int)(a:Nat)(o1 e:List Int):stepT NJ (L1 v0 c v9 b a o1 e)=let d:=(↑a:Int)-b;let b':=zc .i64 d;.di ((↑a:Int)<zc .i64 ((length v0:Int)+1)) (.ck (decide (a=length o1)&&decide ((3*(a+1)+2000)*8<=562949953421312))<|L1 v0 c v9 b (zu a 1) (o1++[0]) e) (.ck (decide (0<=zc .i64 d)&&decide (zc .i64 d=zc .i64 d)&&decide (8*toNat b'<=281474976710656)&&decide (zc .i64 d<9223372036854775808))<|L2 c v9 b a (toNat b') (zc .i64<|zc .i64 d-1) (replicate (toNat b') 0) o1 e):=by kernel_rfl
def L3(e:Nat)(v9:List Int)(k:Int)(b c:Nat)(j:Int)(n o1 m:List Int)(h:Nat)(v1:List Int)(v2 l:Int)(i:Int)(a:Int)(f:List Int)(d:List Int)(g:List Int):Tr:=re ((stepT NJ<|L2 e v9 k b c j n o1 m).L.L.L.L.L.L.L.L.L)<|Ap 77 [(0,.sl 1 1 0 h none),(1,.dat (zk i64) v1),(2,.dat i64 v2),(7,.dat i64 l),(9,.dat i64 i),(10,.dat i64 a)] [(2,.arr false 3 i64 f),(1,.arr false 3 i64 d),(0,.arr true 3 i64 g)] 3
theorem AA(f:Nat)(v9:List Int)(d:Int)(a c:Nat)(b:Int)(h o1 g:List Int):stepT NJ (L2 f v9 d a c b h o1 g)=let e:=(length v9:Int);let k:=take (toNat d) o1;let j:=toNat<|zc .i64<|e-1;let i:=zc .i64 (b+e)-1;let l:=decide (0<=zc .i64 (e-1))&&decide (zc .i64 (e-1)<e);let m:=zc .i64<|b+e;let b':=zc .i64<|zc .i64 (getD o1 (toNat m) 0*1000000000)+getD o1 (toNat<|zc .i64 i) 0;let h':=decide (getD v9 j 0≠0);.di (b>=0) (.ck (decide (0<=zc .i64 (b+e))&&decide (zc .i64 (b+e)<(↑a:Int)))<|.cd (toNat m<length o1)<|.ck (decide (0<=zc .i64 i)&&decide (zc .i64 i<(↑a:Int)))<|.cd (toNat (zc .i64 i)<length o1)<|.ck l<|.ck h'<|.ck l<|.ck h'<|L3 f v9 d a c b h o1 g a v9 b e (zc .i64<|yu b'<|getD v9 j 0) (y9 b'<|getD v9 j 0) h o1 g) (.ck (decide (0<=d)&&true&&decide (0<=toNat d)&&decide (toNat d<=ym none a)&&decide (ym none a<=ym none a)&&true)<|.cd (0<(↑f:Int))<|.cd (0<length g)<|.ck (decide (0+toNat d<=length o1)&&true&&decide (length k<=20000))<|.ck (Lz (AE k)&&decide (0<getD g 0 0)&&decide (getD g 0 0<1000000000))<|.ck (decide (0+c<=length h)&&true&&decide (length (take c h)<=20000))<|.leaf (.tup [.dat (zk i64)<|AE<|take c h,.dat (zk i64)<|B0<|Ar (AE k)/getD g 0 0]) []):=by kernel_rfl
def L4(c:Nat)(v9:List Int)(g:Int)(a b:Nat)(e d h f:Int)(j o1 i:List Int):Tr:=re ((stepT NJ<|L3 0 [] 0 0 0 0 [] [] [] 0 [] 0 0 0 0 [] [] []).L.L.L)<|Ap 206 [(8,.sl 0 1 0 c none),(9,.dat (zk i64) v9),(10,.dat i64 g),(11,.sl 1 1 0 a none),(12,.sl 2 1 0 b none),(13,.dat i64 e),(14,.dat i64 d),(15,.dat i64 h),(16,.dat i64 f)] [(2,.arr false 3 i64 j),(1,.arr false 3 i64 o1),(0,.arr true 3 i64 i)] 3
theorem Bo(f:Nat)(v9:List Int)(k:Int)(a b:Nat)(j:Int)(m o1 p:List Int)(l:Nat)(v1:List Int)(v2 g:Int)(d:Int)(e:Int)(h:List Int)(c:List Int)(i:List Int):stepT NJ (L3 f v9 k a b j m o1 p l v1 v2 g d e h c i)=let b':=zc .i64 (v2+g)-2;let n:=e+getD v1 (toNat<|zc .i64<|g-1) 0;let q:=zc .i64<|d-1;let o:Tr:=.ck (decide (0<=zc .i64 (g-1))&&decide (zc .i64 (g-1)<(length v1:Int)))<|.di (zc .i64 n>=1000000000) (L4 f v9 k a b j q 0 0 h c i)<|L3 f v9 k a b j m o1 p l v1 v2 g q (zc .i64 n) h c i;.di (d>=1000000000) o (.ck (decide (0<=zc .i64 (g-2))&&decide (zc .i64 (g-2)<(length v1:Int)))<|.ck (decide (0<=zc .i64 b')&&decide (zc .i64 b'<(↑l:Int)))<|.cd (toNat (zc .i64 b')<length c)<|.di (zc .i64 (d*getD v1 (toNat<|zc .i64<|g-2) 0)>zc .i64 (zc .i64 (e*1000000000)+getD c (toNat<|zc .i64 b') 0)) o<|L4 f v9 k a b j d 0 0 h c i):=by kernel_rfl
def L5(c:Nat)(v9:List Int)(g:Int)(a b:Nat)(f e d v20:Int)(i o1 h:List Int):Tr:=re ((stepT NJ<|L4 0 [] 0 0 0 0 0 0 0 [] [] []).R.L.L.L.L.L.L.L)<|Ap 206 [(8,.sl 0 1 0 c none),(9,.dat (zk i64) v9),(10,.dat i64 g),(11,.sl 1 1 0 a none),(12,.sl 2 1 0 b none),(13,.dat i64 f),(14,.dat i64 e),(19,.dat i64 d),(20,.dat i64 v20)] [(2,.arr false 3 i64 i),(1,.arr false 3 i64 o1),(0,.arr true 3 i64 h)] 3
theorem BX(g:Nat)(v9:List Int)(e:Int)(b c:Nat)(a f h d:Int)(i o1 k:List Int):stepT NJ (L4 g v9 e b c a f h d i o1 k)=let n:=decide (0<=zc .i64 (d+a))&&decide (zc .i64 (d+a)<(↑b:Int));let o:=decide (0<=zc .i64 (a+e))&&decide (zc .i64 (a+e)<(↑b:Int));let r:=zc .i64<|zc .i64 (f*getD v9 (toNat d) 0)+h;let l:=zc .i64<|d+a;let j:=zc .i64<|a+e;let q:=zc .i64<|d+1;let m:=set o1 (toNat j)<|zc .i64<|getD o1 (toNat j) 0-h;let b':=getD o1 (toNat l) 0-y9 r 1000000000;let h':=decide (toNat l<length o1);let p:=decide (toNat j<length o1);let s:=yu r 1000000000;.di (d<e) (.ck (decide (0<=d)&&decide (d<(length v9:Int)))<|.ck n<|.ck h'<|.ck true<|.ck true<|.di (zc .i64 b'<0) (.ck n<|.ck h'<|L4 g v9 e b c a f (zc .i64<|zc .i64 s+1) q i (set o1 (toNat l)<|zc .i64<|zc .i64 b'+1000000000) k)<|.ck n<|.ck h'<|L4 g v9 e b c a f (zc .i64 s) q i (set o1 (toNat l)<|zc .i64 b') k) (.ck o<|.ck p<|.ck o<|.ck p<|.ck o<|.cd (toNat j<length m)<|.di (getD m (toNat j) 0<0) (L5 g v9 e b c a (zc .i64<|f-1) 0 0 i m k)<|.ck (decide (0<=a)&&decide (a<(↑c:Int)))<|.cd (toNat a<length i)<|L2 g v9 e b c (zc .i64<|a-1) (set i (toNat a) f) m k):=by kernel_rfl
theorem Dl(g:Nat)(v9:List Int)(c:Int)(b d:Nat)(a f e v20:Int)(h o1 k:List Int):stepT NJ (L5 g v9 c b d a f e v20 h o1 k)=let b':=decide (0<=zc .i64 (v20+a))&&decide (zc .i64 (v20+a)<(↑b:Int));let l:=decide (0<=zc .i64 (a+c))&&decide (zc .i64 (a+c)<(↑b:Int));let j:=zc .i64<|v20+a;let i:=zc .i64<|a+c;let o:=zc .i64<|zc .i64 (getD o1 (toNat j) 0+getD v9 (toNat v20) 0)+e;let n:=decide (toNat j<length o1);let m:=decide (toNat i<length o1);.di (v20<c) (.ck b'<|.ck n<|.ck (decide (0<=v20)&&decide (v20<(length v9:Int)))<|.ck true<|.ck b'<|.ck n<|.ck true<|L5 g v9 c b d a f (zc .i64<|yu o 1000000000) (zc .i64<|v20+1) h (set o1 (toNat j)<|y9 o 1000000000) k) (.ck l<|.ck m<|.ck l<|.ck m<|.ck (decide (0<=a)&&decide (a<(↑d:Int)))<|.cd (toNat a<length h)<|L2 g v9 c b d (zc .i64<|a-1) (set h (toNat a) f) (set o1 (toNat i)<|zc .i64<|getD o1 (toNat i) 0+e) k):=by kernel_rfl
end T147
namespace T141
def T(a b:List Int):Tr:=tree XG3 false 9 141<|Af ([zk i64,zk i64]) (a,b)
def L1(v0 v1:List Int):Tr:=re ((T [] []))<|Ap 19 [(0,.dat (zk i64) v0),(1,.dat (zk i64) v1)] [] 0
theorem Ai(a b:List Int):T a b=L1 a b:=by kernel_rfl
theorem Al(v0 v1:List Int):stepT XG3 (L1 v0 v1)=.di ((length v1:Int)>0) (.ck (Bh v0&&Bh v1&&decide (length v0<=9000)&&decide (length v1<=9000)&&decide (0<Ar v1))<|L1 v1<|B0<|Ar v0 % Ar v1) (.leaf (.dat (zk i64) v0) []):=by kernel_rfl
end T141
namespace T142
def T(s:Z):Tr:=tree mT false 9 142<|Af ([ya]) s
def L1(v0:Z)(v3 v4:Int):Tr:=re ((T []))<|Ap 20 [(0,.dat ya v0),(3,.dat i64 v3),(4,.dat i64 v4)] [] 0
theorem Ai(s:Z):T s=L1 s 0 0:=by kernel_rfl
theorem Al(v0:Z)(v3 v4:Int):stepT mT (L1 v0 v3 v4)=let a:=decide (v4<(length v0:Int));.ite a (.ck (decide (0<=v4)&&a)<|L1 v0 (zc .i64<|zc .i64 (zc .i64 (10*v3)+zc .i64 (↑(yq<|getD v0 (toNat v4) (0:UInt8)):Int))-48)<|zc .i64<|v4+1) (.leaf (.dat i64 v3) []):=by kernel_rfl
end T142
namespace T138
def T(s:Z):Tr:=tree mW false 9 138<|Af ([ya]) s
def L1(v0:Z)(v3:Bool):Tr:=re ((T []).L.L.L.L)<|Ap 40 [(0,.dat ya v0),(2,.ptr 0 0),(3,.dat yk v3),(4,.nil)] [(0,.box [.bl false,.nil])] 1
def L2(v0:Z):Tr:=re ((T []).R)<|Ap 40 [(0,.dat ya v0),(2,.ptr 0 0),(3,.bl false),(4,.nil)] [(0,.box [.bl false,.nil])] 1
theorem Ai(s:Z):T s=let a:=(↑(yq<|getD s 0 (0:UInt8)):Int)==45;.di ((length s:Int)>0) (.cd (0<(length s:Int))<|.ite a (.ck (decide (1<=length s)&&decide (length s<=length s))<|L1 (take (yy (length s) 1)<|drop 1 s) a)<|L1 s a) (L2 s):=by kernel_rfl
def L3(v0:Z)(v3:Bool)(a:Nat)(o1:List Int):Tr:=re ((stepT mW<|L1 [] false).L.L.L.L.L)<|Ap 40 [(0,.dat ya v0),(2,.ptr 0 0),(3,.dat yk v3),(4,.sl 1 1 0 a none)] [(1,.arr false 3 i64 o1),(0,.box [.bl false,.nil])] 2
theorem Al(v0:Z)(v3:Bool):stepT mW (L1 v0 v3)=let b':=aa 8;let b:=(length v0:Int);let a:=zc .i64<|b-9;let e:=decide (0<=zc .i64 (b-9));let c:=take (yy (length v0)<|toNat a)<|drop (toNat a) v0;let d:=decide (toNat a<=length v0);.di (b>9) (.ck (e&&true&&d&&decide (length v0<=length v0))<|.ck (Ew c)<|.ck b'<|.ck (e&&decide (0<=toNat a)&&d)<|L3 (take (toNat a) v0) v3 1<|[B5 c]) (.ck (Ew v0)<|.ck b'<|.ck (decide (0+1<=1)&&true&&decide (1<=20000))<|.leaf (y8 [.dat yk<|CY v3 [B5 v0],.dat (zk i64)<|AE [B5 v0]]) []):=by kernel_rfl
def L4(v0:Z)(a:Nat)(o1:List Int):Tr:=re ((stepT mW<|L2 []).L.L.L.L.L)<|Ap 40 [(0,.dat ya v0),(2,.ptr 0 0),(3,.bl false),(4,.sl 1 1 0 a none)] [(1,.arr false 3 i64 o1),(0,.box [.bl false,.nil])] 2
theorem AA(v0:Z):stepT mW (L2 v0)=let b':=aa 8;let b:=(length v0:Int);let a:=zc .i64<|b-9;let e:=decide (0<=zc .i64 (b-9));let c:=take (yy (length v0)<|toNat a)<|drop (toNat a) v0;let d:=decide (toNat a<=length v0);.di (b>9) (.ck (e&&true&&d&&decide (length v0<=length v0))<|.ck (Ew c)<|.ck b'<|.ck (e&&decide (0<=toNat a)&&d)<|L4 (take (toNat a) v0) 1<|[B5 c]) (.ck (Ew v0)<|.ck b'<|.ck (decide (0+1<=1)&&true&&decide (1<=20000))<|.leaf (y8 [.dat yk<|CY false [B5 v0],.dat (zk i64)<|AE [B5 v0]]) []):=by kernel_rfl
theorem Bo(v0:Z)(v3:Bool)(a:Nat)(o1:List Int):stepT mW (L3 v0 v3 a o1)=let b':=ac a (length o1) 8;let d:=take (zu a 1)<|o1++[B5 v0];let c:=(length v0:Int);let b:=zc .i64<|c-9;let f:=decide (0<=zc .i64 (c-9));let g:=take (yy (length v0)<|toNat b)<|drop (toNat b) v0;let e:=decide (toNat b<=length v0);.di (c>9) (.ck (f&&true&&e&&decide (length v0<=length v0))<|.ck (Ew g)<|.ck b'<|.ck (f&&decide (0<=toNat b)&&e)<|L3 (take (toNat b) v0) v3 (zu a 1)<|o1++[B5 g]) (.ck (Ew v0)<|.ck b'<|.ck (decide (0+zu a 1<=length (o1++[B5 v0]))&&true&&decide (length d<=20000))<|.leaf (y8 [.dat yk<|CY v3 d,.dat (zk i64)<|AE d]) []):=by kernel_rfl
theorem BX(v0:Z)(a:Nat)(o1:List Int):stepT mW (L4 v0 a o1)=let b':=ac a (length o1) 8;let d:=take (zu a 1)<|o1++[B5 v0];let c:=(length v0:Int);let b:=zc .i64<|c-9;let f:=decide (0<=zc .i64 (c-9));let g:=take (yy (length v0)<|toNat b)<|drop (toNat b) v0;let e:=decide (toNat b<=length v0);.di (c>9) (.ck (f&&true&&e&&decide (length v0<=length v0))<|.ck (Ew g)<|.ck b'<|.ck (f&&decide (0<=toNat b)&&e)<|L4 (take (toNat b) v0) (zu a 1)<|o1++[B5 g]) (.ck (Ew v0)<|.ck b'<|.ck (decide (0+zu a 1<=length (o1++[B5 v0]))&&true&&decide (length d<=20000))<|.leaf (y8 [.dat yk<|CY false d,.dat (zk i64)<|AE d]) []):=by kernel_rfl
end T138
namespace T68n
def T(n:Int):Tr:=tree XF0 false 9 68<|Af ([zt q9]) n
theorem Ai(n:Int):T n=.leaf (y8 [.dat i64 n,.nil]) []:=by kernel_rfl
end T68n
namespace T184
def T(a b:AL):Tr:=tree XF1 false 9 184<|Af ([A4,A4]) (a,b)
def L1(d:Bool)(c b:List Int)(e o1 f:Int)(a:List Int):Tr:=re ((T (0,[]) (0,[])).L.L.R.L.L.L)<|Ap 84 [(3,.ptr 0 0),(4,.ptr 1 0),(5,.ptr 2 0),(8,.dat yk d),(12,.dat (zk<|zt zi) c),(13,.dat (zk<|zt zi) b)] [(2,.box [.dat i64 e,.nil]),(1,.box [.dat i64 o1,.nil]),(0,.box [.dat i64 f,.dat wU a])] 3
theorem Ai(a b:AL):T a b=let b':=BI<|Aj<|zj a;let c:=BI<|Aj<|zj b;let e:=yu (fst a)<|fst b;let d:Tr:=.ck (je a)<|.ck (je b)<|.ck (VF b' c)<|L1 (decide (zj a<0)) (BI<|Ay b'/Ay c) (BI<|Ay b' % Ay c) 0 0 (fst b)<|snd b;.ite (!decide (0<length (snd a))) (.ite (!decide (0<length (snd b))) (.ite (fst a !=(-9223372036854775808)) (.cd (fst b≠0)<|.cd (fst b≠0)<|.di (y9 (fst a) (fst b)<0) (.leaf (.tup [y8 [.dat i64<|zc .i64<|zc .i64 e-1,.nil],y8 [.dat i64<|zc .i64<|y9 (fst a) (fst b)+fst b,.nil]]) [])<|.leaf (.tup [y8 [.dat i64<|zc .i64 e,.nil],y8 [.dat i64<|y9 (fst a)<|fst b,.nil]]) []) d) d) d:=by kernel_rfl
def L2(d:Int)(c:List Int)(g:Int)(b:List Int)(e o1 f:Int)(a:List Int):Tr:=re ((stepT XF1<|L1 false [] [] 0 0 0 []).L.L)<|Ap 84 [(3,.ptr 0 0),(4,.ptr 1 0),(5,.ptr 2 0),(14,.ptr 3 0),(15,.ptr 4 0)] [(4,.box [.dat i64 d,.dat wU c]),(3,.box [.dat i64 g,.dat wU b]),(2,.box [.dat i64 e,.nil]),(1,.box [.dat i64 o1,.nil]),(0,.box [.dat i64 f,.dat wU a])] 5
theorem Al(d:Bool)(b c:List Int)(e o1 g:Int)(a:List Int):stepT XF1 (L1 d b c e o1 g a)=let f:=qw d<|Ay c;let b':=qw d<|Ay b;.ck (CF b) (.ck (CF c)<|L2 (De f) (Dd f) (De b') (Dd b') e o1 g a):=by kernel_rfl
theorem AA(d:Int)(a:List Int)(e:Int)(b:List Int)(g o1 f:Int)(c:List Int):stepT XF1 (L2 d a e b g o1 f c)=.ck (je (d,a)) (.di (Jh (d,a)<0) (.ck true<|.ck (Bk (e,b)&&Bk (1,BA 1))<|.ck (Bk (d,a)&&Bk (f,c))<|.leaf (.tup [y8 [.dat i64<|cU (e,b) (1,BA 1),.dat wU<|iG (e,b) (1,BA 1)],y8 [.dat i64<|LA (d,a) (f,c),.dat wU<|Lh (d,a) (f,c)]]) [])<|.leaf (.tup [y8 [.dat i64 e,.dat wU b],y8 [.dat i64 d,.dat wU a]]) []):=by kernel_rfl
end T184
namespace T171
def T(a b:AL):Tr:=tree XF2 false 9 171<|Af ([A4,A4]) (a,b)
def L1(c o1:Int)(a:List Int)(d:Int)(b:List Int):Tr:=re ((T (0,[]) (0,[])).L.L)<|Ap 23 [(2,.ptr 0 0),(3,.ptr 1 0),(4,.ptr 2 0)] [(2,.box [.dat i64 c,.nil]),(1,.box [.dat i64 o1,.dat wU a]),(0,.box [.dat i64 d,.dat wU b])] 3
theorem Ai(a b:AL):T a b=.ck (je a) (.ck (je b)<|L1 0 (YG b) (XR b) (YG a)<|XR a):=by kernel_rfl
theorem Al(d o1:Int)(a:List Int)(c:Int)(b:List Int):stepT XF2 (L1 d o1 a c b)=.ck (je (o1,a)) (.ite (Jh (o1,a) !=0) (.ck (Bk (c,b)&&Bk (o1,a)&&decide (0<zj (o1,a)))<|L1 d (cK (c,b) (o1,a)) (iJ (c,b) (o1,a)) o1 a)<|.leaf (y8 [.dat i64 c,.dat wU b]) []):=by kernel_rfl
end T171
namespace T199
def T(a:AL)(k:Int):Tr:=tree XF3 false 9 199<|Af ([A4,zt q9]) (a,k)
def L1(v1 c:Int)(a:List Int)(o1 d:Int)(b:List Int):Tr:=re ((T (0,[]) 0).L)<|Ap 23 [(1,.dat i64 v1),(2,.ptr 0 0),(4,.ptr 1 0),(5,.ptr 2 0)] [(2,.box [.dat i64 c,.dat wU a]),(1,.box [.dat i64 o1,.nil]),(0,.box [.dat i64 d,.dat wU b])] 3
theorem Ai(a:AL)(k:Int):T a k=.ck true (L1 k 1 (BA 1) 0 (fst a)<|snd a):=by kernel_rfl
theorem Al(v1 d:Int)(b:List Int)(o1 c:Int)(a:List Int):stepT XF3 (L1 v1 d b o1 c a)=let e:=qm v1<|2^1;let b':=Bk (c,a)&&Bk (c,a);let g:=FT (d,b) (c,a);let i:=FV (d,b) (c,a);let h:=FT (c,a) (c,a);let f:=FV (c,a) (c,a);.di (v1>0) (.ite (IW q9 v1 1==1) (.ck (Bk (d,b)&&Bk (c,a))<|.di (v1>1) (.ck b'<|.ck true<|L1 e g i o1 h f)<|.ck true<|L1 e g i o1 c a)<|.di (v1>1) (.ck b'<|.ck true<|L1 e d b o1 h f)<|.ck true<|L1 e d b o1 c a) (.leaf (y8 [.dat i64 d,.dat wU b]) []):=by kernel_rfl
end T199
namespace T210
def T(a b:List Int):Tr:=tree Lc false 9 210<|Af ([zk<|zt zi,zk<|zt zi]) (a,b)
def L1(v0 v1:List Int)(a:Nat)(c b:Int)(d:List Int):Tr:=re ((T [] []).L.R.L.L)<|Ap 137 [(0,.dat (zk<|zt zi) v0),(1,.dat (zk<|zt zi) v1),(6,.sl 0 1 0 a none),(7,.dat (zt zi) c),(8,.dat i64 b)] [(0,.arr false 217 (zt zi) d)] 1
def L2(a b:List Int)(v1:Int)(d:Nat)(e:List Int)(c f:Int)(g:List Int):Tr:=re ((T a b).L.R.R.L.L.L)<|Ap 40 [(1,.dat i64 v1),(5,.sl 0 1 0 d none),(12,.dat (zk<|zt zi) e),(13,.dat i64 c),(14,.dat i64 f)] [(0,.arr false 217 (zt zi) g)] 1
theorem Ai(a b:List Int):T a b=let c:=(length b:Int);let b':=(length a:Int);let d:=zc .i64<|c+1;let e:=getD b (toNat<|zc .i64<|c-1) 0;.ck (CF a&&CF b) (.di (Cd (Ay a) (Ay b)<0) (.leaf (.tup [.nil,.dat (zk<|zt zi) a]) [])<|.ite (c==1) (.ck (decide (0<=b')&&decide (b'=b')&&decide (8*toNat b'<=281474976710656)&&decide (b'<9223372036854775808))<|L1 a b (toNat b') 0 (zc .i64<|b'-1)<|replicate (toNat b') 0)<|.ck (decide (0<=zc .i64 (c-1))&&decide (zc .i64 (c-1)<c))<|.ck (z6 e)<|.ck (decide (0<=zc .i64 (c+1))&&decide (zc .i64 (c+1)=zc .i64 (c+1))&&decide (8*toNat d<=281474976710656)&&decide (zc .i64 (c+1)<9223372036854775808))<|L2 a b (Sp.lz e) (toNat d) b c 0<|replicate (toNat d) 0):=by kernel_rfl
theorem Al(v0 v1:List Int)(a:Nat)(c b:Int)(d:List Int):stepT Lc (L1 v0 v1 a c b d)=let e:=getD v0 (toNat b) 0;let b':=zk<|zt zi;.di (b>=0) (.ck (decide (0<=b)&&decide (b<(length v0:Int)))<|.cd (0<(length v1:Int))<|.ck (z6 c&&z6 e&&z6 (getD v1 0 0)&&decide (c<getD v1 0 0))<|.ck (decide (0<=b)&&decide (b<(↑a:Int)))<|.cd (toNat b<length d)<|L1 v0 v1 a (Sp.dr c e<|getD v1 0 0) (zc .i64<|b-1)<|set d (toNat b)<|Sp.dq c e<|getD v1 0 0) (.ck (decide (0+a<=length d)&&true&&Dg (take a d))<|.ck (decide (1<=1)&&true&&Dg [c])<|.leaf (.tup [.dat b'<|AE<|take a d,.dat b'<|AE [c]]) []):=by kernel_rfl
def L3(a b:List Int)(v1:Int)(k:Nat)(g:List Int)(j h:Int)(m:List Int)(l:Int)(e:Nat)(c:List Int)(f:Int)(d:Int)(o1:List Int)(i:List Int):Tr:=re ((stepT Lc<|L2 a b v1 k g j h m).R.L.L)<|Ap 40 [(1,.dat i64 l),(5,.sl 1 1 0 e none),(12,.dat (zk<|zt zi) c),(13,.dat i64 f),(14,.dat i64 d)] [(1,.arr false 217 (zt zi) o1),(0,.arr true 217 (zt zi) i)] 2
theorem AA(a b:List Int)(v1:Int)(d:Nat)(e:List Int)(f c:Int)(g:List Int):stepT Lc (L2 a b v1 d e f c g)=let i:=set g (toNat c)<|kN zi (getD g (toNat c) 0)<|zc .u64<|getD e (toNat c) 0*2^qj (toNat v1) 64;let b':=(length a:Int)+1;let h:=zc .i64<|c+1;let l:=decide (0<=c)&&decide (c<(↑d:Int));let k:=decide (toNat c<length g);let j:=zc .i64 b';.di (c<f) (.ck (decide (0<=c)&&decide (c<(length e:Int)))<|.ck l<|.ck k<|.cd (0<=v1)<|.ck l<|.ck k<|.di (v1>0) (.cd (0<=zc .i64 (64-v1))<|.ck (decide (0<=zc .i64 (c+1))&&decide (zc .i64 (c+1)<(↑d:Int)))<|.cd (toNat h<length i)<|L2 a b v1 d e f h<|set i (toNat h)<|qm (getD e (toNat c) 0)<|2^qj (toNat<|zc .i64<|64-v1) 64)<|L2 a b v1 d e f h i) (.ck (decide (0+d<=length g)&&true&&Dg (take d g))<|.ck (decide (0<=zc .i64 b')&&decide (zc .i64 b'=zc .i64 b')&&decide (8*toNat j<=281474976710656)&&decide (zc .i64 b'<9223372036854775808))<|L3 a b v1 d e f c g (Sp.lz<|getD b (toNat<|zc .i64<|(length b:Int)-1) 0) (toNat j) a ((length a:Int)) 0 (replicate (toNat j) 0) g):=by kernel_rfl
def L4(v9:Int)(c:List Int)(b:Nat)(d:Int)(a:Nat)(e:Int)(o1 f:List Int):Tr:=re ((stepT Lc<|L3 [] [] 0 0 [] 0 0 [] 0 0 [] 0 0 [] []).R.L)<|Ap 137 [(9,.dat i64 v9),(10,.dat (zk<|zt zi) c),(11,.sl 0 1 0 b none),(12,.dat i64 d),(13,.sl 1 1 0 a none),(14,.dat i64 e)] [(1,.arr false 217 (zt zi) o1),(0,.arr false 217 (zt zi) f)] 2
theorem Bo(a b:List Int)(v1:Int)(h:Nat)(i:List Int)(l j:Int)(o:List Int)(f:Int)(d:Nat)(e:List Int)(g:Int)(c:Int)(o1:List Int)(k:List Int):stepT Lc (L3 a b v1 h i l j o f d e g c o1 k)=let b':=set o1 (toNat c)<|kN zi (getD o1 (toNat c) 0)<|zc .u64<|getD e (toNat c) 0*2^qj (toNat f) 64;let n:=zc .i64<|c+1;let r:=decide (0<=c)&&decide (c<(↑d:Int));let s:=decide (toNat c<length o1);let h':=AE<|take h o;let p:=(↑(length h'):Int);let m:=zc .i64 ((length a:Int)-p)+1;let q:=zc .i64 m;.di (c<g) (.ck (decide (0<=c)&&decide (c<(↑(length e):Int)))<|.ck r<|.ck s<|.cd (0<=f)<|.ck r<|.ck s<|.di (f>0) (.cd (0<=zc .i64 (64-f))<|.ck (decide (0<=zc .i64 (c+1))&&decide (zc .i64 (c+1)<(↑d:Int)))<|.cd (toNat n<length b')<|L3 a b v1 h i l j o f d e g n (set b' (toNat n)<|qm (getD e (toNat c) 0)<|2^qj (toNat<|zc .i64<|64-f) 64) k)<|L3 a b v1 h i l j o f d e g n b' k) (.ck (decide (0<=zc .i64 m)&&decide (zc .i64 m=zc .i64 m)&&decide (8*toNat q<=281474976710656)&&decide (zc .i64 m<9223372036854775808))<|L4 (Sp.lz<|getD b (toNat<|zc .i64<|(length b:Int)-1) 0) h' d p (toNat q) (zc .i64<|(length a:Int)-p) (replicate (toNat q) 0) o1):=by kernel_rfl
def L5(v9:Int)(i:List Int)(b:Nat)(d:Int)(a:Nat)(e:Int)(o1 m:List Int)(g f j:Nat)(v1:List Int)(v5 k l n:Int)(c:List Int)(h:List Int):Tr:=re ((stepT Lc<|L4 v9 i b d a e o1 m).L.L.L.L.L.L.L.L.L.L)<|Ap 186 [(0,.sl 0 1 g f<|Option.some j),(1,.dat (zk<|zt zi) v1),(5,.dat i64 v5),(6,.dat (zt zi) k),(7,.dat (zt zi) l),(8,.dat (zt zi) n)] [(1,.arr false 217 (zt zi) c),(0,.arr false 217 (zt zi) h)] 2
def L6(v9:Int)(b:Nat)(d:Int)(a:Nat)(e c:Int)(o1 f:List Int):Tr:=re ((stepT Lc<|L4 0 [] 0 0 0 0 [] []).R)<|Ap 137 [(9,.dat i64 v9),(11,.sl 0 1 0 b none),(12,.dat i64 d),(13,.sl 1 1 0 a none),(96,.dat i64 e),(97,.dat i64 c)] [(1,.arr false 217 (zt zi) o1),(0,.arr false 217 (zt zi) f)] 2
theorem BX(v9:Int)(c:List Int)(a:Nat)(e:Int)(d:Nat)(b:Int)(o1 f:List Int):stepT Lc (L4 v9 c a e d b o1 f)=let g:=(length c:Int);let i:=zu 0<|toNat b;let p:=yy (ym none a)<|toNat b;let p':=zc .i64 (b+e)+1;let k:=toNat<|zc .i64<|g-1;let n:=zc .i64 p';let h':=zu (toNat g) i;let l':=decide (zu (toNat g) i<length f);let n':=decide (0<=zc .i64 (g-1));let b':=yy (toNat n)<|toNat b;let m:=n'&&decide (zc .i64 (g-1)<g);let j:=getD f (zu k i) 0;let h:=getD c k 0;let o':=decide (zu k i<length f);let l:=getD f h' 0;let o:=n'&&decide (zc .i64 (g-1)<(↑b':Int));let q:=decide (0<=g)&&decide (g<(↑b':Int));.di (b>=0) (.ck (decide (0<=b)&&decide (0<=zc .i64 p')&&true&&decide (toNat b<=toNat n)&&decide (toNat n<=ym none a)&&decide (ym none a<=ym none a)&&true)<|.ck q<|.ck l'<|.ck m<|.di (getD f h' 0>=getD c k 0) (.ck o<|.ck o'<|.ck m<|.ck (z6 j&&z6 h&&decide ((0:jg (BF [u64]))<=0)&&decide (0<=(1:jg (BF [u64]))))<|L5 v9 c a e d b o1 f i b' p c g 18446744073709551615 (Jj j h 0) (Rj j h 0) o1 f)<|.ck q<|.ck l'<|.ck o<|.ck o'<|.ck m<|.ck (z6 l&&z6 j&&z6 h&&decide (getD f h' 0<getD c k 0))<|L5 v9 c a e d b o1 f i b' p c g (Sp.dq l j h) (Sp.dr l j h) 0 o1 f) (L6 v9 a e d e 0 o1 f):=by kernel_rfl
def L7(v9:Int)(n:List Int)(a:Nat)(f:Int)(b:Nat)(g:Int)(o1 p:List Int)(h m j:Nat)(v1:List Int)(v5 o i:Int)(d:Int)(c e:Int)(k:List Int)(l:List Int):Tr:=re ((stepT Lc<|L5 v9 n a f b g o1 p 0 0 0 [] 0 0 0 0 [] []).L.L.L.L)<|Ap 186 [(0,.sl 0 1 h m<|Option.some j),(1,.dat (zk<|zt zi) v1),(5,.dat i64 v5),(6,.dat (zt zi) o),(11,.dat (zt zi) i),(12,.dat (zt zi) d),(104,.dat i64 c),(105,.dat i64 e)] [(1,.arr false 217 (zt zi) k),(0,.arr false 217 (zt zi) l)] 2
theorem Dl(v9:Int)(k:List Int)(b:Nat)(f:Int)(c:Nat)(g:Int)(o1 o:List Int)(a e i:Nat)(v1:List Int)(v5 h l s:Int)(j:List Int)(d:List Int):stepT Lc (L5 v9 k b f c g o1 o a e i v1 v5 h l s j d)=let b':=toNat<|zc .i64<|v5-2;let n:=L7 v9 k b f c g o1 o a e i v1 v5 h 0 0 v5 0 j d;let p:=getD v1 (toNat<|zc .i64<|v5-1) 0;let q:=decide (0<=zc .i64 (v5-2));let r:Tr:=.ck (decide (0<=zc .i64 (v5-1))&&decide (zc .i64 (v5-1)<(length v1:Int)))<|.ck (z6 l&&z6 p&&decide ((0:jg (BF [u64]))<=0)&&decide (0<=(1:jg (BF [u64]))))<|L5 v9 k b f c g o1 o a e i v1 v5 (zc .u64<|h-1) (Jj l p 0) (Rj l p 0) j d;let m:=getD v1 b' 0;.ite (s==0) (.ck (q&&decide (zc .i64 (v5-2)<(length v1:Int)))<|.ck (z6 h&&z6 m)<|.di (Tj h m<l) n<|.ite (Tj h m==l) (.ck (q&&decide (zc .i64 (v5-2)<(↑e:Int)))<|.cd (zu b' a<length d)<|.di (Jq h m<=getD d (zu b' a) 0) n r) r) n:=by kernel_rfl
theorem CL(v9:Int)(b:Nat)(d:Int)(c:Nat)(e a:Int)(o1 f:List Int):stepT Lc (L6 v9 b d c e a o1 f)=let g:=set f (toNat a)<|qm (getD f (toNat a) 0)<|2^qj (toNat v9) 64;let b':=decide (0<=a)&&decide (a<(↑b:Int));let h:=zc .i64<|a+1;let l:=decide (zc .i64 (a+1)<(↑b:Int));let j:=decide (toNat a<length f);let h':=zk<|zt zi;let k:=L6 v9 b d c e h o1 g;let i:=decide (toNat a<length g);.di (a<e) (.ck b'<|.ck j<|.cd (0<=v9)<|.ck b'<|.ck j<|.di (v9>0) (.ite l (.ck b'<|.ck i<|.ck (decide (0<=zc .i64 (a+1))&&l)<|.cd (toNat h<length g)<|.cd (0<=zc .i64 (64-v9))<|.ck b'<|.ck i<|L6 v9 b d c e h o1<|set g (toNat a)<|kN zi (getD g (toNat a) 0)<|zc .u64<|getD g (toNat h) 0*2^qj (toNat<|zc .i64<|64-v9) 64) k) k) (.ck (decide (0<=d)&&true&&decide (0<=toNat d)&&decide (toNat d<=ym none b)&&decide (ym none b<=ym none b)&&true)<|.ck (decide (0+c<=length o1)&&true&&Dg (take c o1))<|.ck (decide (0+toNat d<=length f)&&true&&Dg (take (toNat d) f))<|.leaf (.tup [.dat h'<|AE<|take c o1,.dat h'<|AE<|take (toNat d) f]) []):=by kernel_rfl
def L8(v9:Int)(m:List Int)(b:Nat)(e:Int)(c:Nat)(f:Int)(o1 o:List Int)(h l i:Nat)(v1:List Int)(v5 n g a d:Int)(j:List Int)(k:List Int):Tr:=re ((stepT Lc<|L7 v9 m b e c f o1 o 0 0 0 [] 0 0 0 0 0 0 [] []).R.L.L.L.L.L.R)<|Ap 186 [(0,.sl 0 1 h l<|Option.some i),(1,.dat (zk<|zt zi) v1),(5,.dat i64 v5),(6,.dat (zt zi) n),(17,.dat (zt zi) g),(156,.dat i64 a),(157,.dat i64 d)] [(1,.arr false 217 (zt zi) j),(0,.arr false 217 (zt zi) k)] 2
theorem C6(v9:Int)(m:List Int)(h:Nat)(l:Int)(e:Nat)(d:Int)(o1 s:List Int)(f j o:Nat)(v1:List Int)(v5 n c:Int)(b:Int)(k a:Int)(i:List Int)(g:List Int):stepT Lc (L7 v9 m h l e d o1 s f j o v1 v5 n c b k a i g)=let b':=zu (toNat v5) f;let v:=getD v1 (toNat a) 0;let z:=decide (zu (toNat a) f<length g);let x:=decide (zu (toNat v5) f<length g);let h':=decide (0<=a)&&decide (a<(↑j:Int));let r:=(0:jg (BF [u64]));let u:=(1:jg (BF [u64]));let w:=decide (0<=v5)&&decide (v5<(↑j:Int));let n':=zu (toNat a) f;let p:=Jq n v;let q:=getD g n' 0;let t:=getD g b' 0;let y:=set g b'<|Wz t b c;let l':=Jj p b 0;.di (a<k) (.ck (decide (0<=a)&&decide (a<(length v1:Int)))<|.ck (z6 n&&z6 v)<|.ck (z6 p&&z6 b&&decide (r<=0)&&decide (0<=u))<|.ck h'<|.ck z<|.ck (z6 q&&z6 l'&&decide (r<=c)&&decide (c<=u))<|.ck h'<|.ck z<|L7 v9 m h l e d o1 s f j o v1 v5 n (SS q l' c) (zc .u64<|Tj n v+Rj p b 0) k (zc .i64<|a+1) i<|set g n'<|Wz q l' c) (.ck w<|.ck x<|.ck (z6 t&&z6 b&&decide (r<=c)&&decide (c<=u))<|.ck w<|.ck x<|.ite (SS t b c==0) (.ck (decide (0<=d)&&decide (d<(↑e:Int)))<|.cd (toNat d<length i)<|L4 v9 m h l e (zc .i64<|d-1) (set i (toNat d) n) y)<|L8 v9 m h l e d o1 s f j o v1 v5 n 0 v5 0 i y):=by kernel_rfl
theorem DM(v9:Int)(l:List Int)(h:Nat)(k:Int)(d:Nat)(b:Int)(o1 s:List Int)(f j m:Nat)(v1:List Int)(v5 n e g a:Int)(i:List Int)(c:List Int):stepT Lc (L8 v9 l h k d b o1 s f j m v1 v5 n e g a i c)=let b':=decide (zu (toNat a) f<length c);let o:=getD v1 (toNat a) 0;let u:=decide (zu (toNat v5) f<length c);let t:=decide (0<=a)&&decide (a<(↑j:Int));let r:=decide (0<=v5)&&decide (v5<(↑j:Int));let q:=zu (toNat a) f;let h':=zu (toNat v5) f;let p:=getD c q 0;.di (a<g) (.ck t<|.ck b'<|.ck (decide (0<=a)&&decide (a<(length v1:Int)))<|.ck (z6 p&&z6 o&&decide ((0:jg (BF [u64]))<=e)&&decide (e<=(1:jg (BF [u64]))))<|.ck t<|.ck b'<|L8 v9 l h k d b o1 s f j m v1 v5 n (Rj p o e) g (zc .i64<|a+1) i<|set c q<|Jj p o e) (.ck r<|.ck u<|.ck r<|.ck u<|.ck (decide (0<=b)&&decide (b<(↑d:Int)))<|.cd (toNat b<length i)<|L4 v9 l h k d (zc .i64<|b-1) (set i (toNat b)<|zc .u64<|n-1)<|set c h'<|zc .u64<|getD c h' 0+e):=by kernel_rfl
end T210
end
namespace T210
theorem dqr{r x d:Int}(a:0<d)(hr:0<=r/\r<d)(b:0<=x/\x<18446744073709551616):Sp.dq r x d*d+Sp.dr r x d=r*18446744073709551616+x/\0<=Sp.dq r x d/\Sp.dq r x d<18446744073709551616/\0<=Sp.dr r x d/\Sp.dr r x d<d:=by
 unfold Sp.dq Sp.dr;have h:=yd (r*18446744073709551616+x) d;rw[zn]at h;refine⟨h,qi ae ae,qe a ae,yv _ ae,yr _ a⟩
theorem As(a:List Int)(d:Int)(g:AD Av a)(f:0<d/\d<18446744073709551616)(m:a.length<=20000)(h:∀q r ob,AD Av q->(0<=r/\r<d)->Ay a=Ay q*d+r->Q (.tup [.dat DQ<|AE q,.dat DQ<|AE [r]]) ob):∀(i:Nat) (q:List Int) (r:Int),i+q.length=a.length->AD Av q->(0<=r/\r<d)->ze Av (a.drop i)=ze Av q*d+r->
  Ends Lc (L1 a [d] a.length r ((i:Int)-1)<|zo i 0++q) Q
 |0,q,r,s,b,hr,e=>by
  have o:((zo 0 0++q).take a.length)=q:=by
   rw[List.replicate_zero,List.nil_append];exact z8 ae
  refine yf (Al ..) (qk (by simp) ?_);rw[o];refine zd (Ab (by simp;omega)<|E0 ae b) (zd (Ab rfl (E0 (by simp)<|fun x c=>by rw[List.mem_singleton]at c;subst c;exact⟨hr.1,by show x<18446744073709551616;omega⟩))<|yz<|h q r _ b hr e)
 |i+1,q,r,s,b,hr,e=>by
  have p:(((i+1:Nat):Int)-1)=(i:Int):=ae
  have j:=A3 g i;obtain⟨v,n,t,l,k⟩:=dqr f.1 hr<|qc j;have u:a.drop i=a.getD i 0::a.drop (i+1):=by
   rw[zy,yo ae];exact qt ae
  have es:∀x,(zo (i+1) (0:Int)++q).set i x=zo i 0++(x::q):=by
   intro x;rw[List.replicate_succ',yg];exact E7 _ _ _ _ (by simp)
  rw[p];refine yf (Al ..) (zd (by simp) ?_);rw[zf,es,wr ((i:Int)-1) ae ae];refine zd (by simp;omega) (zd (by simp) (zd ?_ (zd (by simp;omega)<|zd (by simp;omega) ?_)))
  ·exact Ab (Ab (Ab (C9 hr.1 ae) j)<|C9 (by show 0<=d;omega) f.2)<|w4 hr.2
  ·refine As a d g f m h i _ _ (by simp;omega) (fun x c=>?_) ⟨l,k⟩ ?_
   ·rcases List.mem_cons.1 c with rfl|c
    ·exact⟨n,t⟩
    ·exact b x c
   ·rw[u];show a.getD i 0+(18446744073709551616:Int)*ze Av (a.drop<|i+1)=(Sp.dq r (a.getD i 0) d+(18446744073709551616:Int)*ze Av q)*d+Sp.dr r (a.getD i 0) d;rw[e,yb,zr,zl];omega
end T210
end Go.Pe
namespace Go.Sp
theorem YK{B P u0 u1 u2 a v1 v2 v' q r:Int}(i:0<P)(b:0<=v')(l:a<P)(f:0<=q)(c:q*v1+r=u0*B+u1)(h:r*B+u2<q*v2):
  ((u0*B+u1)*B+u2)*P+a<q*((v1*B+v2)*P+v'):=by
 have e:q*(v1*B+v2)=q*v1*B+q*v2:=by rw[zr,zl]
 have j:(u0*B+u1)*B=q*v1*B+r*B:=by rw[<-c,yb]
 have g:(u0*B+u1)*B+u2+1<=q*(v1*B+v2):=by rw[e,j];omega
 have d:=zh g<|zp i;have k:0<=q*v':=yc f b;rw[zr q, <-zl];rw[yb,z7]at d;omega
theorem WR{B P u0 u1 u2 c v1 v2 v' q r:Int}(b:0<P)(f:0<=v'/\v'<P)(o:0<=c)(d:0<=q/\q<B)(a:1<=v1)(l:0<=v2)(j:q*v1+r=u0*B+u1)(h:q*v2<=r*B+u2):
  q*((v1*B+v2)*P+v')<((u0*B+u1)*B+u2)*P+c+((v1*B+v2)*P+v'):=by
 have e:q*(v1*B+v2)=q*v1*B+q*v2:=by rw[zr,zl]
 have m:(u0*B+u1)*B=q*v1*B+r*B:=by rw[<-j,yb]
 have g:q*(v1*B+v2)<=(u0*B+u1)*B+u2:=by rw[e,m];omega
 have p:=zh g<|zp b;have k:q*v'<=(B-1)*P:=Int.le_trans (zm (zp f.2) d.1) (zh ae<|zp b);have i:B<=v1*B+v2:=by
  have:=zh a (show 0<=B by omega);omega
 have n:=zh i<|zp b;rw[qu,z7]at k;rw[zr q, <-zl];omega
theorem IU(b:Int):∀(l:List Int) (i:Nat) (x:Int),i<l.length->val b (l.set i x)=val b l+b^i*(x-l.getD i 0)
 |[],i,x,h=>by simp at h
 |d::l,0,x,_=>by
  show x+b*val b l=d+b*val b l+b^0*(x-d);rw[yh,z7];omega
 |d::l,i+1,x,h=>by
  have:=IU b l i x (by simpa using h);show d+b*val b (l.set i x)=d+b*val b l+b^(i+1)*(x-l.getD i 0);rw[this,zr,zq,zn (b^i) b,zl,qf]
theorem Ic{b:Int}{l:List Int}(h:AD b l)(i:Nat){x:Int}(c:0<=x/\x<b):AD b (l.set i x):=by
 intro d a;rcases List.mem_or_eq_of_mem_set a with a|rfl
 ·exact h d a
 ·exact c
theorem Hs{b:Int}{l r:List Int}(c:AD b l)(e:AD b r):AD b (l++r):=by
 intro d a;rcases qz.1 a with a|a
 ·exact c d a
 ·exact e d a
theorem LF{b:Int}(c:0<b){l:List Int}(h:AD b l)(i:Nat):0<=l.getD i 0/\l.getD i 0<b:=by
 rcases Nat.lt_or_ge i l.length with a|a
 ·have:l.getD i 0∈l:=by rw[zy,yo a];exact List.getElem_mem a
  exact h _ this
 ·rw[zy,List.getElem?_eq_none a];exact⟨qv _,c⟩
theorem CI{l:List Int}{i:Nat}(h:i<l.length):l.drop i=l.getD i 0::l.drop (i+1):=by
 rw[zy,yo h];exact qt h
theorem Nd(p r:List Int)(i j:Nat)(h:p.length=j):(p++r).getD (i+j) 0=r.getD i 0:=by
 subst h;rw[zy,zy,List.getElem?_append_right ae,qn]
theorem AaE(p r:List Int)(i j:Nat)(x:Int)(h:p.length=j):(p++r).set (i+j) x=p++r.set i x:=by
 subst h;rw[List.set_append_right _ _ ae,qn]
theorem AaU(b:Int)(r:List Int)(k:Nat)(c:k+3<=r.length)(a:val b (r.drop<|k+3)=0):
  val b r=((r.getD (k+2) 0*b+r.getD (k+1) 0)*b+r.getD k 0)*b^k+val b (r.take k):=by
 have p1:b^(k+1)=b^k*b:=zq ..;have p2:b^(k+2)=b^k*b*b:=by rw[<-p1];exact zq ..
 rw[CG b r (k+3) c,a,AN,AN,AN,p1,p2,y7,ql];generalize b^k=P;generalize r.getD (k+2) 0=x;generalize r.getD (k+1) 0=y;generalize r.getD k 0=z;have f:P*b*b*x=x*b*b*P:=by rw[zn (P*b*b) x,zn P b,zl b P b,zn P b, <-zl, <-zl]
 have g:P*b*y=y*b*P:=by rw[zn (P*b) y,zn P b,zl]
 have e:P*z=z*P:=zn _ _;have d:((x*b+y)*b+z)*P=x*b*b*P+y*b*P+z*P:=by rw[yb,yb,yb]
 rw[d];omega
theorem AbB(b:Int)(v:List Int)(k:Nat)(d:v.length=k+2):
  val b v=(v.getD (k+1) 0*b+v.getD k 0)*b^k+val b (v.take k):=by
 have h0:val b (v.drop<|k+2)=0:=by rw[List.drop_eq_nil_of_le ae];rfl
 have p1:b^(k+1)=b^k*b:=zq ..;rw[CG b v (k+2) ae,h0,AN,AN,p1,y7,ql];generalize b^k=P;generalize v.getD (k+1) 0=y;generalize v.getD k 0=z;have c:P*b*y=y*b*P:=by rw[zn (P*b) y,zn P b,zl]
 have a:P*z=z*P:=zn _ _;rw[c,a,yb];omega
theorem vE{b:Int}(f:2<=b){v:List Int}(c:AD b v)(d:nz v){k:Nat}(e:b^k<=val b v)(g:val b v<b^(k+1)):v.length=k+1:=by
 have hp:=Bn (show 0<b by omega) k;have a:v≠[]:=by rintro rfl;simp[val]at e;omega
 have a1:=BD ae c;have a2:=DP ae c d a;rcases Nat.lt_trichotomy v.length (k+1)with h|h|h
 ·have:=AY (show 1<=b by omega) (show v.length<=k by omega);omega
 ·exact h
 ·have:=AY (show 1<=b by omega) (show k+1<=v.length-1 by omega);omega
theorem Kq{b:Int}(e:2<=b){r:List Int}(a:AD b r){n:Nat}(c:n<=r.length)(h:val b r<b^n):val b (r.drop n)=0:=by
 have h0:=AJ (show 0<=b by omega)<|Fy a n;have d:=AJ (show 0<=b by omega)<|AW a n;rw[CG b r n c]at h;have hp:=Bn (show 0<b by omega) n;rcases yt 0 (val b<|r.drop n)with g|g
 ·have:=zm (show 1<=val b (r.drop n)by omega) (show 0<=b^n by omega);omega
 ·omega
theorem TQ{b:Int}(d:2<=b){r:List Int}(c:AD b r){n:Nat}(a:n<=r.length)(h:val b (r.drop n)=0):val b r<b^n:=by
 have:=BD (show 0<b by omega)<|AW c n;rw[yp,qd a]at this;rw[CG b r n a,h];omega
theorem yG{b c d x y X:Int}(l:0<c)(g:b=c*d):(x+b*(y+b*X))/c=(x/c+(y % c)*d)+b*((y+b*X)/c):=by
 subst g;have e:(x+c*d*(y+c*d*X))/c=x/c+d*(y+c*d*X):=by
  rw[zl c d,Int.add_mul_ediv_left _ _ ae]
 have i:(y+c*d*X)/c=y/c+d*X:=by
  rw[zl c d,Int.add_mul_ediv_left _ _ ae]
 have f:=yd y c;rw[e,i];have h:d*(y+c*d*X)=d*(c*(y/c)+y % c+c*d*X):=by rw[f]
 rw[h,zr,zr,zr<|c*d];have j:d*(c*(y/c))=c*d*(y/c):=by rw[<-zl,zn d c]
 have a:d*(y % c)=(y % c)*d:=zn _ _;have k:d*(c*d*X)=c*d*(d*X):=by rw[<-zl,zn d<|c*d,zl]
 rw[j,a,k];omega
theorem Yi{b c d x k:Int}(m:0<c)(f:0<d)(h:b=c*d)(j:0<=k/\k<c)(a:0<=x/\x<b):
  (x*c) % b=(x % d)*c/\(x % d)*c+k<b/\0<=(x % d)*c/\0<=x/d/\x/d<c/\(x % d)*c+b*(x/d)=x*c:=by
 subst h;have g:=yd x d;have i:=yv x (show d≠0 by omega);have l:=yr x f;have q0:0<=x/d:=qi a.1 ae;have q1:x/d<c:=qe f (by have:=a.2;omega);have p0:0<=(x % d)*c:=yc i ae;have p1:(x % d)*c<=(d-1)*c:=zh ae ae;have p2:(d-1)*c=c*d-c:=by rw[qu,z7,zn]
 have e:(x % d)*c+c*d*(x/d)=x*c:=by
  conv=>rhs;rw[<-g]
  rw[yb,zl c d,zn c<|d*(x/d)];omega
 refine⟨?_,by omega,p0,q0,q1,e⟩;rw[<-e,Int.add_mul_emod_self_left];exact Int.emod_eq_of_lt p0 ae
theorem O1{B P u0 u1 u2 b v1 v2 v' q r:Int}(c:0<P)(l:0<B)(o:0<=q)(d:0<=v')(a:0<=v2)(s:b<P)(i:u2<B)(p:q*v1+r=u0*B+u1)(h:r<v1):
  ((u0*B+u1)*B+u2)*P+b<(q+1)*((v1*B+v2)*P+v'):=by
 have f:u0*B+u1+1<=(q+1)*v1:=by rw[yb,z7];omega
 have k:=zh f<|zp l;have j:(u0*B+u1)*B+u2+1<=(q+1)*v1*B:=by
  rw[yb,z7]at k;omega
 have g:=zh j<|zp c;rw[yb,z7]at g;have m:0<=(q+1)*(v2*P):=yc ae<|yc a<|zp c;have n:0<=(q+1)*v':=yc ae d;have e:(q+1)*((v1*B+v2)*P+v')=(q+1)*v1*B*P+(q+1)*(v2*P)+(q+1)*v':=by
  rw[yb<|v1*B,zr,zr];congr 2;rw[zl,zl,zl]
 rw[e];omega
end Go.Sp
namespace Go.Pe
open Sp
open Go.Det
theorem XS{q x y c b:Int}(d:z6 q=true)(e:z6 x=true)(j:z6 y=true)(f:z6 c=true)(i:0<=b/\b<=1):
  z6 (Jq q x)=true/\z6 (Jj (Jq q x) c 0)=true/\zc .u64 (Tj q x+Rj (Jq q x) c 0)=(q*x+c)/18446744073709551616/\z6 ((q*x+c)/18446744073709551616)=true/\
  z6 (Wz y (Jj (Jq q x) c 0) b)=true/\(0<=SS y (Jj (Jq q x) c 0) b/\SS y (Jj (Jq q x) c 0) b<=1)/\
  c+b+(Wz y (Jj (Jq q x) c 0) b-y)=18446744073709551616*((q*x+c)/18446744073709551616+SS y (Jj (Jq q x) c 0) b)-q*x:=by
 have d:=qc d;have e:=qc e;have f:=qc f;have h0:0<=q*x:=yc d.1 e.1;have k:q*x<=18446744073709551615*18446744073709551615:=by
  have a:=zm (show x<=18446744073709551615 by omega) d.1;have b:=zh (show q<=18446744073709551615 by omega) (show(0:Int)<=18446744073709551615 by omega);omega
 have g:z6 (Jj (Jq q x) c 0)=true:=by unfold Jj;exact C9 ae ae
 obtain⟨s1,s2,s3⟩:=Sp.H5 j g i;refine⟨?_,g,?_,?_,s1,s2,?_⟩
 ·unfold Jq;exact C9 ae ae
 ·unfold Jq Tj Rj;rw[NC];generalize q*x=P at*;omega
 ·generalize q*x=P at*;exact C9 ae ae
 ·generalize SS y (Jj (Jq q x) c 0) b=h at*;generalize Wz y (Jj (Jq q x) c 0) b=l at*;unfold Jj Jq at s3;generalize q*x=P at*;omega
namespace T210
theorem gw{lo r:List Int}{j:Nat}(h:lo.length=j)(i:Nat):(lo++r).getD (zu i j) 0=r.getD i 0:=Nd lo r i j h
theorem sw{lo r:List Int}{j:Nat}(h:lo.length=j)(i:Nat)(x:Int):(lo++r).set (zu i j) x=lo++r.set i x:=AaE lo r i j x h
theorem lw{lo r:List Int}{j i:Nat}(h:lo.length=j)(a:i<r.length):decide (zu i j<(lo++r).length)=true:=by
 refine w4 ?_;show i+j<_;rw[List.length_append];omega
theorem KZ(r:List Int)(i n:Nat)(x:Int)(h:i<n):(r.set i x).drop n=r.drop n:=by
 rw[List.drop_set,wd h]
theorem CO(v9:Int)(o:List Int)(f:Nat)(l:Int)(a:Nat)(o1 J:List Int)(p:Nat)(v:List Int)(n j:Nat)(lo:List Int)(m:Nat)(q W:Int)(g:List Int)
  (S:v.length=n) (I:n<=9000) (Z:n+1<=m) (d:lo.length=j) (C:j<a) (w:j<g.length) (L:AD Av v) (G:z6 q=true)
  (h0:∀r:List Int,r.length=m->AD Av r->ze Av (r.drop<|n+1)=0->ze Av r=W-q*ze Av v->Ends Lc (L4 v9 o f l a (zc .i64<|(j:Int)-1) (g.set j q)<|lo++r) Q)
  (O:∀r:List Int,r.length=m->AD Av r->ze Av (r.drop<|n+1)=0->ze Av r=W-q*ze Av v+(Av:Int)^(n+1)->Ends Lc (L8 v9 o f l a j o1 J j (n+1) p v n q 0 n 0 g<|lo++r) Q):
  ∀(k i:Nat) (r:List Int) (b c:Int),i+k=n->r.length=m->AD Av r->ze Av (r.drop<|n+1)=0->z6 c=true->(0<=b/\b<=1)->ze Av r=W-q*ze Av (v.take i)+(Av:Int)^i*(c+b)->
   Ends Lc (L7 v9 o f l a j o1 J j (n+1) p v n q b c n i g<|lo++r) Q
 |0,i,r,b,c,E,hr,z,F,A,s,D=>by
  have E:i=n:=ae
  subst E;have y:=A3 z i;obtain⟨s1,s2,s3⟩:=Sp.H5 y A s;have h:decide (zu i j<(lo++r).length)=true:=lw d ae;have t1:(decide ((0:Int)<=(i:Int))&&decide ((i:Int)<((i+1:Nat):Int)))=true:=by simp;omega
  have H:v.take i=v:=z8 ae;have u:∀x:Int,0<=x/\x<18446744073709551616->(r.set i x).length=m/\AD Av (r.set i x)/\ze Av ((r.set i x).drop<|i+1)=0:=fun x R=>
   ⟨by simp[hr],Ic z i R,by rw[KZ _ _ _ _ ae];exact F⟩
  obtain⟨M,B,K⟩:=u _<|qc s1;have ev:ze Av (r.set i<|Wz (r.getD i 0) c b)=W-q*ze Av v+(Av:Int)^(i+1)*SS (r.getD i 0) c b:=by
   rw[IU _ _ _ _ ae,D,H,Ny,qf, <-zr];congr 2;omega
  refine yf (C6 ..) (qk (by simp) ?_);rw[zf,zf,gw d,sw d];refine zd t1<|zd h<|zd (Ab (Ab (Ab y A)<|w4 s.1)<|w4 s.2)<|zd t1<|zd h<|ye (fun t=>?_)<|fun t=>?_
  ·have t:SS (r.getD i 0) c b=0:=by simpa using t
   refine zd (by simp;omega)<|zd (w4 w)<|h0 _ M B K ?_;rw[ev,t,y7,ql]
  ·have t:SS (r.getD i 0) c b≠0:=by simpa using t
   refine O _ M B K ?_;rw[ev,show SS (r.getD i 0) c b=1 by omega,jc]
 |k+1,i,r,b,c,E,hr,z,F,A,s,D=>by
  have N:=A3 L i;have y:=A3 z i;obtain⟨U,X,V,Y,T,m6,P⟩:=XS G N y A s;have h:decide (zu i j<(lo++r).length)=true:=lw d ae;have t1:(decide ((0:Int)<=(i:Int))&&decide ((i:Int)<((n+1:Nat):Int)))=true:=by simp;omega
  have B:=wn (i:=i) ae;refine yf (C6 ..) (zd (by simp;omega) ?_);rw[zf,gw d,sw d,V,B];refine zd (by simp;omega)<|zd (Ab G N)<|zd (Ab (Ab (Ab U A) rfl) rfl)<|zd t1<|zd h<|zd (Ab (Ab (Ab y X)<|w4 s.1)<|w4 s.2)<|zd t1<|zd h ?_;refine CO v9 o f l a o1 J p v n j lo m q W g S I Z d C w L G h0 O k (i+1) _ _ _ ae (by simp[hr]) (Ic z i<|qc T) (by rw[KZ _ _ _ _ ae];exact F) Y m6 ?_;rw[IU _ _ _ _ ae,D,Ny,AN,zr q,yn q];have e:(Av:Int)^i*(c+b)+(Av:Int)^i*(Wz (r.getD i 0) (Jj (Jq q<|v.getD i 0) c 0) b-r.getD i 0)=(Av:Int)^i*(18446744073709551616*((q*v.getD i 0+c)/18446744073709551616+SS (r.getD i 0) (Jj (Jq q<|v.getD i 0) c 0) b))-(Av:Int)^i*(q*v.getD i 0):=by
   rw[<-zr, <-qg,P]
  omega
theorem GA(v9:Int)(p:List Int)(f:Nat)(o:Int)(d:Nat)(o1 J:List Int)(u:Nat)(v:List Int)(n j:Nat)(lo:List Int)(m:Nat)(q W:Int)(l:List Int)
  (M:v.length=n) (y:n<=9000) (R:n+1<=m) (a:lo.length=j) (z:j<d) (s:j<l.length) (I:AD Av v)
  (hW:0<=W+ze Av v)
  (h0:∀r:List Int,r.length=m->AD Av r->ze Av (r.drop<|n+1)=0->ze Av r=W+ze Av v->Ends Lc (L4 v9 p f o d (zc .i64<|(j:Int)-1) (l.set j<|zc .u64<|q-1)<|lo++r) Q):
  ∀(k i:Nat) (r:List Int) (c:Int),i+k=n->r.length=m->AD Av r->ze Av (r.drop<|n+1)=0->(0<=c/\c<=1)->ze Av r=W+(Av:Int)^(n+1)+ze Av (v.take i)-(Av:Int)^i*c->
   Ends Lc (L8 v9 p f o d j o1 J j (n+1) u v n q c n i l<|lo++r) Q
 |0,i,r,c,B,hr,t,C,x,A=>by
  have B:i=n:=ae
  subst B;have E:=qc<|A3 t i;have h:decide (zu i j<(lo++r).length)=true:=lw a ae;have t1:(decide ((0:Int)<=(i:Int))&&decide ((i:Int)<((i+1:Nat):Int)))=true:=by simp;omega
  have D:v.take i=v:=z8 ae;have K:0<=(r.getD i 0+c) % 18446744073709551616/\(r.getD i 0+c) % 18446744073709551616<18446744073709551616:=ae
  have L:(r.set i<|(r.getD i 0+c) % 18446744073709551616).length=m:=by simp[hr]
  have w:AD Av (r.set i<|(r.getD i 0+c) % 18446744073709551616):=Ic t i K;have H:ze Av ((r.set i<|(r.getD i 0+c) % 18446744073709551616).drop<|i+1)=0:=by rw[KZ _ _ _ _ ae];exact C
  have F:=TQ (b:=Av) af w (n:=i+1) ae H;refine yf (DM ..) (qk (by simp) ?_);rw[zf,zf,gw a,sw a,NC<|r.getD i 0+c];refine zd t1 (zd h<|zd t1<|zd h<|zd (by simp;omega)<|zd (w4 s)<|h0 _ L w H ?_);have hp:=Bn (b:=Av) af i;rw[IU _ _ _ _ ae,A,D]at F ⊢;rcases show(r.getD i 0+c) % 18446744073709551616=r.getD i 0+c\/(r.getD i 0+c) % 18446744073709551616=r.getD i 0+c-18446744073709551616 by omega with g|g
  ·exfalso;rw[g,show r.getD i 0+c-r.getD i 0=c by omega]at F;omega
  ·have O:(Av:Int)^(i+1)=(Av:Int)^i*18446744073709551616:=zq ..;rw[g,show r.getD i 0+c-18446744073709551616-r.getD i 0=c-18446744073709551616 by omega,qg,O];omega
 |k+1,i,r,c,B,hr,t,C,x,A=>by
  have G:=A3 I i;have E:=A3 t i;obtain⟨N,P,S⟩:=Mn E G x;have h:decide (zu i j<(lo++r).length)=true:=lw a ae;have t1:(decide ((0:Int)<=(i:Int))&&decide ((i:Int)<((n+1:Nat):Int)))=true:=by simp;omega
  have w:=wn (i:=i) ae;refine yf (DM ..) (zd (by simp;omega) ?_);rw[zf,gw a,sw a,w];refine zd t1 (zd h (zd (by simp;omega)<|zd (Ab (Ab (Ab E G)<|w4 x.1)<|w4 x.2)<|zd t1<|zd h ?_));refine GA v9 p f o d o1 J u v n j lo m q W l M y R a z s I hW h0 k (i+1) _ _ ae (by simp[hr]) (Ic t i<|qc N) (by rw[KZ _ _ _ _ ae];exact C) P ?_;rw[IU _ _ _ _ ae,A,Ny,AN];have e:(Av:Int)^i*(Jj (r.getD i 0) (v.getD i 0) c-r.getD i 0)-(Av:Int)^i*c=(Av:Int)^i*v.getD i 0-(Av:Int)^i*(18446744073709551616*Rj (r.getD i 0) (v.getD i 0) c):=by
   rw[<-qg, <-qg];congr 1;omega
  omega
theorem Adb(v9:Int)(l:List Int)(f:Nat)(k:Int)(e:Nat)(o1 y:List Int)(p:Nat)(v:List Int)(n j:Nat)(lo:List Int)(m:Nat)(i h:List Int)
  (z:v.length=n) (w:n<=9000) (B:n+1<=m) (u:lo.length=j) (s:j<e) (t:j<h.length) (x:AD Av v)
  (hr:i.length=m) (C:AD Av i) (H:ze Av (i.drop<|n+1)=0)
  (o:∀(q:Int) (r:List Int),r.length=m->AD Av r->(0<=q/\q<18446744073709551616)->ze Av r<ze Av v->ze Av r=ze Av i-q*ze Av v->Ends Lc (L4 v9 l f k e (zc .i64<|(j:Int)-1) (h.set j q)<|lo++r) Q)
  (q:Int) (A:z6 q=true) (J:ze Av i<(q+1)*ze Av v) (P:q*ze Av v<ze Av i+ze Av v):
  Ends Lc (L7 v9 l f k e j o1 y j (n+1) p v n q 0 0 n 0 h<|lo++i) Q:=by
 have I:=qc A;have M:=AJ (b:=Av) af C;have D:=AJ (b:=Av) af x;rw[yb,z7]at J;refine CO v9 l f k e o1 y p v n j lo m q (ze Av i) h z w B u s t x A (fun r a b c d=>o q r a b I ae d) (fun r a b c d=>?_) n 0 i 0 0 ae hr C H af af (by simp[ze]);have O:=TQ (b:=Av) af b (n:=n+1) ae c;have E:1<=q:=by
  rcases yt 0 q with g|g
  ·exact g
  ·have:q=0:=ae
   subst this;rw[jf]at d;omega
 have K:zc .u64 (q-1)=q-1:=wu _ ae ae;refine GA v9 l f k e o1 y p v n j lo m q (ze Av i-q*ze Av v) h z w B u s t x ae (fun G L b' N F=>?_) n 0 r 0 ae a b c af (by rw[d];simp[ze]);rw[K];refine o (q-1) G L b' ae ae ?_;rw[F,qu,z7];omega
theorem AjE(q x:Int):Tj q x*18446744073709551616+Jq q x=q*x/\0<=Jq q x/\Jq q x<18446744073709551616:=by
 unfold Tj Jq;generalize q*x=P;omega
theorem C0(v9:Int)(p:List Int)(h:Nat)(n:Int)(d:Nat)(o1 M:List Int)(s:Nat)(v:List Int)(k j:Nat)(lo:List Int)(m:Nat)(e i:List Int)
  (O:v.length=k+2) (G:k+2<=9000) (hm:k+3<=m) (t:lo.length=j) (I:j<d) (E:j<i.length) (A:AD Av v)
  (hr:e.length=m) (H:AD Av e) (T:ze Av (e.drop<|k+3)=0) (L:1<=v.getD (k+1) 0)
  (w:∀(q:Int) (r:List Int),r.length=m->AD Av r->(0<=q/\q<18446744073709551616)->ze Av r<ze Av v->ze Av r=ze Av e-q*ze Av v->Ends Lc (L4 v9 p h n d (zc .i64<|(j:Int)-1) (i.set j q)<|lo++r) Q):
  ∀(f:Nat) (q r o:Int),0<=q->q<f->q<18446744073709551616->z6 r=true->(o=0\/o=1)->q*v.getD (k+1) 0+(r+18446744073709551616*o)=e.getD (k+2) 0*18446744073709551616+e.getD (k+1) 0->ze Av e<(q+1)*ze Av v->
   Ends Lc (L5 v9 p h n d j o1 M j (k+3) s v ((k+2:Nat):Int) q r o i<|lo++e) Q
 |0,q,r,o,h0,hf,_,_,_,_,_=>by omega
 |f+1,q,r,o,h0,hf,Y,l,ho,he,R=>by
  have X:z6 q=true:=C9 h0 Y;have K:=A3 A k;have u:=A3 A<|k+1;have S:=A3 H k;have U:=qc K;have gv1:=qc u;have gu2:=qc S;have gr:=qc l;have hP:=Bn (b:=Av) af k;have hW:=AaU Av e k ae T;have Z:=AbB Av v k O;have P:=AJ (b:=Av) af<|AW H k;have x:=BD (b:=Av) af<|AW H k;have J:=AJ (b:=Av) af<|AW A k;have y:=BD (b:=Av) af<|AW A k;rw[yp,qd ae]at x y;have exit:q*v.getD k 0<=(r+18446744073709551616*o)*18446744073709551616+e.getD k 0->Ends Lc (L7 v9 p h n d j o1 M j (k+3) s v ((k+2:Nat):Int) q 0 0 ((k+2:Nat):Int) 0 i<|lo++e) Q:=by
   intro N;refine Adb v9 p h n d o1 M s v (k+2) j lo m e i O G hm t I E A hr H T w q X R ?_;rw[hW,Z];exact WR hP ⟨J,y⟩ P ⟨h0,Y⟩ L U.1 he N
  have e1:zc .i64 (((k+2:Nat):Int)-2)=(k:Int):=by rw[wr _ ae ae];omega
  have e2:zc .i64 (((k+2:Nat):Int)-1)=((k+1:Nat):Int):=by rw[wr _ ae ae];omega
  obtain⟨w1,w2,w3⟩:=AjE q<|v.getD k 0;have W:decide (zu k j<(lo++e).length)=true:=lw t ae;refine yf (Dl ..)<|ye (fun c=>?_)<|fun c=>?_
  ·have c:o=0:=by simpa using c
   subst c;rw[e1,e2,zf,zf,gw t];refine zd (by simp;omega)<|zd (Ab X K) ?_;have C:r*18446744073709551616+e.getD k 0<q*v.getD k 0->Ends Lc (L5 v9 p h n d j o1 M j (k+3) s v ((k+2:Nat):Int) (zc .u64<|q-1) (Jj r (v.getD (k+1) 0) 0) (Rj r (v.getD (k+1) 0) 0) i<|lo++e) Q:=by
    intro N;obtain⟨a1,a2,a3⟩:=Mn l u (c:=0) af;have hq1:1<=q:=by
     rcases yt 0 q with g|g
     ·exact g
     ·have:q=0:=ae
      subst this;rw[jf]at N;omega
    rw[wu (q-1) ae ae];refine C0 v9 p h n d o1 M s v k j lo m e i O G hm t I E A hr H T L w f (q-1) _ _ ae ae ae a1 ae ?_ ?_
    ·rw[qu,z7,a3];omega
    ·have V:q*v.getD (k+1) 0+r=e.getD (k+2) 0*18446744073709551616+e.getD (k+1) 0:=ae
     have:=YK (B:=Av) (u0:=e.getD (k+2) 0) (u1:=e.getD (k+1) 0) (u2:=e.getD k 0) hP J x h0 (v1:=v.getD (k+1) 0) (v2:=v.getD k 0) (r:=r) V N;rw[<-hW, <-Z]at this;rw[show q-1+1=q by omega];exact this
   refine ye (fun D=>exit ?_) (fun D=>ye (fun z=>zd (by simp;omega)<|zd W<|ye (fun F=>exit ?_)<|fun F=>zd (by simp;omega)<|zd (Ab (Ab (Ab l u) rfl) rfl)<|C ?_) (fun z=>zd (by simp;omega)<|zd (Ab (Ab (Ab l u) rfl) rfl)<|C ?_))
   ·have D:=w6 D;omega
   ·have z:Tj q (v.getD k 0)=r:=by simpa using z
    have F:=w6 F;omega
   ·have z:Tj q (v.getD k 0)=r:=by simpa using z
    have F:=w7 F;omega
   ·have D:=w7 D;have z:Tj q (v.getD k 0)≠r:=by simpa using z
    omega
  ·have c:o≠0:=by simpa using c
   refine exit ?_;have a:=zm (show v.getD k 0<=18446744073709551615 by omega) h0;omega
theorem Ck(s:Int)(v:List Int)(k e:Nat)(E:v.length=k+2)(P:e<=9000)(X:k+2<=e)(y:AD Av v)(B:1<=v.getD (k+1) 0)(Y:Int)
  (hq:∀u f:List Int,u.length=e+1->AD Av u->AD Av f->ze Av u<ze Av v->f.length=e-(k+2)+1->Y=ze Av u+ze Av v*ze Av f->Ends Lc (L6 s (e+1) ((k+2:Nat):Int) (e-(k+2)+1) ((k+2:Nat):Int) 0 f u) Q):
  ∀(t:Nat) (u f:List Int),t+f.length=e-(k+2)+1->u.length=e+1->AD Av u->AD Av f->ze Av (u.drop t)<ze Av v->Y=ze Av u+ze Av v*((Av:Int)^t*ze Av f)->
   Ends Lc (L4 s v (e+1) ((k+2:Nat):Int) (e-(k+2)+1) ((t:Int)-1) (zo t 0++f) u) Q
 |0,u,f,hl,R,N,A,C,U=>by
  refine yf (BX ..) (qk (by simp) ?_);exact hq u f R N A C ae (by rw[U,yh,z7])
 |j+1,u,f,hl,R,N,A,C,U=>by
  obtain⟨lo,r,rfl,g⟩:∃lo r:List Int,u=lo++r/\lo.length=j:=⟨u.take j,u.drop j,(List.take_append_drop j u).symm,by rw[yp];omega⟩;have F:AD Av lo:=fun d h=>N d<|qz.2<|.inl h
  have a:AD Av r:=fun d h=>N d<|qz.2<|.inr h
  have H:r.length=e+1-j:=by rw[List.length_append]at R;omega
  have m:∀z:List Int,(lo++z).drop j=z:=fun z=>by rw[<-g];exact List.drop_left
  have S:r=r.getD 0 0::r.drop 1:=by
   have:=CI (l:=r) (i:=0) ae;rw[List.drop_zero]at this;exact this
  have hd1:(lo++r).drop (j+1)=r.drop 1:=by rw[Nat.add_comm j 1,Nat.add_comm 1 j, <-List.drop_drop,m]
  rw[hd1]at C;have g0:=LF (b:=Av) af a 0;have hvr:ze Av r=r.getD 0 0+18446744073709551616*ze Av (r.drop 1):=by
   conv=>lhs;rw[S]
   rfl
  have M:=BD (b:=Av) af y;rw[E]at M;have g0:0<=r.getD 0 0/\r.getD 0 0<18446744073709551616:=g0;have hrV:ze Av r<18446744073709551616*ze Av v:=by rw[hvr];omega
  have O:ze Av (r.drop<|k+3)=0:=by
   refine Kq (b:=Av) af a ae ?_;have ep:(Av:Int)^(k+3)=(Av:Int)^(k+2)*18446744073709551616:=zq ..;rw[ep];omega
  have G:=A3 a<|k+2;have o:=A3 a<|k+1;have uu2:=A3 a k;have n:=A3 y<|k+1;have gu0:=qc G;have Z:=qc o;have T:=qc uu2;have gv1:=qc n;have gv2:=qc<|A3 y k;have hP:=Bn (b:=Av) af k;have hW:=AaU Av r k ae O;have hV:=AbB Av v k E;have hu':=AJ (b:=Av) af<|AW a k;have p:=BD (b:=Av) af<|AW a k;have V:=AJ (b:=Av) af<|AW y k;rw[yp,qd ae]at p;have hle:r.getD (k+2) 0<=v.getD (k+1) 0:=by
   have a1:=CG Av (r.drop 1) (k+1) (by rw[List.length_drop];omega);have a2:(r.drop 1).drop (k+1)=r.getD (k+2) 0::r.drop (k+3):=by
    rw[List.drop_drop,show 1+(k+1)=k+2 by omega];exact CI ae
   have a3:ze Av (r.getD (k+2) 0::r.drop (k+3))=r.getD (k+2) 0:=by
    show r.getD (k+2) 0+(Av:Int)*ze Av (r.drop<|k+3)=_;rw[O];omega
   rw[a2,a3]at a1;have W:ze Av v=ze Av (v.take<|k+1)+(Av:Int)^(k+1)*v.getD (k+1) 0:=by
    rw[<-AN,z8 ae]
   have L:=BD (b:=Av) af<|AW y<|k+1;rw[yp,qd ae]at L;have c1:=AJ (b:=Av) af<|AW (Fy a 1)<|k+1;have c2:(Av:Int)^(k+1)*r.getD (k+2) 0<(Av:Int)^(k+1)*(v.getD (k+1) 0+1):=by
    rw[zr,jc];omega
   have:=yj c2 (zp<|Bn af<|k+1);omega
  have w:∀(q:Int) (D:List Int),D.length=e+1-j->AD Av D->(0<=q/\q<18446744073709551616)->ze Av D<ze Av v->ze Av D=ze Av r-q*ze Av v->Ends Lc (L4 s v (e+1) ((k+2:Nat):Int) (e-(k+2)+1) (zc .i64<|(j:Int)-1) ((zo (j+1) 0++f).set j q)<|lo++D) Q:=by
   intro q D h1 h2 h3 h4 h5;have es:(zo (j+1) (0:Int)++f).set j q=zo j 0++(q::f):=by
    rw[List.replicate_succ',yg];exact E7 _ _ _ _ (by simp)
   rw[es,wr ((j:Int)-1) ae ae];refine Ck s v k e E P X y B Y hq j (lo++D) (q::f) (by simp;omega) (by simp;omega) (Hs F h2) (fun d h=>?_) (by rw[m];exact h4) ?_
   ·rcases List.mem_cons.1 h with rfl|h
    ·exact h3
    ·exact A d h
   ·rw[U,Dm,Dm,g,h5,Ny];show ze Av lo+(Av:Int)^j*ze Av r+ze Av v*((Av:Int)^j*(18446744073709551616*ze Av f))=ze Av lo+(Av:Int)^j*(ze Av r-q*ze Av v)+ze Av v*((Av:Int)^j*(q+18446744073709551616*ze Av f));have x1:ze Av v*((Av:Int)^j*q)=(Av:Int)^j*(q*ze Av v):=by
     rw[yn,zn (ze Av v) q]
    rw[qg,zr ((Av:Int)^j) q,zr<|ze Av v,x1];omega
  have ez:zu 0 j=j:=Nat.zero_add j;have e0:(((j+1:Nat):Int)-1)=(j:Int):=ae
  have e1:zc .i64 (zc .i64 ((j:Int)+((k+2:Nat):Int))+1)=((j+(k+3):Nat):Int):=by
   rw[wr ((j:Int)+((k+2:Nat):Int)) ae ae,wr _ ae ae];omega
  have e2:zc .i64 (((k+2:Nat):Int)-1)=((k+1:Nat):Int):=by rw[wr _ ae ae];omega
  have e3:yy (j+(k+3)) j=k+3:=by show j+(k+3)-j=_;omega
  have K:decide (zu (k+2) j<(lo++r).length)=true:=lw g ae;have I:decide (zu (k+1) j<(lo++r).length)=true:=lw g ae;rw[e0];refine yf (BX ..) (zd (by simp) ?_);rw[E,e1,e2,zf,zf,zf,zf,ez,e3,gw g,gw g];have W:(decide ((0:Int)<=((k+2:Nat):Int))&&decide (((k+2:Nat):Int)<((k+3:Nat):Int)))=true:=by simp;omega
  have L:(decide ((0:Int)<=((k+1:Nat):Int))&&decide (((k+1:Nat):Int)<((k+2:Nat):Int)))=true:=by simp;omega
  have b3:(decide ((0:Int)<=((k+1:Nat):Int))&&decide (((k+1:Nat):Int)<((k+3:Nat):Int)))=true:=by simp;omega
  have J:j<(zo (j+1) (0:Int)++f).length:=by simp;omega
  refine zd (by simp;omega)<|zd W<|zd K<|zd L<|ye (fun c=>?_)<|fun c=>?_
  ·have c:=w6 c;obtain⟨a1,a2,a3⟩:=Mn o n (c:=0) af;refine zd b3<|zd I<|zd L<|zd (Ab (Ab (Ab o n) rfl) rfl) ?_;refine C0 s v (e+1) _ _ _ _ _ v k j lo (e+1-j) r _ E ae ae g ae J y H a O B w 18446744073709551616 _ _ _ af af af a1 ae ?_ ?_
   ·rw[a3];omega
   ·exact hrV
  ·have c:=w7 c;obtain⟨d1,d2,d3,d4,d5⟩:=dqr (r:=r.getD (k+2) 0) (x:=r.getD (k+1) 0) (d:=v.getD (k+1) 0) ae ae Z;refine zd W (zd K<|zd b3<|zd I<|zd L<|zd (Ab (Ab (Ab G o) n)<|w4 ae) ?_);refine C0 s v (e+1) _ _ _ _ _ v k j lo (e+1-j) r _ E ae ae g ae J y H a O B w 18446744073709551616 _ _ _ d2 d3 d3 (C9 d4 ae) (.inl rfl) ?_ ?_
   ·rw[<-d1];omega
   ·rw[hW,hV];exact O1 hP af d2 V gv2.1 p T.2 d1 d5
end T210
theorem X9{a b:Int}{s:Nat}(e:0<=a)(d:0<=b)(h:b<2^s)(c:a*2^s+b<18446744073709551616):kN .u64 b (a*2^s)=a*2^s+b:=by
 have:=fX e d h c;rw[<-this];show zc .u64 (((yi 64 b|||yi 64 (a*2^s)).toNat:Nat):Int)=zc .u64 (((yi 64 (a*2^s)|||yi 64 b).toNat:Nat):Int);rw[BitVec.or_comm]
theorem gT{s:Nat}(a:s<=63):(18446744073709551616:Int)=2^s*2^(64-s):=by rw[<-Int.pow_add,show s+(64-s)=64 by omega];rfl
namespace T210
theorem FI(s:Nat)(R:s<=63)(a n m:Nat)(W:n<=a)(D:a<=9000)(u g:List Int)(Y:u.length=a+1)(E:AD Av u)(S:ze Av (u.drop n)=0)(hm:g.length=m)(L:m<=9000)(q:AD Av g)
  (O:∀(w:List Int) ob,AD Av w->ze Av w=ze Av u/2^s->Q (.tup [.dat DQ<|AE g,.dat DQ<|AE w]) ob):
  ∀(k i:Nat) (p:List Int),i+k=n->p.length=i->AD Av p->ze Av p+(Av:Int)^i*(ze Av (u.drop i)/2^s)=ze Av u/2^s->
   Ends Lc (L6 s (a+1) n m n i g<|p++u.drop i) Q
 |0,i,p,K,hp,e,A=>by
  have K:i=n:=ae
  subst K;have V:(p++u.drop i).take i=p:=by rw[<-hp];exact List.take_left
  have I:g.take m=g:=z8 ae;rw[S,Int.zero_ediv,y7,ql]at A;refine yf (CL ..) (qk (by simp) ?_);rw[zf,V,I];refine zd (by simp;omega) (zd (Ab (by simp;omega)<|E0 ae q)<|zd (Ab (by simp;omega)<|E0 ae e)<|yz<|O p _ e A)
 |k+1,i,p,K,hp,e,A=>by
  have J:=CI (l:=u) (i:=i) ae;have N:=CI (l:=u) (i:=i+1) ae;have P:=qc<|A3 E i;have gy:=qc<|A3 E<|i+1;have U:(p++u.drop i).getD i 0=u.getD i 0:=by rw[J];exact GN _ _ _ _ hp
  have s1:∀z,(p++u.drop i).set i z=p++z::u.drop (i+1):=fun z=>by rw[J];exact E7 _ _ _ _ hp
  have s2:∀z x,(p++z::u.drop (i+1)).set i x=(p++[x])++u.drop (i+1):=fun z x=>by rw[E7 _ _ _ _ hp,yg];rfl
  have g2:∀z,(p++z::u.drop (i+1)).getD i 0=z:=fun z=>GN _ _ _ _ hp
  have Z:∀z,(p++z::u.drop (i+1)).getD (i+1) 0=u.getD (i+1) 0:=fun z=>by
   rw[N,show p++z::u.getD (i+1) 0::u.drop (i+1+1)=(p++[z])++u.getD (i+1) 0::u.drop (i+1+1)by rw[yg];rfl];exact GN _ _ _ _ (by simp[hp])
  have t:∀z,(p++z::u.drop (i+1)).length=a+1:=fun z=>by simp;omega
  have j:(p++u.drop i).length=a+1:=by simp;omega
  have e2:=wn (i:=i) ae;have e3:zc .i64 ((64:Int)-(s:Int))=((64-s:Nat):Int):=by rw[wr _ ae ae];omega
  have em:qj s 64=s:=ae
  have G:qj (64-s) 64=64-s:=ae
  have v:=gT R;have o:(0:Int)<2^s:=yw af;have f:(0:Int)<2^(64-s):=yw af;have F:qm (u.getD i 0) ((2:Int)^s)=u.getD i 0/2^s:=yx _<|zp o;have a0:0<=u.getD i 0/2^s:=qi P.1<|zp o;have a1:u.getD i 0/2^s<2^(64-s):=qe o (by rw[zn, <-v];exact P.2);have T:=yv (u.getD (i+1) 0) (show(2:Int)^s≠0 by omega);have m1:=yr (u.getD (i+1) 0) o;have p0:0<=(u.getD (i+1) 0 % 2^s)*2^(64-s):=yc T<|zp f;have p1:(u.getD (i+1) 0 % 2^s)*2^(64-s)<=18446744073709551616-2^(64-s):=by
   have:=zh (show u.getD (i+1) 0 % 2^s<=2^s-1 by omega)<|zp f;rw[qu,z7, <-v]at this;exact this
  have h:0<=u.getD i 0/2^s+(u.getD (i+1) 0 % 2^s)*2^(64-s)/\u.getD i 0/2^s+(u.getD (i+1) 0 % 2^s)*2^(64-s)<18446744073709551616:=ae
  have M:zc .u64 (u.getD (i+1) 0*2^(64-s))=(u.getD (i+1) 0 % 2^s)*2^(64-s):=by
   rw[NC];exact(Yi (b:=18446744073709551616) (c:=2^(64-s)) (d:=2^s) (k:=0) f o (by rw[v,zn]) ⟨qv _,f⟩ gy).1
  have H:kN .u64 (u.getD i 0/2^s) ((u.getD (i+1) 0 % 2^s)*2^(64-s))=u.getD i 0/2^s+(u.getD (i+1) 0 % 2^s)*2^(64-s):=by
   rw[X9 T a0 a1 ae,Int.add_comm]
  have next:∀z,z=u.getD i 0/2^s+(u.getD (i+1) 0 % 2^s)*2^(64-s)->Ends Lc (L6 s (a+1) n m n ((i+1:Nat):Int) g<|(p++[z])++u.drop (i+1)) Q:=by
   intro z r;refine FI s R a n m W D u g Y E S hm L q O k (i+1) (p++[z]) ae (by simp[hp]) (EF e<|by rw[r];exact C9 h.1 h.2) ?_;rw[<-A,Gb,hp,Ny,qf, <-zr];congr 2;have:=yG (b:=18446744073709551616) (c:=2^s) (d:=2^(64-s)) (x:=u.getD i 0) (y:=u.getD (i+1) 0) (X:=ze Av<|u.drop<|i+1+1) o v;rw[r,J,N];exact this.symm
  have B:(decide ((0:Int)<=(i:Int))&&decide ((i:Int)<((a+1:Nat):Int)))=true:=by simp;omega
  have b2:(decide ((0:Int)<=((i+1:Nat):Int))&&decide (((i+1:Nat):Int)<((a+1:Nat):Int)))=true:=by simp;omega
  refine yf (CL ..) (zd (by simp;omega) ?_);rw[e2,e3,zf,zf,zf,zf,em,G,U,F,s1,g2,Z,s2,M,H,t,j];refine zd B (zd (w4 ae)<|zd (by simp)<|zd B<|zd (w4 ae)<|ye (fun c=>zd (by simp;omega)<|zd B<|zd (w4 ae)<|zd b2<|zd (w4 ae)<|zd (by simp)<|zd B<|zd (w4 ae)<|next _ rfl)<|fun c=>?_);have c:=w7 c;have C:s=0:=ae
  subst C;rw[show ∀z:Int,p++z::u.drop (i+1)=(p++[z])++u.drop (i+1)from fun z=>by rw[yg];rfl];refine next _ ?_;rw[yh,Int.emod_one,jf,ql]
theorem Vn{X:AG}{F:Int->List Int->Tr}(w:List Int)(s:Nat)(m:s<=63)(v:AD Av w)
  (EG:∀(i:Nat) (o:List Int),i<w.length->o.length=w.length+1->Ends X (F ((i+1:Nat):Int)<|if 0<s then(o.set i<|kN .u64 (o.getD i 0)<|zc .u64<|w.getD i 0*2^s).set (i+1) (qm (w.getD i 0)<|2^(64-s))else o.set i<|kN .u64 (o.getD i 0)<|zc .u64<|w.getD i 0*2^s) Q->Ends X (F i o) Q)
  (a:∀o:List Int,o.length=w.length+1->AD Av o->ze Av o=2^s*ze Av w->Ends X (F w.length o) Q):
  ∀(k i:Nat) (p:List Int) (c:Int),i+k=w.length->p.length=i->AD Av p->(0<=c/\c<2^s)->ze Av p+(Av:Int)^i*c=2^s*ze Av (w.take i)->Ends X (F i (p++c::zo k 0)) Q
 |0,i,p,c,r,hp,e,g,h=>by
  have r:i=w.length:=ae
  subst r;have G:(2:Int)^s<=18446744073709551616:=by
   have:=gT m;have D:(1:Int)<=2^(64-s):=yw af;have E:=zm D (show(0:Int)<=2^s from zp<|yw af);omega
  rw[List.take_length]at h;refine a _ (by simp[hp]) (EF e<|C9 g.1 ae) ?_;rw[<-h];show ze Av (p++[c])=_;rw[Gb,hp]
 |k+1,i,p,c,r,hp,e,g,h=>by
  have l:=qc<|A3 v i;have B:=gT m;have u:(0:Int)<2^s:=yw af;have f:(0:Int)<2^(64-s):=yw af;obtain⟨s1,s2,s3,s4,s5,s6⟩:=Yi (b:=18446744073709551616) (c:=2^s) (d:=2^(64-s)) (x:=w.getD i 0) (k:=c) u f B g l;have n:qm (w.getD i 0) ((2:Int)^(64-s))=w.getD i 0/2^(64-s):=yx _<|zp f;have A:(p++c::zo (k+1) 0).getD i 0=c:=GN _ _ _ _ hp;have st:∀z:Int,(p++c::zo (k+1) 0).set i z=p++z::zo (k+1) 0:=fun z=>E7 _ _ _ _ hp
  have t:∀z y:Int,(p++z::zo (k+1) 0).set (i+1) y=(p++[z])++y::zo k 0:=fun z y=>by
   rw[show p++z::zo (k+1) (0:Int)=(p++[z])++0::zo k 0 by rw[yg];rfl];exact E7 _ _ _ _ (by simp[hp])
  have q:kN .u64 c ((w.getD i 0 % 2^(64-s))*2^s)=(w.getD i 0 % 2^(64-s))*2^s+c:=X9 (yv _ ae) g.1 g.2 s2;have go:=Vn w s m v EG a k (i+1) (p++[(w.getD i 0 % 2^(64-s))*2^s+c]) (w.getD i 0/2^(64-s)) ae (by simp[hp]) (EF e<|C9 ae s2) ⟨s4,s5⟩ (by
   rw[Gb,hp,Ny,AN,zr<|2^s, <-h,qf,qf, <-zr,yn<|2^s, <-zr];congr 2;rw[zn<|2^s];omega)
  refine EG i _ ae (by simp;omega) ?_;rw[NC,s1,n,A,q,st,t];by_cases h0:0<s
  ·rw[wd h0];exact go
  ·have j:s=0:=ae
   subst j;have C:w.getD i 0/2^(64-0)=0:=qy l.1 l.2;rw[C]at go;rw[wc h0,show ∀z:Int,p++z::zo (k+1) (0:Int)=(p++[z])++0::zo k 0 from fun z=>by rw[yg];rfl];exact go
end T210
theorem Abl:Cr Lc:=
 Aa T176.ok (Aa T217.ok<|Aa T178.ok<|Aa T216.ok<|Aa T218.ok<|Aa oI<|Aa T240.ok AI)
theorem LU{w:List Int}(c:AD Av w)(a:Sp.nz w){k:Nat}(b:w.length=k+1):0<w.getD k 0/\w.getD k 0<18446744073709551616:=by
 have g:=qc<|A3 c k;refine⟨?_,g.2⟩;have e:w.getLast?=some (w.getD k 0):=by
  rw[List.getLast?_eq_getElem?,b,qn,zy,yo ae];rfl
 unfold Sp.nz at a;rw[e]at a;have:w.getD k 0≠0:=fun h=>a (by rw[h])
 omega
namespace T210
set_option maxHeartbeats 1000000 in
theorem ok:Ae A1 210 Ht:=by
 refine C3 Abl<|fun(i:List Int×List Int) C=>?_;obtain⟨a,b⟩:=i;have C:(CF a&&CF b&&decide (a.length<=9000)&&decide (b.length<=9000)&&decide (0<Ay b))=true:=C;rw[zz,zz,zz,zz,w5,w5,w5]at C;obtain⟨⟨⟨⟨na,nb⟩,la9⟩,lb9⟩,p⟩:=C;obtain⟨_,da,za⟩:=FO na;obtain⟨_,db,zb⟩:=FO nb;have p:0<ze Av b:=p;have E:=AJ (b:=Av) af da;have hg:∀q r ob,q=BI (Ay a/Ay b)->r=BI (Ay a % Ay b)->Ac Ht (a,b) (PV.tup [PV.dat DQ q,PV.dat DQ r]) ob:=fun q r ob S L=>Ac.of rfl rfl (Prod.ext S L)
 have fin:∀(q r:List Int) ob,AD Av q->AD Av r->ze Av a=ze Av q*ze Av b+ze Av r->ze Av r<ze Av b->Ac Ht (a,b) (PV.tup [PV.dat DQ<|AE q,PV.dat DQ<|AE r]) ob:=by
  intro q r ob dq dr N hr;have T:=AJ (b:=Av) af dr;obtain⟨u1,u2⟩:=(qh (a:=ze Av a) (b:=ze Av b) (r:=ze Av r) (q:=ze Av q) p).2 ⟨by rw[zn<|ze Av b];omega,T,hr⟩;refine hg _ _ ob ?_ ?_
  ·rw[Nl dq];show BI (ze Av q)=BI (ze Av a/ze Av b);rw[u1]
  ·rw[Nl dr];show BI (ze Av r)=BI (ze Av a % ze Av b);rw[u2]
 have m:b≠[]:=by rintro rfl;simp[ze]at p
 have R:b.length≠0:=fun h=>m<|List.length_eq_zero_iff.1 h
 refine Ends.eq (Ai a b) (zd (by rw[na,nb];rfl)<|ye (fun c=>?_)<|fun c=>?_)
 ·have c:=w6 c;have n:ze Av a<ze Av b:=by
   unfold Cd at c;have c:(if ze Av a<ze Av b then(-1:Int)else if ze Av a>ze Av b then 1 else 0)<0:=c;split at c
   ·assumption
   ·split at c<;>omega
  refine yz<|Ac.of rfl rfl ?_;show([],a)=(BI<|ze Av a/ze Av b,BI<|ze Av a % ze Av b);rw[qy E n,Int.emod_eq_of_lt E n];exact Prod.ext rfl (JO af da za)
 ·have c:=w7 c;have hge:ze Av b<=ze Av a:=by
   rcases yt (ze Av a) (ze Av b)with g|g
   ·have:Cd (Ay a) (Ay b)= -1:=wd g;omega
   ·exact g
  have hll:b.length<=a.length:=by
   rcases Nat.lt_or_ge a.length b.length with g|g
   ·have:=Ft (b:=Av) af da db zb g;omega
   ·exact g
  refine ye (fun A=>?_)<|fun A=>?_
  ·have A:b.length=1:=by
    have:(b.length:Int)=1:=by simpa using A
    omega
   obtain⟨d,rfl⟩:=List.length_eq_one_iff.1 A;have hd:0<d/\d<18446744073709551616:=LU (k:=0) db zb rfl;have S:zc .i64 ((a.length:Int)-1)=(a.length:Int)-1:=wr _ ae ae;rw[S,zf];refine zd (by simp;omega) ?_;have:=As (Q:=Ac Ht (a,[d])) a d da hd ae (fun q r ob dq dr N=>by
    refine fin q [r] ob dq (fun x j=>by rw[List.mem_singleton]at j;subst j;exact⟨dr.1,by show x<18446744073709551616;omega⟩) ?_ ?_
    ·rw[val_one,val_one];exact N
    ·rw[val_one,val_one];exact dr.2) a.length [] 0 (by simp) (fun x j=>by cases j) ⟨qv _,hd.1⟩ (by rw[List.drop_length];simp[ze])
   rw[List.append_nil]at this;exact this
  ·have A:b.length≠1:=by
    have:(b.length:Int)≠1:=by simpa using A
    omega
   obtain⟨k,v⟩:∃k,b.length=k+2:=⟨b.length-2,by omega⟩;obtain⟨y0,y1⟩:=LU (k:=k+1) db zb v;obtain⟨s,hs,hs63,n,_⟩:=WU y0 y1;have hB:=gT hs63;have f:(0:Int)<2^s:=yw af;have h2d:(0:Int)<2^(64-s):=yw af;have hyd:b.getD (k+1) 0<2^(64-s):=by
    rw[hB,zn<|b.getD (k+1) 0]at n;exact yj n<|zp f
   have X:(Av:Int)^(k+1)<=2^s*ze Av b:=by
    have a1:=DP (b:=Av) af db zb m;rw[v,show k+2-1=k+1 by omega]at a1;have a2:=zh (show(1:Int)<=2^s by omega)<|zp p;omega
   have Z:2^s*ze Av b<(Av:Int)^(k+2):=by
    have B:ze Av b=ze Av (b.take<|k+1)+(Av:Int)^(k+1)*b.getD (k+1) 0:=by
     rw[<-AN,z8 ae]
    have b2:=BD (b:=Av) af<|AW db<|k+1;rw[yp,qd ae]at b2;have hp:=Bn (b:=Av) af<|k+1;have b3:ze Av b<(Av:Int)^(k+1)*2^(64-s):=by
     have:=zm (show b.getD (k+1) 0+1<=2^(64-s)by omega)<|zp hp;rw[zr,jc]at this;omega
    have b4:=qo b3 f;have b5:(2:Int)^s*((Av:Int)^(k+1)*2^(64-s))=(Av:Int)^(k+2):=by
     rw[yn, <-hB];exact(zq ..).symm
    rw[b5]at b4;exact b4
   have hls:∀o:List Int,AD Av o->ze Av o=2^s*ze Av b->AD Av (AE o)/\(AE o).length=k+2/\ze Av (AE o)=2^s*ze Av b/\1<=(AE o).getD (k+1) 0:=by
    intro o U hv;have z:=Ja U;have y:ze Av (AE o)=2^s*ze Av b:=by rw[KP,hv]
    have J:=vE (b:=Av) af z (Nn o) (k:=k+1) (by rw[y];exact X) (by rw[y];exact Z);have:=(LU z (Nn o) J).1;exact⟨z,J,y,by omega⟩
   have L:zc .i64 (((k+2:Nat):Int)-1)=((k+1:Nat):Int):=by rw[wr _ ae ae];omega
   have e3:zc .i64 (((k+2:Nat):Int)+1)=((k+3:Nat):Int):=by rw[wr _ ae ae];omega
   have e4:zc .i64 ((a.length:Int)+1)=((a.length+1:Nat):Int):=by rw[wr _ ae ae];omega
   have e5:zc .i64 ((a.length:Int)-((k+2:Nat):Int))=((a.length-(k+2):Nat):Int):=by rw[wr _ ae ae];omega
   have e6:zc .i64 (((a.length-(k+2):Nat):Int)+1)=((a.length-(k+2)+1:Nat):Int):=by rw[wr _ ae ae];omega
   have e7:zc .i64 ((64:Int)-(s:Int))=((64-s:Nat):Int):=by rw[wr _ ae ae];omega
   have em:qj s 64=s:=ae
   have M:qj (64-s) 64=64-s:=ae
   rw[v,L,e3,zf,zf,hs];refine zd (by simp;omega) (zd (C9 ae y1) (zd (by simp;omega) ?_));refine Vn (F:=fun i o=>L2 a b s (k+3) b ((k+2:Nat):Int) i o) b s hs63 db (fun i o C U h=>?_) (fun o hol G V=>?_) (k+2) 0 [] 0 ae rfl (fun x j=>by cases j) ⟨qv _,f⟩ (by simp[ze])
   ·have ei:=wn (i:=i) ae;have B:(decide ((0:Int)<=(i:Int))&&decide ((i:Int)<((k+3:Nat):Int)))=true:=by simp;omega
    refine yf (AA ..) (zd (by simp;omega) ?_);rw[ei,e7,zf,zf,zf,zf,em,M];refine zd (by simp;omega) (zd B<|zd (w4 ae)<|zd (by simp)<|zd B<|zd (w4 ae)<|ye (fun c=>zd (by simp)<|zd (by simp;omega)<|zd (by simp;omega) ?_)<|fun c=>?_)
    ·have c:=w6 c;rw[wd ae]at h;exact h
    ·have c:=w7 c;rw[wc ae]at h;exact h
   obtain⟨vd,vl,O,v1⟩:=hls o G V;have eo:o.take (k+3)=o:=z8 ae;rw[v];refine yf (AA ..) (qk (by simp) ?_);rw[eo,e4,zf,v,L,zf,hs];refine zd (Ab (by simp;omega)<|E0 ae G) (zd (by simp;omega) ?_);refine Vn (F:=fun i o'=>L3 a b s (k+3) b ((k+2:Nat):Int) ((k+2:Nat):Int) o s (a.length+1) a a.length i o' o) a s hs63 da (fun i o' C U h=>?_) (fun u hul H huv=>?_) a.length 0 [] 0 ae rfl (fun x j=>by cases j) ⟨qv _,f⟩ (by simp[ze])
   ·have ei:=wn (i:=i) ae;have B:(decide ((0:Int)<=(i:Int))&&decide ((i:Int)<((a.length+1:Nat):Int)))=true:=by simp;omega
    refine yf (Bo ..) (zd (by simp;omega) ?_);rw[ei,e7,zf,zf,zf,zf,em,M];refine zd (by simp;omega) (zd B<|zd (w4 ae) (zd (by simp) (zd B<|zd (w4 ae)<|ye (fun c=>zd (by simp)<|zd (by simp;omega)<|zd (by simp;omega) ?_)<|fun c=>?_)))
    ·have c:=w6 c;rw[wd ae]at h;exact h
    ·have c:=w7 c;rw[wc ae]at h;exact h
   refine yf (Bo ..) (qk (by simp) ?_);rw[eo,vl,e5,e6,zf,v,L,zf,hs];refine zd (by simp;omega) ?_;have K:=Bn (b:=Av) af<|a.length-(k+2)+1;have start:ze Av (u.drop<|a.length-(k+2)+1)<ze Av (AE o):=by
    have a1:=CG Av u (a.length-(k+2)+1) ae;have a2:=AJ (b:=Av) af<|AW H<|a.length-(k+2)+1;have a3:=BD (b:=Av) af da;have a4:=qo a3 f;have a5:(Av:Int)^a.length=(Av:Int)^(a.length-(k+2)+1)*(Av:Int)^(k+1):=by rw[<-Int.pow_add];congr 1;omega
    have a6:=DP (b:=Av) af db zb m;rw[v,show k+2-1=k+1 by omega]at a6;have a7:=zm a6<|zp f;have a8:=zm a7<|zp K;rw[a5,yn]at a4;rw[O];refine yj (a:=(Av:Int)^(a.length-(k+2)+1)) ?_<|zp K;omega
   have go:=Ck (Q:=Ac Ht (a,b)) s (AE o) k a.length vl la9 ae vd v1 (2^s*ze Av a) (fun Y P D t I l hql N=>by
    have hz:ze Av (Y.drop<|k+2)=0:=Kq (b:=Av) af t ae (by rw[O]at l;omega);refine FI s hs63 a.length (k+2) (a.length-(k+2)+1) ae la9 Y P D t hz hql ae I (fun w ob hw W=>?_) (k+2) 0 [] ae rfl (fun x j=>by cases j) (by simp[ze]);have e:ze Av Y=2^s*(ze Av a-ze Av P*ze Av b):=by
     rw[O,zl,zn<|ze Av b]at N;rw[qg];omega
    have ew:ze Av w=ze Av a-ze Av P*ze Av b:=by
     rw[W,e];exact Int.mul_ediv_cancel_left _ ae
    refine fin P w ob I hw ae ?_;rw[O,e]at l;have:=yj l<|zp f;omega) (a.length-(k+2)+1) u [] (by simp) hul H (fun x j=>by cases j) start (by rw[huv];simp[ze])
   rw[List.append_nil,show((a.length-(k+2)+1:Nat):Int)-1=((a.length-(k+2):Nat):Int)by omega]at go;exact go
end T210
theorem Tl:Ae A1 210 Ht:=T210.ok
theorem Aag:Cr XF0:=fun g sp h=>by cases h
theorem T68n.ok:Ae A1 68 Sy:=by
 refine AX (X:=XF0) rfl Aag (d:=9) (by rfl) (by rfl) (by rfl) (fun(n:Int) _=>?_) (Ak ag);refine Ends.eq (T68n.Ai n)<|yz<|Ac.of rfl rfl ?_;show(n,[])=(n,BA n);rw[Gy]
theorem Acm:Cr XF1:=
 Aa T68n.ok (Aa Tl<|Aa (T173.ok Gx)<|Aa (T174.ok Gx)<|by grind [Aa,T133.ok,T124.ok,T134.ok,FM])
theorem ZT{m D:Int}(c:0<D):(m % D=0->(-m)/D= -(m/D)/\(-m) % D=0)/\(m % D≠0->(-m)/D= -(m/D)-1/\(-m) % D=D-m % D):=by
 have e:=yd m D;have f:=yv m (show D≠0 by omega);have d:=yr m c;refine⟨fun h=>?_,fun h=>?_⟩
 ·simp_all [qh,Int.mul_neg]
 ·exact(qh (a:= -m) (b:=D) (r:=D-m % D) (q:= -(m/D)-1) c).2 ah
theorem Acv{m D:Int}(a:0<=m)(b:0<D):(0<=m/D/\m/D<=m)/\(0<=m % D/\m % D<=m/\m % D<D):=by
 have e:=yd m D;have q0:0<=m/D:=qi a ae;have q1:m/D<=m:=Int.ediv_le_self _ a;have d:=yv m (show D≠0 by omega);have c:=yr m b;have:=yc (show 0<=D by omega) q0;omega
theorem fK(n:Bool){v:Int}(h:0<=v):Aj (qw n v)=v:=by
 grind [D5,An]
theorem Eh{n:Int}(h:Aj n<(Av:Int)^9000):Bk (DB n)=true:=by
 grind [PN,Bk]
theorem yD{a b:AL}(h:0<zj a+zj b):Fc a b=DB (zj a+zj b):=by
 unfold Fc;grind [Cn,DB,zj]
theorem PW:((1:Int),BA (1:Int))=DB 1:=by rfl
namespace T184
theorem Uh{a b:AL}(q:Int)(h: -9223372036854775808<q/\q<9223372036854775808)(c:Hb a b=DB q\/(-9223372036854775808<q/\Hb a b=PG (DB<|q+1) (1,[])/\q+1<9223372036854775808)):Hb a b=(q,[]):=by
 rcases c with c|⟨e,c,d⟩
 ·rw[c,CT h]
 ·rw[c,CT ae];unfold PG DH;unfold Fc;rw[wd ⟨rfl,rfl,(by grind [FL])⟩];grind
set_option maxHeartbeats 1000000 in
theorem ok:Ae A1 184 It:=by
 refine AX (X:=XF1) rfl Acm (d:=9) (by rfl) (by rfl) (by rfl) (fun(i:(Int×List Int)×(Int×List Int)) u=>?_) (Ak ag);obtain⟨a,b⟩:=i;have u:(Bk a&&Bk b&&decide (0<zj b))=true:=u;rw[zz,zz,w5]at u;obtain⟨⟨ha,hb⟩,hD⟩:=u;obtain⟨oa,_,na,_,va,ba⟩:=words ha;obtain⟨ob,_,nb,_,vb,bb⟩:=words hb;have R:Aj (zj b)=zj b:=by rw[An];omega
 have J:=AS<|zj a;have e:Aj (zj a)=if zj a<0 then -zj a else zj a:=rfl
 obtain⟨⟨q0,q1⟩,w,F,C⟩:=Acv (D:=zj b) J hD;obtain⟨z1,z2⟩:=ZT (m:=Aj<|zj a) hD;have j:VF (BI<|Aj<|zj a) (BI<|Aj<|zj b)=true:=by
  grind [VF,OP]
 have fin:∀(q r:AL) v ob,Jf It.outs v ob=some (true,(q,r))->q=Hb a b->r=DB (zj a % zj b)->Ac It (a,b) v ob:=fun q r v ob h K M=>Ac.of h rfl (by rw[K,M];rfl)
 have l:Ends XF1 (L1 (decide (zj a<0)) (BI<|Ay (BI<|Aj<|zj a)/Ay (BI<|Aj<|zj b)) (BI<|Ay (BI<|Aj<|zj a) % Ay (BI<|Aj<|zj b)) 0 0 b.1 b.2) (Ac It (a,b)):=by
  rw[va,vb,R];obtain⟨S,_,L⟩:=Dy (n:=Aj (zj a)/zj b) (k:=9000) q0 ae ae;obtain⟨nr,_,vr⟩:=Dy (n:=Aj (zj a) % zj b) (k:=9000) w ae ae;have E:Bk (DB<|qw (decide (zj a<0))<|Aj (zj a) % zj b)=true:=Eh (by rw[fK _ w];omega);have H:Bk (DB<|qw (decide (zj a<0))<|Aj (zj a)/zj b)=true:=Eh (by rw[fK _ q0];omega);have I:Bk ((1:Int),BA (1:Int))=true:=by rw[PW];decide
  have es:Jh (De<|qw (decide (zj a<0))<|Aj (zj a) % zj b,Dd<|qw (decide (zj a<0))<|Aj (zj a) % zj b)=Sp.Pm (qw (decide (zj a<0))<|Aj (zj a) % zj b):=by
   show Sp.Pm (zj<|DB _)=_;rw[Dr]
  refine yf (Al ..)<|zd S<|zd nr ?_;rw[L,vr];refine yf (AA ..)<|zd (Cg E).1 ?_;rw[es];refine ye (fun c=>?_)<|fun c=>?_
  ·have c:=w6 c;have p:qw (decide (zj a<0)) (Aj (zj a) % zj b)<0:=by
    rw[MZ]at c;split at c
    ·assumption
    ·split at c<;>omega
   have f:zj a<0:=by
    rcases yt (zj a) 0 with g|g
    ·exact g
    ·rw[D5,wc<|by simp;omega]at p;omega
   have hr:Aj (zj a) % zj b≠0:=by
    rw[D5,wd<|w4 f]at p;omega
   obtain⟨z3,z4⟩:=z2 hr;refine zd rfl (zd (Ab H I)<|zd (Ab E hb)<|yz<|fin (PG (DB<|qw (decide (zj a<0))<|Aj (zj a)/zj b) (1,BA 1)) (Fc (DB<|qw (decide (zj a<0))<|Aj (zj a) % zj b) b) _ _ rfl ?_ ?_)
   ·unfold Hb;rw[wd ⟨f,hr⟩,Gy,D5,wd<|w4 f]
   ·have ev:zj a= -Aj (zj a):=by rw[e,wd f];omega
    have B:zj (DB<|qw (decide (zj a<0))<|Aj (zj a) % zj b)= -(Aj (zj a) % zj b):=by rw[Dr,D5,wd<|w4 f]
    have N:zj a % zj b=zj b-Aj (zj a) % zj b:=by rw[<-z4, <-ev]
    rw[yD (by rw[B];omega),B,N];congr 1;omega
  ·have c:=w7 c;have p:¬(zj a<0/\Aj (zj a) % zj b≠0):=by
    rintro⟨f,hr⟩;rw[D5,wd<|w4 f,MZ,wd ae]at c;omega
   refine yz<|fin (DB<|qw (decide (zj a<0))<|Aj (zj a)/zj b) (DB<|qw (decide (zj a<0))<|Aj (zj a) % zj b) _ _ rfl ?_ ?_
   ·unfold Hb;rw[wc p]
   ·congr 1;rcases yt (zj a) 0 with g|g
    ·have hr:Aj (zj a) % zj b=0:=by
      rcases yt 0 (Aj (zj a) % zj b)with g2|g2
      ·exact wh ⟨g,by omega⟩ p
      ·omega
     have ev:zj a= -Aj (zj a):=by rw[e,wd g];omega
     have:=(z1 hr).2;rw[<-ev]at this;rw[this,hr,D5];split<;>rfl
    ·rw[D5,wc (by simp;omega),e,wc ae]
 refine Ends.eq (Ai a b)<|ye (fun A=>ye (fun p=>ye (fun x=>?_)<|fun x=>?_)<|fun p=>?_)<|fun A=>?_
 ·have a2:=RG A;have P:=RG p;have x:a.1≠ -9223372036854775808:=by simpa using x
  have T:=Hq (n:=a.1) (by
   have:=oa;unfold je at this;rw[zz]at this;exact this.1)
  have U:=Hq (n:=b.1) (by
   have:=ob;unfold je at this;rw[zz]at this;exact this.1)
  have o:=BZ a2;have s:=BZ P;rw[o]at e;rw[s]at hD C;rw[o,s]at q0 q1 w F z1 z2;rw[o]at C;have t:yu a.1 b.1=if a.1<0 then -(Aj a.1/b.1)else Aj a.1/b.1:=by
   rw[e];split
   ·have:=Int.neg_tdiv (-a.1) b.1;rw[Int.neg_neg]at this;rw[this,qp ae]
   ·exact qp ae
  have hr:y9 a.1 b.1=if a.1<0 then -(Aj a.1 % b.1)else Aj a.1 % b.1:=by
   rw[e];split
   ·have:=Int.neg_tmod (-a.1) b.1;rw[Int.neg_neg]at this;rw[this,qq ae]
   ·exact qq ae
  refine zd (w4 ae) (zd (w4 ae)<|ye (fun c=>?_)<|fun c=>?_)
  ·have c:=w6 c;rw[hr]at c;have f:a.1<0:=by split at c<;>omega
   rw[wd f]at c t hr;rw[wd f]at e;obtain⟨z3,z4⟩:=z2 ae;have ev:a.1= -Aj a.1:=ae
   have O:Aj a.1/b.1<9223372036854775807:=by
    rcases yt (Aj a.1/b.1) 9223372036854775807 with g|g
    ·exact g
    ·have:=yd (Aj a.1) b.1;have:=zh (show 1<=b.1 by omega) q0;omega
   refine yz<|fin (zc .i64<|zc .i64 (yu a.1 b.1)-1,[]) (zc .i64<|y9 a.1 b.1+b.1,[]) _ _ rfl ?_ ?_
   ·rw[t,wr (-(Aj a.1/b.1)) ae ae,wr _ ae ae];refine(Uh _ ae<|.inr ⟨by omega,?_,by omega⟩).symm;unfold Hb;rw[o,s,wd ⟨f,by omega⟩,show -(Aj a.1/b.1)-1+1= -(Aj a.1/b.1)by omega]
   ·rw[hr,wr _ ae ae];have:a.1 % b.1=b.1-Aj a.1 % b.1:=by rw[<-z4, <-ev]
    rw[o,s,this,CT ae];congr 1;omega
  ·have c:=w7 c;rw[hr]at c;refine yz<|fin (zc .i64<|yu a.1 b.1,[]) (y9 a.1 b.1,[]) _ _ rfl ?_ ?_
   ·have z:Hb a b=DB (yu a.1 b.1):=by
     unfold Hb;rw[o,s,t,wc ae,D5];by_cases h:a.1<0
     ·rw[wd<|w4 h,wd h]
     ·rw[wc (by simp;omega),wc h]
    have y: -9223372036854775808<yu a.1 b.1/\yu a.1 b.1<9223372036854775808:=by
     rw[t,e]at*;split<;>split at q1<;>split at q0<;>omega
    rw[wr _ ae ae];exact(Uh _ y<|.inl z).symm
   ·rw[hr];by_cases h:a.1<0
    ·rw[wd h]at c ⊢;have G:Aj a.1 % b.1=0:=ae
     have ev:a.1= -Aj a.1:=ae
     have:=(z1 G).2;rw[<-ev]at this;rw[o,s,this,G];rfl
    ·rw[wc h]at c ⊢;rw[wc h]at e;rw[o,s,e,CT<|by rw[e]at w F;omega]
 ·exact zd oa<|zd ob<|zd j l
 ·exact zd oa<|zd ob<|zd j l
 ·exact zd oa<|zd ob<|zd j l
end T184
theorem AaV:Cr XF2:=
 Aa T184.ok (Aa T215.ok<|Aa T134.ok AI)
theorem AaJ{a:AL}(h:je a=true):WI a=DB (Aj<|zj a):=by
 have i:=AcV h;obtain⟨hr,e⟩:=Es h;unfold WI;by_cases h0:a.1<0
 ·rw[wd h0,An];grind [DH,BZ,CT]
 ·rw[wc h0];obtain⟨s,w⟩:=a;rcases e with e|⟨f,j,b⟩
  ·grind [Gf,An,CT]
  ·obtain⟨_,d,z⟩:=FO f;have b:9223372036854775808<=Ay w:=b;have c:w≠[]:=by rintro rfl;exact wh b af
   have g:s=1:=ae
   subst g;rw[Y1 c,wc af,An];have:=U3 (w:=w) false d z b;grind
theorem oF(n:Int):Jh (De n,Dd n)=Sp.Pm n:=by
 show Sp.Pm (zj<|DB _)=_;rw[Dr]
theorem MX(n:Int):zj (De n,Dd n)=n:=Dr n
theorem gU(m n:Int):cK (De m,Dd m) (De n,Dd n)=De (m % n)/\iJ (De m,Dd m) (De n,Dd n)=Dd (m % n):=by
 grind [De,Dr,Dd,cK,iJ]
theorem HU{n:Int}(h:Bk (DB n)=true):Bk (De n,Dd n)=true:=h
theorem Ql{a:AL}(h:je a=true):YG a=De (Aj<|zj a)/\XR a=Dd (Aj<|zj a):=by
 unfold YG XR;rw[AaJ h];exact⟨rfl,rfl⟩
theorem Xs(x y:Nat):((x:Int) % (y:Int))=((x % y:Nat):Int):=rfl
theorem AcJ(a b:AL)(n:Int)(h:n=Sp.gI (zj a) (zj b)):(De n,Dd n)=(O2 a b,O0 a b):=by subst h;rfl
namespace T171
theorem AaP(n:Nat)(h:(n:Int)<(Av:Int)^9000):Bk (DB (n:Int))=true:=(by grind [Eh,An])
theorem As(g:Nat)(b L:Int)(c:∀n:Nat,(n:Int)<L->Bk (DB (n:Int))=true)(e:∀ob,Q (.agg [.dat i64<|De (g:Int),.dat (.nlist u64)<|Dd (g:Int)]) ob):∀(f x y:Nat),y<f->Nat.gcd x y=g->(x:Int)<L->(y:Int)<L->
  Ends XF2 (L1 b (De (y:Int)) (Dd (y:Int)) (De (x:Int))<|Dd (x:Int)) Q
 |0,x,y,h,_,_,_=>by omega
 |f+1,x,y,l,k,j,a=>by
  have i:Bk (DB (y:Int))=true:=c y a
  refine yf (Al ..)<|zd (Cg<|HU i).1 ?_;rw[oF,(gU _ _).1,(gU _ _).2,MX,Xs];by_cases h0:y=0
  ·subst h0;exact qk rfl (by simp_all)
  ·have d:x % y<y:=Nat.mod_lt _ ae;refine zd ?_ (zd (by grind [HU]) ?_)
   ·simp_all [MZ,wc]
   ·exact As g b L c e f y (x % y) ae (by grind [Nat.gcd_comm,Nat.gcd_rec]) a ae
set_option maxRecDepth 10000 in
theorem ok:Ae A1 171 dV:=by
 refine AX (X:=XF2) rfl AaV (d:=9) (by rfl) (by rfl) (by rfl) (fun(i:(Int×List Int)×(Int×List Int)) c=>?_) (Ak<|by rfl);obtain⟨a,b⟩:=i;have c:(Bk a&&Bk b)=true:=c;rw[zz]at c;obtain⟨ha,hb⟩:=c;have e:=(Cg ha).1;have ob:=(Cg hb).1;have f:=bounds ha;have g:=bounds hb;rw[An]at f g;refine Ends.eq (Ai a b)<|zd e<|zd ob ?_;rw[(Ql e).1,(Ql e).2,(Ql ob).1,(Ql ob).2,An,An];refine As (Nat.gcd (zj a).natAbs (zj b).natAbs) 0 _ AaP (fun ob=>Ac.of rfl rfl (AcJ a b _ ?_)) ((zj b).natAbs+1) _ _ ae rfl f g;rw[HL];rfl
end T171
theorem Ahw(n:Nat)(h:n<9223372036854775808):IW .i64 (n:Int) 1=((n % 2:Nat):Int):=by
 have e:(yi 64 (n:Int)&&&yi 64 1).toNat=n % 2:=by
  rw[BitVec.toNat_and];have b:(yi 64 (n:Int)).toNat=n:=by rw[BitVec.ofInt_natCast,BitVec.toNat_ofNat];exact Nat.mod_eq_of_lt ae
  have a:(yi 64 1).toNat=2^1-1:=af
  rw[b,a,Nat.and_two_pow_sub_one_eq_mod]
 show zc .i64 (((yi 64 (n:Int)&&&yi 64 1).toNat:Nat):Int)=_;rw[e];exact wr _ ae ae
namespace T199
theorem Yn{c:Int}(h:c≠0):1<=Aj c:=by rw[An];omega
theorem iC(c:Int):∀k:Nat,Aj (c^k)=Aj c^k
 |0=>by rw[yh,yh];rfl
 |k+1=>by rw[zq,zq,KT,iC c k]
theorem one_le_pow{c:Int}(h:1<=c):∀k:Nat,1<=c^k
 |0=>by rw[yh];decide
 |k+1=>by
  rw[zq];have:=zh (one_le_pow h k) (show 0<=c by omega);omega
theorem AhN{p c L:Int}{k:Nat}(m:1<L)(h:Aj (p*c^k)<L)(i:c=0->Aj p<=1)(g:c≠0->p≠0):Aj p<L/\(1<=k->Aj c<L)/\(2<=k->Aj (c*c)<L)/\(1<=k->Aj (p*c)<L):=by
 by_cases b:c=0
 ·subst b;have:=i rfl;have e:Aj 0=0:=rfl;exact⟨by omega,fun _=>by rw[e];omega,fun _=>by rw[y7,e];omega,fun _=>by rw[y7,e];omega⟩
 ·have hp:=Yn<|g b;have a:=Yn b;rw[KT,iC]at h;rw[KT,KT];generalize Aj p=P at*;generalize Aj c=C at*;have l:1<=C^k:=one_le_pow a k;have a1:P<=P*C^k:=by
   have:=zm l (show 0<=P by omega);omega
  have f:C^k<=P*C^k:=by
   have:=zh hp (show 0<=C^k by omega);omega
  refine⟨by omega,fun d=>?_,fun d=>?_,fun d=>?_⟩
  ·obtain⟨j,rfl⟩:∃j,k=j+1:=⟨k-1,by omega⟩;rw[zq]at f h;have:=zh (one_le_pow a j) (show 0<=C by omega);omega
  ·obtain⟨j,rfl⟩:∃j,k=j+2:=⟨k-2,by omega⟩;have e:C^(j+2)=C^j*(C*C):=by rw[zq,zq,zl]
   rw[e]at f h;have:=zh (one_le_pow a j) (yc (show 0<=C by omega) (show 0<=C by omega));omega
  ·obtain⟨j,rfl⟩:∃j,k=j+1:=⟨k-1,by omega⟩;have e:P*C^(j+1)=C^j*(P*C):=by rw[zq,yn]
   rw[e]at h;have:=zh (one_le_pow a j) (yc (show 0<=P by omega) (show 0<=C by omega));omega
theorem mE{p c:Int}{k j:Nat}(h:k=2*j):p*(c*c)^j=p*c^k:=by
 subst h;rw[Int.pow_mul,zq,zq,yh,z7]
theorem zU{p c:Int}{k j:Nat}(h:k=2*j+1):p*c*(c*c)^j=p*c^k:=by
 subst h;rw[zq,Int.pow_mul,show c^2=c*c by rw[zq,zq,yh,z7],zl,zn c]
theorem Ag9{x:Int}(h:x<(18446744073709551616:Int)^(4000:Nat)):x<(Av:Int)^9000:=
 Int.lt_of_lt_of_le h (AY (b:=Av) af ae)
theorem As(o1 R:Int)(hR:Aj R<(18446744073709551616:Int)^(4000:Nat))(o:∀ob,Q (.agg [.dat i64<|De R,.dat (.nlist u64)<|Dd R]) ob):
  ∀(f k:Nat) (p:Int) (a:AL),k<f->k<=100000->(1<=k->Bk a=true)->p*zj a^k=R->(zj a=0->Aj p<=1)->(zj a≠0->p≠0)->
   Ends XF3 (L1 (k:Int) (De p) (Dd p) o1 a.1 a.2) Q
 |0,k,p,a,h,_,_,_,_,_=>by omega
 |f+1,k,p,a,D,x,w,i,t,l=>by
  have C:(1:Int)<(18446744073709551616:Int)^(4000:Nat):=Int.lt_of_lt_of_le (show(1:Int)<18446744073709551616^(1:Nat)by decide) (AY (b:=18446744073709551616) af ae);rw[<-i]at hR;obtain⟨s1,s2,s3,s4⟩:=AhN C hR t l;by_cases h0:k=0
  ·subst h0;rw[yh,jc]at i;subst i;exact yf (Al ..) (qk (by simp)<|yz<|o _)
  ·have y:Bk (De p,Dd p)=true:=Eh<|Ag9 s1;have j:Bk a=true:=w ae;have B:qm (k:Int) ((2:Int)^(1:Nat))=((k/2:Nat):Int):=by
    rw[yx _ af];rfl
   have s:(FT (De p,Dd p) a,FV (De p,Dd p) a)=DB (p*zj a):=by
    show DB (zj (DB p)*zj a)=_;rw[Dr]
   have m:FT (De p,Dd p) (a.1,a.2)=De (p*zj a):=wi Prod.fst s;have r:FV (De p,Dd p) (a.1,a.2)=Dd (p*zj a):=wi Prod.snd s;have n:zj (Gk a a)=zj a*zj a:=D9 a a;have u:∀q:Int,1<k->q*(zj a*zj a)^(k/2)=p*zj a^k->(zj a=0->Aj q<=1)->(zj a≠0->q≠0)->Ends XF3 (L1 ((k/2:Nat):Int) (De q) (Dd q) o1 (FT (a.1,a.2) (a.1,a.2))<|FV (a.1,a.2) (a.1,a.2)) Q:=by
    intro q e g v A;refine As o1 R (by rw[i]at hR;exact hR) o f (k/2) q (Gk a a) ae ae (fun _=>Eh<|Ag9<|s3 ae) (by rw[n,g,i]) (fun z=>v ?_)<|fun z=>A ?_
    ·rw[n]at z;rcases Int.mul_eq_zero.1 z with z|z<;>exact z
    ·rintro z2;rw[n,z2]at z;exact z rfl
   have st:∀q:Int,k=1->q=R->Ends XF3 (L1 ((k/2:Nat):Int) (De q) (Dd q) o1 a.1 a.2) Q:=by
    intro q e g;subst e g;exact yf (Al ..) (qk (by simp)<|yz<|o _)
   refine yf (Al ..) (zd (w4 ae) ?_);rw[Ahw k ae,B,m,r];refine ye (fun c=>?_)<|fun c=>?_
   ·have c:((k % 2:Nat):Int)=1:=by simpa using c
    refine zd (Ab y j)<|ye (fun d=>zd (Ab j j)<|zd rfl ?_)<|fun d=>zd rfl ?_
    ·have d:=w6 d;refine u _ ae (zU ae) (fun z=>by rw[z,y7];decide)<|fun z=>?_;exact Int.mul_ne_zero (l z) z
    ·have d:=w7 d;have e:k=1:=ae
     refine st _ e ?_;rw[<-i,e,zq,yh,z7]
   ·have c:((k % 2:Nat):Int)≠1:=by simpa using c
    refine ye (fun d=>zd (Ab j j)<|zd rfl ?_)<|fun d=>?_
    ·have d:=w6 d;exact u _ ae (mE ae) t l
    ·have d:=w7 d;omega
theorem AbC:Cr XF3:=Aa T68n.ok<|Aa T125.ok AI
theorem ok:Ae A1 199 tO:=by
 refine C3 AbC<|fun(i:(Int×List Int)×Int) b=>?_;obtain⟨a,k⟩:=i;have b:(Bk a&&(decide (0<=k)&&decide (k<=100000)&&decide (Aj (Sp.pI (zj a) k)<(18446744073709551616:Int)^(4000:Nat))))=true:=b;rw[zz,zz,zz,w5,w5,w5,Z8]at b;obtain⟨ha,⟨k0,k1⟩,hR⟩:=b;obtain⟨n,rfl⟩:=Int.eq_ofNat_of_zero_le k0;have c:BA 1=Dd 1:=by rw[Gy];rfl
 refine Ends.eq (Ai a n)<|zd rfl ?_;rw[c];refine As (Q:=Ac tO (a,(n:Int))) 0 (zj a^n) hR (fun ob=>Ac.of rfl rfl ?_) (n+1) n 1 a ae ae (fun _=>ha) (z7 _) (fun _=>by decide) (fun _=>by decide);show DB _=DB (Sp.pI (zj a) (n:Int));rw[Z8];rfl
end T199
end Go.Pe
