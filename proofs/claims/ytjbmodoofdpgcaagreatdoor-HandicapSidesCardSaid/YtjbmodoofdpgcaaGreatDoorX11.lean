import Derived.Test.YtjbmodoofdpgcaaGreatDoorX10
/- A part of a proof; no law is stated here. -/
noncomputable section
open Go.IntKind renaming wrap -> zc, u64 -> zj
open Go.Pe.Ends renaming tt -> zd, Ap -> zw, ite -> zx, leaf -> yf, ff -> yt, eq -> qu
open Go.Sp renaming val -> ze, B9 -> zi, vI -> zk, u64 -> z7, A3 -> qf, sg -> je
open Int renaming toNat_natCast -> zf, mul_le_mul_of_nonneg_right -> zg, mul_le_mul_of_nonneg_left -> zh, mul_add -> zm, le_of_lt -> zo, mul_assoc -> zp, mul_comm -> zq, pow_succ -> zt, one_mul -> zy, mul_nonneg -> zz, add_mul -> z8, mul_ediv_add_emod -> yb, lt_or_le -> ye, mul_left_comm -> yh, pow_zero -> yi, emod_lt_of_pos -> yk, tdiv_eq_ediv_of_nonneg -> ym, tmod_eq_emod_of_nonneg -> yn, lt_of_mul_lt_mul_left -> yo, emod_nonneg -> yp, mul_sub -> yq, mul_zero -> yu, ediv_lt_of_lt_mul -> yw, tdiv -> yy, mul_one -> yz, pow_pos -> qc, fdiv_eq_ediv_of_nonneg -> qd, ediv_emod_unique -> qe, add_assoc -> qg, ediv_nonneg -> qh, sub_mul -> qj, tmod -> ql, add_zero -> qm, zero_mul -> qt, fdiv -> qv, mul_lt_mul_of_pos_left -> qy, le_refl -> q9, ediv_eq_zero_of_lt -> jg, mul_neg -> jj
open List renaming replicate -> zl, getD_eq_getElem?_getD -> zr, take_of_length_le -> zu, append_assoc -> yd, length_take -> yg, getElem?_eq_getElem -> yr, take_append_drop -> qn, mem_cons -> qo, replicate_succ' -> qp, drop_eq_getElem_cons -> qz, length_eq_zero_iff -> jf, mem_append -> jh
open Bool renaming and_eq_true -> zn
open Go.Pe.Sh renaming int -> z6, list -> yx
open Nat renaming add -> yc, min_eq_left -> yv, add_sub_cancel -> qw
open BitVec renaming ofInt -> yj
open Option renaming getD -> qi
open Min renaming min -> qq
open Go.Pe.PV renaming agg -> jc
open Go.Pe.Ac renaming of -> ji
variable {Q:Go.Pe.PV->Go.Pe.Ob->Prop}
namespace Go.Pe
open Sp
open Go.Det
section
open List Int Prod
namespace T97n
def T[Srt](n:Int):Tr:=tree XF0 false 9 97<|Ae ([z6 IntKind.i64]) n
theorem Aj[Srt](n:Int):T n=.leaf (jc [.dat i64 n,.nil]) []:=by kernel_rfl
end T97n
namespace T173
def T[Srt](a b:AF):Tr:=tree zN false 9 173<|Ae ([A0,A0]) (a,b)
def L1[Srt](f:Bool)(b c:List Int)(d o1 e:Int)(a:List Int):Tr:=re ((T (0,[]) (0,[])).L.L.R.L.L.L)<|AE 84 [(3,.ptr 0 0),(4,.ptr 1 0),(5,.ptr 2 0),(8,.dat Sh.bool f),(12,.dat (yx<|z6 zj) b),(13,.dat (yx<|z6 zj) c)] [(2,.box [.dat i64 d,.nil]),(1,.box [.dat i64 o1,.nil]),(0,.box [.dat i64 e,.dat wU a])] 3
theorem Aj[Srt](a b:AF):T a b=let b':=BW<|Ag<|zk a;let d:=BW<|Ag<|zk b;let e:=yy (fst a)<|fst b;let c:Tr:=.ck (Du a)<|.ck (Du b)<|.ck (qT b' d)<|L1 (decide (zk a<0)) (BW<|As b'/As d) (BW<|As b' % As d) 0 0 (fst b)<|snd b;.ite (!decide (0<length (snd a))) (.ite (!decide (0<length (snd b))) (.ite (fst a !=(-9223372036854775808)) (.cd (fst b≠0)<|.cd (fst b≠0)<|.di (ql (fst a) (fst b)<0) (.leaf (.tup [jc [.dat i64<|zc .i64<|zc .i64 e-1,.nil],jc [.dat i64<|zc .i64<|ql (fst a) (fst b)+fst b,.nil]]) [])<|.leaf (.tup [jc [.dat i64<|zc .i64 e,.nil],jc [.dat i64<|ql (fst a)<|fst b,.nil]]) []) c) c) c:=by kernel_rfl
def L2[Srt](d:Int)(c:List Int)(f:Int)(a:List Int)(g o1 e:Int)(b:List Int):Tr:=re ((stepT zN<|L1 false [] [] 0 0 0 []).L.L)<|AE 84 [(3,.ptr 0 0),(4,.ptr 1 0),(5,.ptr 2 0),(14,.ptr 3 0),(15,.ptr 4 0)] [(4,.box [.dat i64 d,.dat wU c]),(3,.box [.dat i64 f,.dat wU a]),(2,.box [.dat i64 g,.nil]),(1,.box [.dat i64 o1,.nil]),(0,.box [.dat i64 e,.dat wU b])] 5
theorem Am[Srt](d:Bool)(b c:List Int)(g o1 e:Int)(a:List Int):stepT zN (L1 d b c g o1 e a)=let f:=je d<|As c;let b':=je d<|As b;.ck (B7 b) (.ck (B7 c)<|L2 (CL f) (CH f) (CL b') (CH b') g o1 e a):=by kernel_rfl
theorem AU[Srt](d:Int)(a:List Int)(e:Int)(b:List Int)(g o1 f:Int)(c:List Int):stepT zN (L2 d a e b g o1 f c)=.ck (Du (d,a)) (.di (IZ (d,a)<0) (.ck true<|.ck (Bi (e,b)&&Bi (1,BV 1))<|.ck (Bi (d,a)&&Bi (f,c))<|.leaf (.tup [jc [.dat i64<|YO (e,b) (1,BV 1),.dat wU<|Yb (e,b) (1,BV 1)],jc [.dat i64<|JH (d,a) (f,c),.dat wU<|JQ (d,a) (f,c)]]) [])<|.leaf (.tup [jc [.dat i64 e,.dat wU b],jc [.dat i64 d,.dat wU a]]) []):=by kernel_rfl
end T173
namespace T117
def T[Srt](a b:AF):Tr:=tree XF2 false 9 117<|Ae ([A0,A0]) (a,b)
def L1[Srt](c o1:Int)(b:List Int)(d:Int)(a:List Int):Tr:=re ((T (0,[]) (0,[])).L.L)<|AE 23 [(2,.ptr 0 0),(3,.ptr 1 0),(4,.ptr 2 0)] [(2,.box [.dat i64 c,.nil]),(1,.box [.dat i64 o1,.dat wU b]),(0,.box [.dat i64 d,.dat wU a])] 3
theorem Aj[Srt](a b:AF):T a b=.ck (Du a) (.ck (Du b)<|L1 0 (Od b) (NR b) (Od a)<|NR a):=by kernel_rfl
theorem Am[Srt](d o1:Int)(a:List Int)(c:Int)(b:List Int):stepT XF2 (L1 d o1 a c b)=.ck (Du (o1,a)) (.ite (IZ (o1,a) !=0) (.ck (Bi (c,b)&&Bi (o1,a)&&decide (0<zk (o1,a)))<|L1 d (jJ (c,b) (o1,a)) (kB (c,b) (o1,a)) o1 a)<|.leaf (jc [.dat i64 c,.dat wU b]) []):=by kernel_rfl
end T117
namespace T156
def T[Srt](a:AF)(k:Int):Tr:=tree zL false 9 156<|Ae ([A0,z6 IntKind.i64]) (a,k)
def L1[Srt](v1 d:Int)(a:List Int)(o1 c:Int)(b:List Int):Tr:=re ((T (0,[]) 0).L)<|AE 23 [(1,.dat i64 v1),(2,.ptr 0 0),(4,.ptr 1 0),(5,.ptr 2 0)] [(2,.box [.dat i64 d,.dat wU a]),(1,.box [.dat i64 o1,.nil]),(0,.box [.dat i64 c,.dat wU b])] 3
theorem Aj[Srt](a:AF)(k:Int):T a k=.ck true (L1 k 1 (BV 1) 0 (fst a)<|snd a):=by kernel_rfl
theorem Am[Srt](v1 d:Int)(b:List Int)(o1 c:Int)(a:List Int):stepT zL (L1 v1 d b o1 c a)=let e:=qv v1<|2^1;let b':=Bi (c,a)&&Bi (c,a);let i:=ER (d,b) (c,a);let f:=EP (d,b) (c,a);let g:=ER (c,a) (c,a);let h:=EP (c,a) (c,a);.di (v1>0) (.ite (Hc IntKind.i64 v1 1==1) (.ck (Bi (d,b)&&Bi (c,a))<|.di (v1>1) (.ck b'<|.ck true<|L1 e i f o1 g h)<|.ck true<|L1 e i f o1 c a)<|.di (v1>1) (.ck b'<|.ck true<|L1 e d b o1 g h)<|.ck true<|L1 e d b o1 c a) (.leaf (jc [.dat i64 d,.dat wU b]) []):=by kernel_rfl
end T156
namespace T192
def T[Srt](a b:List Int):Tr:=tree JE false 9 192<|Ae ([yx<|z6 zj,yx<|z6 zj]) (a,b)
def L1[Srt](v0 v1:List Int)(a:Nat)(b d:Int)(c:List Int):Tr:=re ((T [] []).L.R.L.L)<|AE 137 [(0,.dat (yx<|z6 zj) v0),(1,.dat (yx<|z6 zj) v1),(6,.sl 0 1 0 a none),(7,.dat (z6 zj) b),(8,.dat i64 d)] [(0,.arr false 200 (z6 zj) c)] 1
def L2[Srt](a b:List Int)(v1:Int)(c:Nat)(e:List Int)(f d:Int)(g:List Int):Tr:=re ((T a b).L.R.R.L.L.L)<|AE 40 [(1,.dat i64 v1),(5,.sl 0 1 0 c none),(12,.dat (yx<|z6 zj) e),(13,.dat i64 f),(14,.dat i64 d)] [(0,.arr false 200 (z6 zj) g)] 1
theorem Aj[Srt](a b:List Int):T a b=let c:=(length b:Int);let b':=(length a:Int);let d:=zc .i64<|c+1;let e:=getD b (toNat<|zc .i64<|c-1) 0;.ck (B7 a&&B7 b) (.di (Cb (As a) (As b)<0) (.leaf (.tup [.nil,.dat (yx<|z6 zj) a]) [])<|.ite (c==1) (.ck (decide (0<=b')&&decide (b'=b')&&decide (8*toNat b'<=281474976710656)&&decide (b'<9223372036854775808))<|L1 a b (toNat b') 0 (zc .i64<|b'-1)<|replicate (toNat b') 0)<|.ck (decide (0<=zc .i64 (c-1))&&decide (zc .i64 (c-1)<c))<|.ck (z7 e)<|.ck (decide (0<=zc .i64 (c+1))&&decide (zc .i64 (c+1)=zc .i64 (c+1))&&decide (8*toNat d<=281474976710656)&&decide (zc .i64 (c+1)<9223372036854775808))<|L2 a b (Sp.lz e) (toNat d) b c 0<|replicate (toNat d) 0):=by kernel_rfl
theorem Am[Srt](v0 v1:List Int)(a:Nat)(c b:Int)(d:List Int):stepT JE (L1 v0 v1 a c b d)=let e:=getD v0 (toNat b) 0;let b':=yx<|z6 zj;.di (b>=0) (.ck (decide (0<=b)&&decide (b<(length v0:Int)))<|.cd (0<(length v1:Int))<|.ck (z7 c&&z7 e&&z7 (getD v1 0 0)&&decide (c<getD v1 0 0))<|.ck (decide (0<=b)&&decide (b<(↑a:Int)))<|.cd (toNat b<length d)<|L1 v0 v1 a (Sp.dr c e<|getD v1 0 0) (zc .i64<|b-1)<|set d (toNat b)<|Sp.dq c e<|getD v1 0 0) (.ck (decide (0+a<=length d)&&true&&CP (take a d))<|.ck (decide (1<=1)&&true&&CP [c])<|.leaf (.tup [.dat b'<|Aw<|take a d,.dat b'<|Aw [c]]) []):=by kernel_rfl
def L3[Srt](a b:List Int)(v1:Int)(j:Nat)(g:List Int)(l k:Int)(m:List Int)(i:Int)(c:Nat)(f:List Int)(e:Int)(d:Int)(o1:List Int)(h:List Int):Tr:=re ((stepT JE<|L2 a b v1 j g l k m).R.L.L)<|AE 40 [(1,.dat i64 i),(5,.sl 1 1 0 c none),(12,.dat (yx<|z6 zj) f),(13,.dat i64 e),(14,.dat i64 d)] [(1,.arr false 200 (z6 zj) o1),(0,.arr true 200 (z6 zj) h)] 2
theorem AU[Srt](a b:List Int)(v1:Int)(d:Nat)(e:List Int)(f c:Int)(g:List Int):stepT JE (L2 a b v1 d e f c g)=let i:=set g (toNat c)<|Zw zj (getD g (toNat c) 0)<|zc .u64<|getD e (toNat c) 0*2^qq (toNat v1) 64;let b':=(length a:Int)+1;let h:=zc .i64<|c+1;let k:=decide (0<=c)&&decide (c<(↑d:Int));let l:=decide (toNat c<length g);let j:=zc .i64 b';.di (c<f) (.ck (decide (0<=c)&&decide (c<(length e:Int)))<|.ck k<|.ck l<|.cd (0<=v1)<|.ck k<|.ck l<|.di (v1>0) (.cd (0<=zc .i64 (64-v1))<|.ck (decide (0<=zc .i64 (c+1))&&decide (zc .i64 (c+1)<(↑d:Int)))<|.cd (toNat h<length i)<|L2 a b v1 d e f h<|set i (toNat h)<|qv (getD e (toNat c) 0)<|2^qq (toNat<|zc .i64<|64-v1) 64)<|L2 a b v1 d e f h i) (.ck (decide (0+d<=length g)&&true&&CP (take d g))<|.ck (decide (0<=zc .i64 b')&&decide (zc .i64 b'=zc .i64 b')&&decide (8*toNat j<=281474976710656)&&decide (zc .i64 b'<9223372036854775808))<|L3 a b v1 d e f c g (Sp.lz<|getD b (toNat<|zc .i64<|(length b:Int)-1) 0) (toNat j) a ((length a:Int)) 0 (replicate (toNat j) 0) g):=by kernel_rfl
def L4[Srt](v9:Int)(c:List Int)(b:Nat)(e:Int)(a:Nat)(d:Int)(o1 f:List Int):Tr:=re ((stepT JE<|L3 [] [] 0 0 [] 0 0 [] 0 0 [] 0 0 [] []).R.L)<|AE 137 [(9,.dat i64 v9),(10,.dat (yx<|z6 zj) c),(11,.sl 0 1 0 b none),(12,.dat i64 e),(13,.sl 1 1 0 a none),(14,.dat i64 d)] [(1,.arr false 200 (z6 zj) o1),(0,.arr false 200 (z6 zj) f)] 2
theorem BH[Srt](a b:List Int)(v1:Int)(h:Nat)(i:List Int)(l k:Int)(n:List Int)(f:Int)(d:Nat)(e:List Int)(g:Int)(c:Int)(o1:List Int)(j:List Int):stepT JE (L3 a b v1 h i l k n f d e g c o1 j)=let b':=set o1 (toNat c)<|Zw zj (getD o1 (toNat c) 0)<|zc .u64<|getD e (toNat c) 0*2^qq (toNat f) 64;let o:=zc .i64<|c+1;let s:=decide (0<=c)&&decide (c<(↑d:Int));let r:=decide (toNat c<length o1);let h':=Aw<|take h n;let p:=(↑(length h'):Int);let m:=zc .i64 ((length a:Int)-p)+1;let q:=zc .i64 m;.di (c<g) (.ck (decide (0<=c)&&decide (c<(↑(length e):Int)))<|.ck s<|.ck r<|.cd (0<=f)<|.ck s<|.ck r<|.di (f>0) (.cd (0<=zc .i64 (64-f))<|.ck (decide (0<=zc .i64 (c+1))&&decide (zc .i64 (c+1)<(↑d:Int)))<|.cd (toNat o<length b')<|L3 a b v1 h i l k n f d e g o (set b' (toNat o)<|qv (getD e (toNat c) 0)<|2^qq (toNat<|zc .i64<|64-f) 64) j)<|L3 a b v1 h i l k n f d e g o b' j) (.ck (decide (0<=zc .i64 m)&&decide (zc .i64 m=zc .i64 m)&&decide (8*toNat q<=281474976710656)&&decide (zc .i64 m<9223372036854775808))<|L4 (Sp.lz<|getD b (toNat<|zc .i64<|(length b:Int)-1) 0) h' d p (toNat q) (zc .i64<|(length a:Int)-p) (replicate (toNat q) 0) o1):=by kernel_rfl
def L5[Srt](v9:Int)(h:List Int)(b:Nat)(c:Int)(a:Nat)(j:Int)(o1 k:List Int)(i d g:Nat)(v1:List Int)(v5 l n m:Int)(e:List Int)(f:List Int):Tr:=re ((stepT JE<|L4 v9 h b c a j o1 k).L.L.L.L.L.L.L.L.L.L)<|AE 186 [(0,.sl 0 1 i d<|Option.some g),(1,.dat (yx<|z6 zj) v1),(5,.dat i64 v5),(6,.dat (z6 zj) l),(7,.dat (z6 zj) n),(8,.dat (z6 zj) m)] [(1,.arr false 200 (z6 zj) e),(0,.arr false 200 (z6 zj) f)] 2
def L6[Srt](v9:Int)(b:Nat)(d:Int)(a:Nat)(e c:Int)(o1 f:List Int):Tr:=re ((stepT JE<|L4 0 [] 0 0 0 0 [] []).R)<|AE 137 [(9,.dat i64 v9),(11,.sl 0 1 0 b none),(12,.dat i64 d),(13,.sl 1 1 0 a none),(96,.dat i64 e),(97,.dat i64 c)] [(1,.arr false 200 (z6 zj) o1),(0,.arr false 200 (z6 zj) f)] 2
theorem CA[Srt](v9:Int)(c:List Int)(a:Nat)(e:Int)(d:Nat)(b:Int)(o1 f:List Int):stepT JE (L4 v9 c a e d b o1 f)=let g:=(length c:Int);let i:=yc 0<|toNat b;let o:=Nat.sub (qi none a)<|toNat b;let p':=zc .i64 (b+e)+1;let k:=toNat<|zc .i64<|g-1;let l:=zc .i64 p';let h':=yc (toNat g) i;let l':=decide (yc (toNat g) i<length f);let n':=decide (0<=zc .i64 (g-1));let b':=Nat.sub (toNat l)<|toNat b;let m:=n'&&decide (zc .i64 (g-1)<g);let j:=getD f (yc k i) 0;let h:=getD c k 0;let o':=decide (yc k i<length f);let n:=getD f h' 0;let p:=n'&&decide (zc .i64 (g-1)<(↑b':Int));let q:=decide (0<=g)&&decide (g<(↑b':Int));.di (b>=0) (.ck (decide (0<=b)&&decide (0<=zc .i64 p')&&true&&decide (toNat b<=toNat l)&&decide (toNat l<=qi none a)&&decide (qi none a<=qi none a)&&true)<|.ck q<|.ck l'<|.ck m<|.di (getD f h' 0>=getD c k 0) (.ck p<|.ck o'<|.ck m<|.ck (z7 j&&z7 h&&decide ((0:Sh.T (Bz [u64]))<=0)&&decide (0<=(1:Sh.T (Bz [u64]))))<|L5 v9 c a e d b o1 f i b' o c g 18446744073709551615 (HX j h 0) (N5 j h 0) o1 f)<|.ck q<|.ck l'<|.ck p<|.ck o'<|.ck m<|.ck (z7 n&&z7 j&&z7 h&&decide (getD f h' 0<getD c k 0))<|L5 v9 c a e d b o1 f i b' o c g (Sp.dq n j h) (Sp.dr n j h) 0 o1 f) (L6 v9 a e d e 0 o1 f):=by kernel_rfl
def L7[Srt](v9:Int)(j:List Int)(e:Nat)(f:Int)(c:Nat)(l:Int)(o1 o:List Int)(k g i:Nat)(v1:List Int)(v5 p m:Int)(d:Int)(b a:Int)(n:List Int)(h:List Int):Tr:=re ((stepT JE<|L5 v9 j e f c l o1 o 0 0 0 [] 0 0 0 0 [] []).L.L.L.L)<|AE 186 [(0,.sl 0 1 k g<|Option.some i),(1,.dat (yx<|z6 zj) v1),(5,.dat i64 v5),(6,.dat (z6 zj) p),(11,.dat (z6 zj) m),(12,.dat (z6 zj) d),(104,.dat i64 b),(105,.dat i64 a)] [(1,.arr false 200 (z6 zj) n),(0,.arr false 200 (z6 zj) h)] 2
theorem FO[Srt](v9:Int)(h:List Int)(d:Nat)(f:Int)(c:Nat)(i:Int)(o1 n:List Int)(b e g:Nat)(v1:List Int)(v5 j l r:Int)(k:List Int)(a:List Int):stepT JE (L5 v9 h d f c i o1 n b e g v1 v5 j l r k a)=let b':=toNat<|zc .i64<|v5-2;let p:=L7 v9 h d f c i o1 n b e g v1 v5 j 0 0 v5 0 k a;let o:=getD v1 (toNat<|zc .i64<|v5-1) 0;let s:=decide (0<=zc .i64 (v5-2));let q:Tr:=.ck (decide (0<=zc .i64 (v5-1))&&decide (zc .i64 (v5-1)<(length v1:Int)))<|.ck (z7 l&&z7 o&&decide ((0:Sh.T (Bz [u64]))<=0)&&decide (0<=(1:Sh.T (Bz [u64]))))<|L5 v9 h d f c i o1 n b e g v1 v5 (zc .u64<|j-1) (HX l o 0) (N5 l o 0) k a;let m:=getD v1 b' 0;.ite (r==0) (.ck (s&&decide (zc .i64 (v5-2)<(length v1:Int)))<|.ck (z7 j&&z7 m)<|.di (Q0 j m<l) p<|.ite (Q0 j m==l) (.ck (s&&decide (zc .i64 (v5-2)<(↑e:Int)))<|.cd (yc b' b<length a)<|.di (H8 j m<=getD a (yc b' b) 0) p q) q) p:=by kernel_rfl
theorem Lr[Srt](v9:Int)(b:Nat)(d:Int)(c:Nat)(e a:Int)(o1 f:List Int):stepT JE (L6 v9 b d c e a o1 f)=let g:=set f (toNat a)<|qv (getD f (toNat a) 0)<|2^qq (toNat v9) 64;let b':=decide (0<=a)&&decide (a<(↑b:Int));let h:=zc .i64<|a+1;let i:=decide (zc .i64 (a+1)<(↑b:Int));let l:=decide (toNat a<length f);let h':=yx<|z6 zj;let k:=L6 v9 b d c e h o1 g;let j:=decide (toNat a<length g);.di (a<e) (.ck b'<|.ck l<|.cd (0<=v9)<|.ck b'<|.ck l<|.di (v9>0) (.ite i (.ck b'<|.ck j<|.ck (decide (0<=zc .i64 (a+1))&&i)<|.cd (toNat h<length g)<|.cd (0<=zc .i64 (64-v9))<|.ck b'<|.ck j<|L6 v9 b d c e h o1<|set g (toNat a)<|Zw zj (getD g (toNat a) 0)<|zc .u64<|getD g (toNat h) 0*2^qq (toNat<|zc .i64<|64-v9) 64) k) k) (.ck (decide (0<=d)&&true&&decide (0<=toNat d)&&decide (toNat d<=qi none b)&&decide (qi none b<=qi none b)&&true)<|.ck (decide (0+c<=length o1)&&true&&CP (take c o1))<|.ck (decide (0+toNat d<=length f)&&true&&CP (take (toNat d) f))<|.leaf (.tup [.dat h'<|Aw<|take c o1,.dat h'<|Aw<|take (toNat d) f]) []):=by kernel_rfl
def L8[Srt](v9:Int)(i:List Int)(d:Nat)(e:Int)(c:Nat)(l:Int)(o1 n:List Int)(k f h:Nat)(v1:List Int)(v5 o j b a:Int)(m:List Int)(g:List Int):Tr:=re ((stepT JE<|L7 v9 i d e c l o1 n 0 0 0 [] 0 0 0 0 0 0 [] []).R.L.L.L.L.L.R)<|AE 186 [(0,.sl 0 1 k f<|Option.some h),(1,.dat (yx<|z6 zj) v1),(5,.dat i64 v5),(6,.dat (z6 zj) o),(17,.dat (z6 zj) j),(156,.dat i64 b),(157,.dat i64 a)] [(1,.arr false 200 (z6 zj) m),(0,.arr false 200 (z6 zj) g)] 2
theorem FV[Srt](v9:Int)(m:List Int)(h:Nat)(l:Int)(e:Nat)(d:Int)(o1 p:List Int)(g i n:Nat)(v1:List Int)(v5 o c:Int)(b:Int)(j a:Int)(k:List Int)(f:List Int):stepT JE (L7 v9 m h l e d o1 p g i n v1 v5 o c b j a k f)=let b':=yc (toNat v5) g;let s:=getD v1 (toNat a) 0;let y:=decide (yc (toNat a) g<length f);let x:=decide (yc (toNat v5) g<length f);let h':=decide (0<=a)&&decide (a<(↑i:Int));let v:=(0:Sh.T (Bz [u64]));let q:=(1:Sh.T (Bz [u64]));let w:=decide (0<=v5)&&decide (v5<(↑i:Int));let n':=yc (toNat a) g;let r:=H8 o s;let u:=getD f n' 0;let t:=getD f b' 0;let z:=set f b'<|S5 t b c;let l':=HX r b 0;.di (a<j) (.ck (decide (0<=a)&&decide (a<(length v1:Int)))<|.ck (z7 o&&z7 s)<|.ck (z7 r&&z7 b&&decide (v<=0)&&decide (0<=q))<|.ck h'<|.ck y<|.ck (z7 u&&z7 l'&&decide (v<=c)&&decide (c<=q))<|.ck h'<|.ck y<|L7 v9 m h l e d o1 p g i n v1 v5 o (P0 u l' c) (zc .u64<|Q0 o s+N5 r b 0) j (zc .i64<|a+1) k<|set f n'<|S5 u l' c) (.ck w<|.ck x<|.ck (z7 t&&z7 b&&decide (v<=c)&&decide (c<=q))<|.ck w<|.ck x<|.ite (P0 t b c==0) (.ck (decide (0<=d)&&decide (d<(↑e:Int)))<|.cd (toNat d<length k)<|L4 v9 m h l e (zc .i64<|d-1) (set k (toNat d) o) z)<|L8 v9 m h l e d o1 p g i n v1 v5 o 0 v5 0 k z):=by kernel_rfl
theorem MD[Srt](v9:Int)(l:List Int)(h:Nat)(k:Int)(d:Nat)(c:Int)(o1 q:List Int)(f i m:Nat)(v1:List Int)(v5 n e g a:Int)(j:List Int)(b:List Int):stepT JE (L8 v9 l h k d c o1 q f i m v1 v5 n e g a j b)=let b':=decide (yc (toNat a) f<length b);let p:=getD v1 (toNat a) 0;let r:=decide (yc (toNat v5) f<length b);let t:=decide (0<=a)&&decide (a<(↑i:Int));let u:=decide (0<=v5)&&decide (v5<(↑i:Int));let s:=yc (toNat a) f;let h':=yc (toNat v5) f;let o:=getD b s 0;.di (a<g) (.ck t<|.ck b'<|.ck (decide (0<=a)&&decide (a<(length v1:Int)))<|.ck (z7 o&&z7 p&&decide ((0:Sh.T (Bz [u64]))<=e)&&decide (e<=(1:Sh.T (Bz [u64]))))<|.ck t<|.ck b'<|L8 v9 l h k d c o1 q f i m v1 v5 n (N5 o p e) g (zc .i64<|a+1) j<|set b s<|HX o p e) (.ck u<|.ck r<|.ck u<|.ck r<|.ck (decide (0<=c)&&decide (c<(↑d:Int)))<|.cd (toNat c<length j)<|L4 v9 l h k d (zc .i64<|c-1) (set j (toNat c)<|zc .u64<|n-1)<|set b h'<|zc .u64<|getD b h' 0+e):=by kernel_rfl
end T192
end
namespace T192
theorem dqr{r x d:Int}(a:0<d)(b:0<=r/\r<d)(c:0<=x/\x<18446744073709551616):Sp.dq r x d*d+Sp.dr r x d=r*18446744073709551616+x/\0<=Sp.dq r x d/\Sp.dq r x d<18446744073709551616/\0<=Sp.dr r x d/\Sp.dr r x d<d:=by
 unfold Sp.dq Sp.dr;have h:=yb (r*18446744073709551616+x) d;rw[zq]at h;refine⟨h,qh ae ae,yw a ae,yp _ ae,yk _ a⟩
theorem Aq[Srt](a:List Int)(d:Int)(j:Av Ao a)(g:0<d/\d<18446744073709551616)(o:a.length<=20000)(k:∀q r ob,Av Ao q->(0<=r/\r<d)->As a=As q*d+r->Q (.tup [.dat C4<|Aw q,.dat C4<|Aw [r]]) ob):∀(i:Nat) (q:List Int) (r:Int),i+q.length=a.length->Av Ao q->(0<=r/\r<d)->ze Ao (a.drop i)=ze Ao q*d+r->
  Ends JE (L1 a [d] a.length r ((i:Int)-1)<|zl i 0++q) Q
 |0,q,r,s,b,e,f=>by
  have m:((zl 0 0++q).take a.length)=q:=by
   rw[List.replicate_zero,List.nil_append];exact zu ae
  refine zw (Am ..) (yt (by simp) ?_);rw[m];refine zd (Ad (by simp;omega)<|D9 ae b) (zd (Ad rfl (D9 (by simp)<|fun x c=>by rw[List.mem_singleton]at c;subst c;exact⟨e.1,by show x<18446744073709551616;omega⟩))<|yf<|k q r _ b e f)
 |i+1,q,r,s,b,e,f=>by
  have e1:(((i+1:Nat):Int)-1)=(i:Int):=ae
  have h:=AY j i;obtain⟨v,l,u,p,n⟩:=dqr g.1 e<|qf h;have t:a.drop i=a.getD i 0::a.drop (i+1):=by
   rw[zr,yr ae];exact qz ae
  have es:∀x,(zl (i+1) (0:Int)++q).set i x=zl i 0++(x::q):=by
   intro x;rw[qp,yd];exact Df _ _ _ _ (by simp)
  rw[e1];refine zw (Am ..) (zd (by simp) ?_);rw[zf,es,wr ((i:Int)-1) ae ae];refine zd (by simp;omega) (zd (by simp) (zd ?_ (zd (by simp;omega)<|zd (by simp;omega) ?_)))
  ·exact Ad (Ad (Ad (CG e.1 ae) h)<|CG (by show 0<=d;omega) g.2)<|w4 e.2
  ·refine Aq a d j g o k i _ _ (by simp;omega) (fun x c=>?_) ⟨p,n⟩ ?_
   ·rcases qo.1 c with rfl|c
    ·exact⟨l,u⟩
    ·exact b x c
   ·rw[t];show a.getD i 0+(18446744073709551616:Int)*ze Ao (a.drop<|i+1)=(Sp.dq r (a.getD i 0) d+(18446744073709551616:Int)*ze Ao q)*d+Sp.dr r (a.getD i 0) d;rw[f,z8,zm,zp];omega
end T192
end Go.Pe
namespace Go.Sp
theorem Ul{B P u0 u1 u2 a v1 v2 v' q r:Int}(f:0<P)(d:0<=v')(j:a<P)(c:0<=q)(b:q*v1+r=u0*B+u1)(h:r*B+u2<q*v2):
  ((u0*B+u1)*B+u2)*P+a<q*((v1*B+v2)*P+v'):=by
 have e:q*(v1*B+v2)=q*v1*B+q*v2:=by rw[zm,zp]
 have e2:(u0*B+u1)*B=q*v1*B+r*B:=by rw[<-b,z8]
 have g:(u0*B+u1)*B+u2+1<=q*(v1*B+v2):=by rw[e,e2];omega
 have i:=zg g<|zo f;have k:0<=q*v':=zz c d;rw[zm q, <-zp];rw[z8,zy]at i;omega
theorem TJ{B P u0 u1 u2 c v1 v2 v' q r:Int}(b:0<P)(k:0<=v'/\v'<P)(m:0<=c)(g:0<=q/\q<B)(a:1<=v1)(l:0<=v2)(d:q*v1+r=u0*B+u1)(h:q*v2<=r*B+u2):
  q*((v1*B+v2)*P+v')<((u0*B+u1)*B+u2)*P+c+((v1*B+v2)*P+v'):=by
 have e:q*(v1*B+v2)=q*v1*B+q*v2:=by rw[zm,zp]
 have e2:(u0*B+u1)*B=q*v1*B+r*B:=by rw[<-d,z8]
 have f:q*(v1*B+v2)<=(u0*B+u1)*B+u2:=by rw[e,e2];omega
 have n:=zg f<|zo b;have i:q*v'<=(B-1)*P:=Int.le_trans (zh (zo k.2) g.1) (zg ae<|zo b);have j:B<=v1*B+v2:=by
  have:=zg a (show 0<=B by omega);omega
 have o:=zg j<|zo b;rw[qj,zy]at i;rw[zm q, <-zp];omega
theorem Hi(b:Int):∀(l:List Int) (i:Nat) (x:Int),i<l.length->val b (l.set i x)=val b l+b^i*(x-l.getD i 0)
 |[],i,x,h=>by simp at h
 |d::l,0,x,_=>by
  show x+b*val b l=d+b*val b l+b^0*(x-d);rw[yi,zy];omega
 |d::l,i+1,x,h=>by
  have:=Hi b l i x (by simpa using h);show d+b*val b (l.set i x)=d+b*val b l+b^(i+1)*(x-l.getD i 0);rw[this,zm,zt,zq (b^i) b,zp,qg]
theorem G8{b:Int}{l:List Int}(h:Av b l)(i:Nat){x:Int}(c:0<=x/\x<b):Av b (l.set i x):=by
 intro d a;rcases List.mem_or_eq_of_mem_set a with a|rfl
 ·exact h d a
 ·exact c
theorem Ga{b:Int}{l r:List Int}(c:Av b l)(e:Av b r):Av b (l++r):=by
 intro d a;rcases jh.1 a with a|a
 ·exact c d a
 ·exact e d a
theorem PG{b:Int}(c:0<b){l:List Int}(h:Av b l)(i:Nat):0<=l.getD i 0/\l.getD i 0<b:=by
 rcases Nat.lt_or_ge i l.length with a|a
 ·have:l.getD i 0∈l:=by rw[zr,yr a];exact List.getElem_mem a
  exact h _ this
 ·rw[zr,List.getElem?_eq_none a];exact⟨q9 _,c⟩
theorem Cr{l:List Int}{i:Nat}(h:i<l.length):l.drop i=l.getD i 0::l.drop (i+1):=by
 rw[zr,yr h];exact qz h
theorem G5(p r:List Int)(i j:Nat)(h:p.length=j):(p++r).getD (i+j) 0=r.getD i 0:=by
 subst h;rw[zr,zr,List.getElem?_append_right ae,qw]
theorem Ra(p r:List Int)(i j:Nat)(x:Int)(h:p.length=j):(p++r).set (i+j) x=p++r.set i x:=by
 subst h;rw[List.set_append_right _ _ ae,qw]
theorem oX(b:Int)(r:List Int)(k:Nat)(e:k+3<=r.length)(d:val b (r.drop<|k+3)=0):
  val b r=((r.getD (k+2) 0*b+r.getD (k+1) 0)*b+r.getD k 0)*b^k+val b (r.take k):=by
 have a:b^(k+1)=b^k*b:=zt ..;have c:b^(k+2)=b^k*b*b:=by rw[<-a];exact zt ..
 rw[Cq b r (k+3) e,d,AD,AD,AD,a,c,yu,qm];generalize b^k=P;generalize r.getD (k+2) 0=x;generalize r.getD (k+1) 0=y;generalize r.getD k 0=z;have e1:P*b*b*x=x*b*b*P:=by rw[zq (P*b*b) x,zq P b,zp b P b,zq P b, <-zp, <-zp]
 have e2:P*b*y=y*b*P:=by rw[zq (P*b) y,zq P b,zp]
 have e3:P*z=z*P:=zq _ _;have e4:((x*b+y)*b+z)*P=x*b*b*P+y*b*P+z*P:=by rw[z8,z8,z8]
 rw[e4];omega
theorem oM(b:Int)(v:List Int)(k:Nat)(c:v.length=k+2):
  val b v=(v.getD (k+1) 0*b+v.getD k 0)*b^k+val b (v.take k):=by
 have h0:val b (v.drop<|k+2)=0:=by rw[List.drop_eq_nil_of_le ae];rfl
 have a:b^(k+1)=b^k*b:=zt ..;rw[Cq b v (k+2) ae,h0,AD,AD,a,yu,qm];generalize b^k=P;generalize v.getD (k+1) 0=y;generalize v.getD k 0=z;have e2:P*b*y=y*b*P:=by rw[zq (P*b) y,zq P b,zp]
 have e3:P*z=z*P:=zq _ _;rw[e2,e3,z8];omega
theorem gE{b:Int}(i:2<=b){v:List Int}(c:Av b v)(d:nz v){k:Nat}(e:b^k<=val b v)(g:val b v<b^(k+1)):v.length=k+1:=by
 have f:=Bc (show 0<b by omega) k;have a:v≠[]:=by rintro rfl;simp[val]at e;omega
 have a1:=Br ae c;have a2:=C2 ae c d a;rcases Nat.lt_trichotomy v.length (k+1)with h|h|h
 ·have:=AP (show 1<=b by omega) (show v.length<=k by omega);omega
 ·exact h
 ·have:=AP (show 1<=b by omega) (show k+1<=v.length-1 by omega);omega
theorem I3{b:Int}(d:2<=b){r:List Int}(a:Av b r){n:Nat}(c:n<=r.length)(h:val b r<b^n):val b (r.drop n)=0:=by
 have h0:=Az (show 0<=b by omega)<|Es a n;have f:=Az (show 0<=b by omega)<|AM a n;rw[Cq b r n c]at h;have e:=Bc (show 0<b by omega) n;rcases ye 0 (val b<|r.drop n)with g|g
 ·have:=zh (show 1<=val b (r.drop n)by omega) (show 0<=b^n by omega);omega
 ·omega
theorem Qy{b:Int}(d:2<=b){r:List Int}(c:Av b r){n:Nat}(a:n<=r.length)(h:val b (r.drop n)=0):val b r<b^n:=by
 have:=Br (show 0<b by omega)<|AM c n;rw[yg,yv a]at this;rw[Cq b r n a,h];omega
theorem jV{b c d x y X:Int}(h:0<c)(e:b=c*d):(x+b*(y+b*X))/c=(x/c+(y % c)*d)+b*((y+b*X)/c):=by
 subst e;have g:(x+c*d*(y+c*d*X))/c=x/c+d*(y+c*d*X):=by
  rw[zp c d,Int.add_mul_ediv_left _ _ ae]
 have a:(y+c*d*X)/c=y/c+d*X:=by
  rw[zp c d,Int.add_mul_ediv_left _ _ ae]
 have f:=yb y c;rw[g,a];have e1:d*(y+c*d*X)=d*(c*(y/c)+y % c+c*d*X):=by rw[f]
 rw[e1,zm,zm,zm<|c*d];have e2:d*(c*(y/c))=c*d*(y/c):=by rw[<-zp,zq d c]
 have e3:d*(y % c)=(y % c)*d:=zq _ _;have e4:d*(c*d*X)=c*d*(d*X):=by rw[<-zp,zq d<|c*d,zp]
 rw[e2,e3,e4];omega
theorem Un{b c d x k:Int}(p:0<c)(f:0<d)(h:b=c*d)(l:0<=k/\k<c)(a:0<=x/\x<b):
  (x*c) % b=(x % d)*c/\(x % d)*c+k<b/\0<=(x % d)*c/\0<=x/d/\x/d<c/\(x % d)*c+b*(x/d)=x*c:=by
 subst h;have i:=yb x d;have j:=yp x (show d≠0 by omega);have m:=yk x f;have g:0<=x/d:=qh a.1 ae;have q1:x/d<c:=yw f (by have:=a.2;omega);have p0:0<=(x % d)*c:=zz j ae;have o:(x % d)*c<=(d-1)*c:=zg ae ae;have n:(d-1)*c=c*d-c:=by rw[qj,zy,zq]
 have e:(x % d)*c+c*d*(x/d)=x*c:=by
  conv=>rhs;rw[<-i]
  rw[z8,zp c d,zq c<|d*(x/d)];omega
 refine⟨?_,by omega,p0,g,q1,e⟩;rw[<-e,Int.add_mul_emod_self_left];exact Int.emod_eq_of_lt p0 ae
theorem MX{B P u0 u1 u2 b v1 v2 v' q r:Int}(c:0<P)(g:0<B)(o:0<=q)(l:0<=v')(a:0<=v2)(m:b<P)(k:u2<B)(n:q*v1+r=u0*B+u1)(h:r<v1):
  ((u0*B+u1)*B+u2)*P+b<(q+1)*((v1*B+v2)*P+v'):=by
 have d:u0*B+u1+1<=(q+1)*v1:=by rw[z8,zy];omega
 have f:=zg d<|zo g;have i:(u0*B+u1)*B+u2+1<=(q+1)*v1*B:=by
  rw[z8,zy]at f;omega
 have j:=zg i<|zo c;rw[z8,zy]at j;have p:0<=(q+1)*(v2*P):=zz ae<|zz a<|zo c;have s:0<=(q+1)*v':=zz ae l;have e:(q+1)*((v1*B+v2)*P+v')=(q+1)*v1*B*P+(q+1)*(v2*P)+(q+1)*v':=by
  rw[z8<|v1*B,zm,zm];congr 2;rw[zp,zp,zp]
 rw[e];omega
end Go.Sp
namespace Go.Pe
open Sp
open Go.Det
theorem Uc{q x y c b:Int}(d:z7 q=true)(e:z7 x=true)(j:z7 y=true)(f:z7 c=true)(i:0<=b/\b<=1):
  z7 (H8 q x)=true/\z7 (HX (H8 q x) c 0)=true/\zc .u64 (Q0 q x+N5 (H8 q x) c 0)=(q*x+c)/18446744073709551616/\z7 ((q*x+c)/18446744073709551616)=true/\
  z7 (S5 y (HX (H8 q x) c 0) b)=true/\(0<=P0 y (HX (H8 q x) c 0) b/\P0 y (HX (H8 q x) c 0) b<=1)/\
  c+b+(S5 y (HX (H8 q x) c 0) b-y)=18446744073709551616*((q*x+c)/18446744073709551616+P0 y (HX (H8 q x) c 0) b)-q*x:=by
 have d:=qf d;have e:=qf e;have f:=qf f;have h0:0<=q*x:=zz d.1 e.1;have k:q*x<=18446744073709551615*18446744073709551615:=by
  have a:=zh (show x<=18446744073709551615 by omega) d.1;have b:=zg (show q<=18446744073709551615 by omega) (show(0:Int)<=18446744073709551615 by omega);omega
 have g:z7 (HX (H8 q x) c 0)=true:=by unfold HX;exact CG ae ae
 obtain⟨s1,s2,s3⟩:=Sp.GF j g i;refine⟨?_,g,?_,?_,s1,s2,?_⟩
 ·unfold H8;exact CG ae ae
 ·unfold H8 Q0 N5;rw[KP];generalize q*x=P at*;omega
 ·generalize q*x=P at*;exact CG ae ae
 ·generalize P0 y (HX (H8 q x) c 0) b=h at*;generalize S5 y (HX (H8 q x) c 0) b=l at*;unfold HX H8 at s3;generalize q*x=P at*;omega
namespace T192
theorem gw{lo r:List Int}{j:Nat}(h:lo.length=j)(i:Nat):(lo++r).getD (yc i j) 0=r.getD i 0:=G5 lo r i j h
theorem sw{lo r:List Int}{j:Nat}(h:lo.length=j)(i:Nat)(x:Int):(lo++r).set (yc i j) x=lo++r.set i x:=Ra lo r i j x h
theorem lw{lo r:List Int}{j i:Nat}(h:lo.length=j)(a:i<r.length):decide (yc i j<(lo++r).length)=true:=by
 refine w4 ?_;show i+j<_;rw[List.length_append];omega
theorem Jk(r:List Int)(i n:Nat)(x:Int)(h:i<n):(r.set i x).drop n=r.drop n:=by
 rw[List.drop_set,wd h]
theorem Ch[Srt](v9:Int)(o:List Int)(f:Nat)(l:Int)(a:Nat)(o1 D:List Int)(s:Nat)(v:List Int)(n j:Nat)(lo:List Int)(m:Nat)(q W:Int)(g:List Int)
  (V:v.length=n) (G:n<=9000) (X:n+1<=m) (d:lo.length=j) (I:j<a) (y:j<g.length) (M:Av Ao v) (E:z7 q=true)
  (h0:∀r:List Int,r.length=m->Av Ao r->ze Ao (r.drop<|n+1)=0->ze Ao r=W-q*ze Ao v->Ends JE (L4 v9 o f l a (zc .i64<|(j:Int)-1) (g.set j q)<|lo++r) Q)
  (N:∀r:List Int,r.length=m->Av Ao r->ze Ao (r.drop<|n+1)=0->ze Ao r=W-q*ze Ao v+(Ao:Int)^(n+1)->Ends JE (L8 v9 o f l a j o1 D j (n+1) s v n q 0 n 0 g<|lo++r) Q):
  ∀(k i:Nat) (r:List Int) (b c:Int),i+k=n->r.length=m->Av Ao r->ze Ao (r.drop<|n+1)=0->z7 c=true->(0<=b/\b<=1)->ze Ao r=W-q*ze Ao (v.take i)+(Ao:Int)^i*(c+b)->
   Ends JE (L7 v9 o f l a j o1 D j (n+1) s v n q b c n i g<|lo++r) Q
 |0,i,r,b,c,K,F,A,H,z,p,C=>by
  have K:i=n:=ae
  subst K;have u:=AY A i;obtain⟨s1,s2,s3⟩:=Sp.GF u z p;have h:decide (yc i j<(lo++r).length)=true:=lw d ae;have B:(decide ((0:Int)<=(i:Int))&&decide ((i:Int)<((i+1:Nat):Int)))=true:=by simp;omega
  have J:v.take i=v:=zu ae;have w:∀x:Int,0<=x/\x<18446744073709551616->(r.set i x).length=m/\Av Ao (r.set i x)/\ze Ao ((r.set i x).drop<|i+1)=0:=fun x U=>
   ⟨by simp[F],G8 A i U,by rw[Jk _ _ _ _ ae];exact H⟩
  obtain⟨e1,e2,e3⟩:=w _<|qf s1;have ev:ze Ao (r.set i<|S5 (r.getD i 0) c b)=W-q*ze Ao v+(Ao:Int)^(i+1)*P0 (r.getD i 0) c b:=by
   rw[Hi _ _ _ _ ae,C,J,Kz,qg, <-zm];congr 2;omega
  refine zw (FV ..) (yt (by simp) ?_);rw[zf,zf,gw d,sw d];refine zd B<|zd h<|zd (Ad (Ad (Ad u z)<|w4 p.1)<|w4 p.2)<|zd B<|zd h<|zx (fun t=>?_)<|fun t=>?_
  ·have t:P0 (r.getD i 0) c b=0:=by simpa using t
   refine zd (by simp;omega)<|zd (w4 y)<|h0 _ e1 e2 e3 ?_;rw[ev,t,yu,qm]
  ·have t:P0 (r.getD i 0) c b≠0:=by simpa using t
   refine N _ e1 e2 e3 ?_;rw[ev,show P0 (r.getD i 0) c b=1 by omega,yz]
 |k+1,i,r,b,c,K,F,A,H,z,p,C=>by
  have L:=AY M i;have u:=AY A i;obtain⟨T,S,Z,O,P,R,Y⟩:=Uc E L u z p;have h:decide (yc i j<(lo++r).length)=true:=lw d ae;have B:(decide ((0:Int)<=(i:Int))&&decide ((i:Int)<((n+1:Nat):Int)))=true:=by simp;omega
  have e2:=wn (i:=i) ae;refine zw (FV ..) (zd (by simp;omega) ?_);rw[zf,gw d,sw d,Z,e2];refine zd (by simp;omega)<|zd (Ad E L)<|zd (Ad (Ad (Ad T z) rfl) rfl)<|zd B<|zd h<|zd (Ad (Ad (Ad u S)<|w4 p.1)<|w4 p.2)<|zd B<|zd h ?_;refine Ch v9 o f l a o1 D s v n j lo m q W g V G X d I y M E h0 N k (i+1) _ _ _ ae (by simp[F]) (G8 A i<|qf P) (by rw[Jk _ _ _ _ ae];exact H) O R ?_;rw[Hi _ _ _ _ ae,C,Kz,AD,zm q,yh q];have e:(Ao:Int)^i*(c+b)+(Ao:Int)^i*(S5 (r.getD i 0) (HX (H8 q<|v.getD i 0) c 0) b-r.getD i 0)=(Ao:Int)^i*(18446744073709551616*((q*v.getD i 0+c)/18446744073709551616+P0 (r.getD i 0) (HX (H8 q<|v.getD i 0) c 0) b))-(Ao:Int)^i*(q*v.getD i 0):=by
   rw[<-zm, <-yq,Y]
  omega
theorem Hb[Srt](v9:Int)(p:List Int)(h:Nat)(o:Int)(d:Nat)(o1 H:List Int)(u:Nat)(v:List Int)(n j:Nat)(lo:List Int)(m:Nat)(q W:Int)(l:List Int)
  (L:v.length=n) (z:n<=9000) (O:n+1<=m) (a:lo.length=j) (B:j<d) (s:j<l.length) (I:Av Ao v)
  (hW:0<=W+ze Ao v)
  (h0:∀r:List Int,r.length=m->Av Ao r->ze Ao (r.drop<|n+1)=0->ze Ao r=W+ze Ao v->Ends JE (L4 v9 p h o d (zc .i64<|(j:Int)-1) (l.set j<|zc .u64<|q-1)<|lo++r) Q):
  ∀(k i:Nat) (r:List Int) (c:Int),i+k=n->r.length=m->Av Ao r->ze Ao (r.drop<|n+1)=0->(0<=c/\c<=1)->ze Ao r=W+(Ao:Int)^(n+1)+ze Ao (v.take i)-(Ao:Int)^i*c->
   Ends JE (L8 v9 p h o d j o1 H j (n+1) u v n q c n i l<|lo++r) Q
 |0,i,r,c,D,y,t,A,x,E=>by
  have D:i=n:=ae
  subst D;have F:=qf<|AY t i;have f:decide (yc i j<(lo++r).length)=true:=lw a ae;have w:(decide ((0:Int)<=(i:Int))&&decide ((i:Int)<((i+1:Nat):Int)))=true:=by simp;omega
  have C:v.take i=v:=zu ae;have P:0<=(r.getD i 0+c) % 18446744073709551616/\(r.getD i 0+c) % 18446744073709551616<18446744073709551616:=ae
  have e1:(r.set i<|(r.getD i 0+c) % 18446744073709551616).length=m:=by simp[y]
  have e2:Av Ao (r.set i<|(r.getD i 0+c) % 18446744073709551616):=G8 t i P;have e3:ze Ao ((r.set i<|(r.getD i 0+c) % 18446744073709551616).drop<|i+1)=0:=by rw[Jk _ _ _ _ ae];exact A
  have J:=Qy (b:=Ao) af e2 (n:=i+1) ae e3;refine zw (MD ..) (yt (by simp) ?_);rw[zf,zf,gw a,sw a,KP<|r.getD i 0+c];refine zd w (zd f<|zd w<|zd f<|zd (by simp;omega)<|zd (w4 s)<|h0 _ e1 e2 e3 ?_);have R:=Bc (b:=Ao) af i;rw[Hi _ _ _ _ ae,E,C]at J ⊢;rcases show(r.getD i 0+c) % 18446744073709551616=r.getD i 0+c\/(r.getD i 0+c) % 18446744073709551616=r.getD i 0+c-18446744073709551616 by omega with g|g
  ·exfalso;rw[g,show r.getD i 0+c-r.getD i 0=c by omega]at J;omega
  ·have M:(Ao:Int)^(i+1)=(Ao:Int)^i*18446744073709551616:=zt ..;rw[g,show r.getD i 0+c-18446744073709551616-r.getD i 0=c-18446744073709551616 by omega,yq,M];omega
 |k+1,i,r,c,D,y,t,A,x,E=>by
  have G:=AY I i;have F:=AY t i;obtain⟨N,K,S⟩:=Ll F G x;have f:decide (yc i j<(lo++r).length)=true:=lw a ae;have w:(decide ((0:Int)<=(i:Int))&&decide ((i:Int)<((n+1:Nat):Int)))=true:=by simp;omega
  have e2:=wn (i:=i) ae;refine zw (MD ..) (zd (by simp;omega) ?_);rw[zf,gw a,sw a,e2];refine zd w (zd f (zd (by simp;omega)<|zd (Ad (Ad (Ad F G)<|w4 x.1)<|w4 x.2)<|zd w<|zd f ?_));refine Hb v9 p h o d o1 H u v n j lo m q W l L z O a B s I hW h0 k (i+1) _ _ ae (by simp[y]) (G8 t i<|qf N) (by rw[Jk _ _ _ _ ae];exact A) K ?_;rw[Hi _ _ _ _ ae,E,Kz,AD];have e:(Ao:Int)^i*(HX (r.getD i 0) (v.getD i 0) c-r.getD i 0)-(Ao:Int)^i*c=(Ao:Int)^i*v.getD i 0-(Ao:Int)^i*(18446744073709551616*N5 (r.getD i 0) (v.getD i 0) c):=by
   rw[<-yq, <-yq];congr 1;omega
  omega
theorem nA[Srt](v9:Int)(l:List Int)(f:Nat)(k:Int)(e:Nat)(o1 x:List Int)(p:Nat)(v:List Int)(n j:Nat)(lo:List Int)(m:Nat)(i h:List Int)
  (A:v.length=n) (s:n<=9000) (B:n+1<=m) (w:lo.length=j) (u:j<e) (t:j<h.length) (y:Av Ao v)
  (E:i.length=m) (C:Av Ao i) (J:ze Ao (i.drop<|n+1)=0)
  (o:∀(q:Int) (r:List Int),r.length=m->Av Ao r->(0<=q/\q<18446744073709551616)->ze Ao r<ze Ao v->ze Ao r=ze Ao i-q*ze Ao v->Ends JE (L4 v9 l f k e (zc .i64<|(j:Int)-1) (h.set j q)<|lo++r) Q)
  (q:Int) (z:z7 q=true) (I:ze Ao i<(q+1)*ze Ao v) (R:q*ze Ao v<ze Ao i+ze Ao v):
  Ends JE (L7 v9 l f k e j o1 x j (n+1) p v n q 0 0 n 0 h<|lo++i) Q:=by
 have G:=qf z;have F:=Az (b:=Ao) af C;have N:=Az (b:=Ao) af y;rw[z8,zy]at I;refine Ch v9 l f k e o1 x p v n j lo m q (ze Ao i) h A s B w u t y z (fun r a b c d=>o q r a b G ae d) (fun r a b c d=>?_) n 0 i 0 0 ae E C J af af (by simp[ze]);have O:=Qy (b:=Ao) af b (n:=n+1) ae c;have L:1<=q:=by
  rcases ye 0 q with g|g
  ·exact g
  ·have:q=0:=ae
   subst this;rw[qt]at d;omega
 have D:zc .u64 (q-1)=q-1:=wu _ ae ae;refine Hb v9 l f k e o1 x p v n j lo m q (ze Ao i-q*ze Ao v) h A s B w u t y ae (fun K M b' P H=>?_) n 0 r 0 ae a b c af (by rw[d];simp[ze]);rw[D];refine o (q-1) K M b' ae ae ?_;rw[H,qj,zy];omega
theorem AcB(q x:Int):Q0 q x*18446744073709551616+H8 q x=q*x/\0<=H8 q x/\H8 q x<18446744073709551616:=by
 unfold Q0 H8;generalize q*x=P;omega
theorem Cu[Srt](v9:Int)(p:List Int)(h:Nat)(n:Int)(d:Nat)(o1 H:List Int)(s:Nat)(v:List Int)(k j:Nat)(lo:List Int)(m:Nat)(e i:List Int)
  (T:v.length=k+2) (C:k+2<=9000) (hm:k+3<=m) (t:lo.length=j) (E:j<d) (D:j<i.length) (A:Av Ao v)
  (X:e.length=m) (F:Av Ao e) (S:ze Ao (e.drop<|k+3)=0) (G:1<=v.getD (k+1) 0)
  (x:∀(q:Int) (r:List Int),r.length=m->Av Ao r->(0<=q/\q<18446744073709551616)->ze Ao r<ze Ao v->ze Ao r=ze Ao e-q*ze Ao v->Ends JE (L4 v9 p h n d (zc .i64<|(j:Int)-1) (i.set j q)<|lo++r) Q):
  ∀(f:Nat) (q r o:Int),0<=q->q<f->q<18446744073709551616->z7 r=true->(o=0\/o=1)->q*v.getD (k+1) 0+(r+18446744073709551616*o)=e.getD (k+2) 0*18446744073709551616+e.getD (k+1) 0->ze Ao e<(q+1)*ze Ao v->
   Ends JE (L5 v9 p h n d j o1 H j (k+3) s v ((k+2:Nat):Int) q r o i<|lo++e) Q
 |0,q,r,o,h0,hf,_,_,_,_,_=>by omega
 |f+1,q,r,o,h0,hf,hB,l,ho,he,O=>by
  have Y:z7 q=true:=CG h0 hB;have L:=AY A k;have u:=AY A<|k+1;have W:=AY F k;have P:=qf L;have gv1:=qf u;have gu2:=qf W;have gr:=qf l;have Z:=Bc (b:=Ao) af k;have hW:=oX Ao e k ae S;have hV:=oM Ao v k T;have V:=Az (b:=Ao) af<|AM F k;have w:=Br (b:=Ao) af<|AM F k;have M:=Az (b:=Ao) af<|AM A k;have y:=Br (b:=Ao) af<|AM A k;rw[yg,yv ae]at w y;have exit:q*v.getD k 0<=(r+18446744073709551616*o)*18446744073709551616+e.getD k 0->Ends JE (L7 v9 p h n d j o1 H j (k+3) s v ((k+2:Nat):Int) q 0 0 ((k+2:Nat):Int) 0 i<|lo++e) Q:=by
   intro N;refine nA v9 p h n d o1 H s v (k+2) j lo m e i T C hm t E D A X F S x q Y O ?_;rw[hW,hV];exact TJ Z ⟨M,y⟩ V ⟨h0,hB⟩ G P.1 he N
  have e1:zc .i64 (((k+2:Nat):Int)-2)=(k:Int):=by rw[wr _ ae ae];omega
  have e2:zc .i64 (((k+2:Nat):Int)-1)=((k+1:Nat):Int):=by rw[wr _ ae ae];omega
  obtain⟨w1,w2,w3⟩:=AcB q<|v.getD k 0;have U:decide (yc k j<(lo++e).length)=true:=lw t ae;refine zw (FO ..)<|zx (fun c=>?_)<|fun c=>?_
  ·have c:o=0:=by simpa using c
   subst c;rw[e1,e2,zf,zf,gw t];refine zd (by simp;omega)<|zd (Ad Y L) ?_;have I:r*18446744073709551616+e.getD k 0<q*v.getD k 0->Ends JE (L5 v9 p h n d j o1 H j (k+3) s v ((k+2:Nat):Int) (zc .u64<|q-1) (HX r (v.getD (k+1) 0) 0) (N5 r (v.getD (k+1) 0) 0) i<|lo++e) Q:=by
    intro N;obtain⟨a1,a2,a3⟩:=Ll l u (c:=0) af;have hq1:1<=q:=by
     rcases ye 0 q with g|g
     ·exact g
     ·have:q=0:=ae
      subst this;rw[qt]at N;omega
    rw[wu (q-1) ae ae];refine Cu v9 p h n d o1 H s v k j lo m e i T C hm t E D A X F S G x f (q-1) _ _ ae ae ae a1 ae ?_ ?_
    ·rw[qj,zy,a3];omega
    ·have R:q*v.getD (k+1) 0+r=e.getD (k+2) 0*18446744073709551616+e.getD (k+1) 0:=ae
     have:=Ul (B:=Ao) (u0:=e.getD (k+2) 0) (u1:=e.getD (k+1) 0) (u2:=e.getD k 0) Z M w h0 (v1:=v.getD (k+1) 0) (v2:=v.getD k 0) (r:=r) R N;rw[<-hW, <-hV]at this;rw[show q-1+1=q by omega];exact this
   refine zx (fun K=>exit ?_) (fun K=>zx (fun z=>zd (by simp;omega)<|zd U<|zx (fun J=>exit ?_)<|fun J=>zd (by simp;omega)<|zd (Ad (Ad (Ad l u) rfl) rfl)<|I ?_) (fun z=>zd (by simp;omega)<|zd (Ad (Ad (Ad l u) rfl) rfl)<|I ?_))
   ·have K:=w6 K;omega
   ·have z:Q0 q (v.getD k 0)=r:=by simpa using z
    have J:=w6 J;omega
   ·have z:Q0 q (v.getD k 0)=r:=by simpa using z
    have J:=w7 J;omega
   ·have K:=w7 K;have z:Q0 q (v.getD k 0)≠r:=by simpa using z
    omega
  ·have c:o≠0:=by simpa using c
   refine exit ?_;have a:=zh (show v.getD k 0<=18446744073709551615 by omega) h0;omega
theorem BR[Srt](s:Int)(v:List Int)(k e:Nat)(E:v.length=k+2)(hla:e<=9000)(hkl:k+2<=e)(y:Av Ao v)(A:1<=v.getD (k+1) 0)(S:Int)
  (hq:∀u f:List Int,u.length=e+1->Av Ao u->Av Ao f->ze Ao u<ze Ao v->f.length=e-(k+2)+1->S=ze Ao u+ze Ao v*ze Ao f->Ends JE (L6 s (e+1) ((k+2:Nat):Int) (e-(k+2)+1) ((k+2:Nat):Int) 0 f u) Q):
  ∀(t:Nat) (u f:List Int),t+f.length=e-(k+2)+1->u.length=e+1->Av Ao u->Av Ao f->ze Ao (u.drop t)<ze Ao v->S=ze Ao u+ze Ao v*((Ao:Int)^t*ze Ao f)->
   Ends JE (L4 s v (e+1) ((k+2:Nat):Int) (e-(k+2)+1) ((t:Int)-1) (zl t 0++f) u) Q
 |0,u,f,hl,Z,O,D,C,R=>by
  refine zw (CA ..) (yt (by simp) ?_);exact hq u f Z O D C ae (by rw[R,yi,zy])
 |j+1,u,f,hl,Z,O,D,C,R=>by
  obtain⟨lo,r,rfl,g⟩:∃lo r:List Int,u=lo++r/\lo.length=j:=⟨u.take j,u.drop j,(qn j u).symm,by rw[yg];omega⟩;have M:Av Ao lo:=fun d h=>O d<|jh.2<|.inl h
  have a:Av Ao r:=fun d h=>O d<|jh.2<|.inr h
  have L:r.length=e+1-j:=by rw[List.length_append]at Z;omega
  have m:∀z:List Int,(lo++z).drop j=z:=fun z=>by rw[<-g];exact List.drop_left
  have hr0:r=r.getD 0 0::r.drop 1:=by
   have:=Cr (l:=r) (i:=0) ae;rw[List.drop_zero]at this;exact this
  have Y:(lo++r).drop (j+1)=r.drop 1:=by rw[Nat.add_comm j 1,Nat.add_comm 1 j, <-List.drop_drop,m]
  rw[Y]at C;have g0:=PG (b:=Ao) af a 0;have T:ze Ao r=r.getD 0 0+18446744073709551616*ze Ao (r.drop 1):=by
   conv=>lhs;rw[hr0]
   rfl
  have I:=Br (b:=Ao) af y;rw[E]at I;have g0:0<=r.getD 0 0/\r.getD 0 0<18446744073709551616:=g0;have V:ze Ao r<18446744073709551616*ze Ao v:=by rw[T];omega
  have N:ze Ao (r.drop<|k+3)=0:=by
   refine I3 (b:=Ao) af a ae ?_;have ep:(Ao:Int)^(k+3)=(Ao:Int)^(k+2)*18446744073709551616:=zt ..;rw[ep];omega
  have J:=AY a<|k+2;have n:=AY a<|k+1;have uu2:=AY a k;have o:=AY y<|k+1;have gu0:=qf J;have W:=qf n;have gu2:=qf uu2;have gv1:=qf o;have P:=qf<|AY y k;have hP:=Bc (b:=Ao) af k;have hW:=oX Ao r k ae N;have hV:=oM Ao v k E;have hu':=Az (b:=Ao) af<|AM a k;have p:=Br (b:=Ao) af<|AM a k;have U:=Az (b:=Ao) af<|AM y k;rw[yg,yv ae]at p;have hle:r.getD (k+2) 0<=v.getD (k+1) 0:=by
   have a1:=Cq Ao (r.drop 1) (k+1) (by rw[List.length_drop];omega);have a2:(r.drop 1).drop (k+1)=r.getD (k+2) 0::r.drop (k+3):=by
    rw[List.drop_drop,show 1+(k+1)=k+2 by omega];exact Cr ae
   have a3:ze Ao (r.getD (k+2) 0::r.drop (k+3))=r.getD (k+2) 0:=by
    show r.getD (k+2) 0+(Ao:Int)*ze Ao (r.drop<|k+3)=_;rw[N];omega
   rw[a2,a3]at a1;have X:ze Ao v=ze Ao (v.take<|k+1)+(Ao:Int)^(k+1)*v.getD (k+1) 0:=by
    rw[<-AD,zu ae]
   have K:=Br (b:=Ao) af<|AM y<|k+1;rw[yg,yv ae]at K;have c1:=Az (b:=Ao) af<|AM (Es a 1)<|k+1;have c2:(Ao:Int)^(k+1)*r.getD (k+2) 0<(Ao:Int)^(k+1)*(v.getD (k+1) 0+1):=by
    rw[zm,yz];omega
   have:=yo c2 (zo<|Bc af<|k+1);omega
  have w:∀(q:Int) (B:List Int),B.length=e+1-j->Av Ao B->(0<=q/\q<18446744073709551616)->ze Ao B<ze Ao v->ze Ao B=ze Ao r-q*ze Ao v->Ends JE (L4 s v (e+1) ((k+2:Nat):Int) (e-(k+2)+1) (zc .i64<|(j:Int)-1) ((zl (j+1) 0++f).set j q)<|lo++B) Q:=by
   intro q B h1 h2 h3 h4 h5;have es:(zl (j+1) (0:Int)++f).set j q=zl j 0++(q::f):=by
    rw[qp,yd];exact Df _ _ _ _ (by simp)
   rw[es,wr ((j:Int)-1) ae ae];refine BR s v k e E hla hkl y A S hq j (lo++B) (q::f) (by simp;omega) (by simp;omega) (Ga M h2) (fun d h=>?_) (by rw[m];exact h4) ?_
   ·rcases qo.1 h with rfl|h
    ·exact h3
    ·exact D d h
   ·rw[R,CR,CR,g,h5,Kz];show ze Ao lo+(Ao:Int)^j*ze Ao r+ze Ao v*((Ao:Int)^j*(18446744073709551616*ze Ao f))=ze Ao lo+(Ao:Int)^j*(ze Ao r-q*ze Ao v)+ze Ao v*((Ao:Int)^j*(q+18446744073709551616*ze Ao f));have x1:ze Ao v*((Ao:Int)^j*q)=(Ao:Int)^j*(q*ze Ao v):=by
     rw[yh,zq (ze Ao v) q]
    rw[yq,zm ((Ao:Int)^j) q,zm<|ze Ao v,x1];omega
  have ez:yc 0 j=j:=Nat.zero_add j;have e0:(((j+1:Nat):Int)-1)=(j:Int):=ae
  have e1:zc .i64 (zc .i64 ((j:Int)+((k+2:Nat):Int))+1)=((j+(k+3):Nat):Int):=by
   rw[wr ((j:Int)+((k+2:Nat):Int)) ae ae,wr _ ae ae];omega
  have e2:zc .i64 (((k+2:Nat):Int)-1)=((k+1:Nat):Int):=by rw[wr _ ae ae];omega
  have e3:Nat.sub (j+(k+3)) j=k+3:=by show j+(k+3)-j=_;omega
  have F:decide (yc (k+2) j<(lo++r).length)=true:=lw g ae;have G:decide (yc (k+1) j<(lo++r).length)=true:=lw g ae;rw[e0];refine zw (CA ..) (zd (by simp) ?_);rw[E,e1,e2,zf,zf,zf,zf,ez,e3,gw g,gw g];have X:(decide ((0:Int)<=((k+2:Nat):Int))&&decide (((k+2:Nat):Int)<((k+3:Nat):Int)))=true:=by simp;omega
  have K:(decide ((0:Int)<=((k+1:Nat):Int))&&decide (((k+1:Nat):Int)<((k+2:Nat):Int)))=true:=by simp;omega
  have b3:(decide ((0:Int)<=((k+1:Nat):Int))&&decide (((k+1:Nat):Int)<((k+3:Nat):Int)))=true:=by simp;omega
  have H:j<(zl (j+1) (0:Int)++f).length:=by simp;omega
  refine zd (by simp;omega)<|zd X<|zd F<|zd K<|zx (fun c=>?_)<|fun c=>?_
  ·have c:=w6 c;obtain⟨a1,a2,a3⟩:=Ll n o (c:=0) af;refine zd b3<|zd G<|zd K<|zd (Ad (Ad (Ad n o) rfl) rfl) ?_;refine Cu s v (e+1) _ _ _ _ _ v k j lo (e+1-j) r _ E ae ae g ae H y L a N A w 18446744073709551616 _ _ _ af af af a1 ae ?_ ?_
   ·rw[a3];omega
   ·exact V
  ·have c:=w7 c;obtain⟨d1,d2,d3,d4,d5⟩:=dqr (r:=r.getD (k+2) 0) (x:=r.getD (k+1) 0) (d:=v.getD (k+1) 0) ae ae W;refine zd X (zd F<|zd b3<|zd G<|zd K<|zd (Ad (Ad (Ad J n) o)<|w4 ae) ?_);refine Cu s v (e+1) _ _ _ _ _ v k j lo (e+1-j) r _ E ae ae g ae H y L a N A w 18446744073709551616 _ _ _ d2 d3 d3 (CG d4 ae) (.inl rfl) ?_ ?_
   ·rw[<-d1];omega
   ·rw[hW,hV];exact MX hP af d2 U P.1 p gu2.2 d1 d5
end T192
theorem UR{a b:Int}{s:Nat}(c:0<=a)(d:0<=b)(h:b<2^s)(e:a*2^s+b<18446744073709551616):Zw .u64 b (a*2^s)=a*2^s+b:=by
 have:=Yt c d h e;rw[<-this];show zc .u64 (((yj 64 b|||yj 64 (a*2^s)).toNat:Nat):Int)=zc .u64 (((yj 64 (a*2^s)|||yj 64 b).toNat:Nat):Int);rw[BitVec.or_comm]
theorem YP{s:Nat}(a:s<=63):(18446744073709551616:Int)=2^s*2^(64-s):=by rw[<-Int.pow_add,show s+(64-s)=64 by omega];rfl
namespace T192
theorem Jq[Srt](s:Nat)(U:s<=63)(a n m:Nat)(hn:n<=a)(I:a<=9000)(u j:List Int)(Z:u.length=a+1)(H:Av Ao u)(P:ze Ao (u.drop n)=0)(hm:j.length=m)(N:m<=9000)(v:Av Ao j)
  (T:∀(w:List Int) ob,Av Ao w->ze Ao w=ze Ao u/2^s->Q (.tup [.dat C4<|Aw j,.dat C4<|Aw w]) ob):
  ∀(k i:Nat) (p:List Int),i+k=n->p.length=i->Av Ao p->ze Ao p+(Ao:Int)^i*(ze Ao (u.drop i)/2^s)=ze Ao u/2^s->
   Ends JE (L6 s (a+1) n m n i j<|p++u.drop i) Q
 |0,i,p,J,f,e,C=>by
  have J:i=n:=ae
  subst J;have ht:(p++u.drop i).take i=p:=by rw[<-f];exact List.take_left
  have D:j.take m=j:=zu ae;rw[P,Int.zero_ediv,yu,qm]at C;refine zw (Lr ..) (yt (by simp) ?_);rw[zf,ht,D];refine zd (by simp;omega) (zd (Ad (by simp;omega)<|D9 ae v)<|zd (Ad (by simp;omega)<|D9 ae e)<|yf<|T p _ e C)
 |k+1,i,p,J,f,e,C=>by
  have E:=Cr (l:=u) (i:=i) ae;have R:=Cr (l:=u) (i:=i+1) ae;have O:=qf<|AY H i;have gy:=qf<|AY H<|i+1;have Y:(p++u.drop i).getD i 0=u.getD i 0:=by rw[E];exact EJ _ _ _ _ f
  have s1:∀z,(p++u.drop i).set i z=p++z::u.drop (i+1):=fun z=>by rw[E];exact Df _ _ _ _ f
  have s2:∀z x,(p++z::u.drop (i+1)).set i x=(p++[x])++u.drop (i+1):=fun z x=>by rw[Df _ _ _ _ f,yd];rfl
  have g2:∀z,(p++z::u.drop (i+1)).getD i 0=z:=fun z=>EJ _ _ _ _ f
  have V:∀z,(p++z::u.drop (i+1)).getD (i+1) 0=u.getD (i+1) 0:=fun z=>by
   rw[R,show p++z::u.getD (i+1) 0::u.drop (i+1+1)=(p++[z])++u.getD (i+1) 0::u.drop (i+1+1)by rw[yd];rfl];exact EJ _ _ _ _ (by simp[f])
  have r:∀z,(p++z::u.drop (i+1)).length=a+1:=fun z=>by simp;omega
  have o:(p++u.drop i).length=a+1:=by simp;omega
  have e2:=wn (i:=i) ae;have e3:zc .i64 ((64:Int)-(s:Int))=((64-s:Nat):Int):=by rw[wr _ ae ae];omega
  have em:qq s 64=s:=ae
  have G:qq (64-s) 64=64-s:=ae
  have B:=YP U;have q:(0:Int)<2^s:=qc af;have g:(0:Int)<2^(64-s):=qc af;have F:qv (u.getD i 0) ((2:Int)^s)=u.getD i 0/2^s:=qd _<|zo q;have a0:0<=u.getD i 0/2^s:=qh O.1<|zo q;have a1:u.getD i 0/2^s<2^(64-s):=yw q (by rw[zq, <-B];exact O.2);have S:=yp (u.getD (i+1) 0) (show(2:Int)^s≠0 by omega);have m1:=yk (u.getD (i+1) 0) q;have p0:0<=(u.getD (i+1) 0 % 2^s)*2^(64-s):=zz S<|zo g;have p1:(u.getD (i+1) 0 % 2^s)*2^(64-s)<=18446744073709551616-2^(64-s):=by
   have:=zg (show u.getD (i+1) 0 % 2^s<=2^s-1 by omega)<|zo g;rw[qj,zy, <-B]at this;exact this
  have h:0<=u.getD i 0/2^s+(u.getD (i+1) 0 % 2^s)*2^(64-s)/\u.getD i 0/2^s+(u.getD (i+1) 0 % 2^s)*2^(64-s)<18446744073709551616:=ae
  have K:zc .u64 (u.getD (i+1) 0*2^(64-s))=(u.getD (i+1) 0 % 2^s)*2^(64-s):=by
   rw[KP];exact(Un (b:=18446744073709551616) (c:=2^(64-s)) (d:=2^s) (k:=0) g q (by rw[B,zq]) ⟨q9 _,g⟩ gy).1
  have M:Zw .u64 (u.getD i 0/2^s) ((u.getD (i+1) 0 % 2^s)*2^(64-s))=u.getD i 0/2^s+(u.getD (i+1) 0 % 2^s)*2^(64-s):=by
   rw[UR S a0 a1 ae,Int.add_comm]
  have next:∀z,z=u.getD i 0/2^s+(u.getD (i+1) 0 % 2^s)*2^(64-s)->Ends JE (L6 s (a+1) n m n ((i+1:Nat):Int) j<|(p++[z])++u.drop (i+1)) Q:=by
   intro z t;refine Jq s U a n m hn I u j Z H P hm N v T k (i+1) (p++[z]) ae (by simp[f]) (DO e<|by rw[t];exact CG h.1 h.2) ?_;rw[<-C,EK,f,Kz,qg, <-zm];congr 2;have:=jV (b:=18446744073709551616) (c:=2^s) (d:=2^(64-s)) (x:=u.getD i 0) (y:=u.getD (i+1) 0) (X:=ze Ao<|u.drop<|i+1+1) q B;rw[t,E,R];exact this.symm
  have A:(decide ((0:Int)<=(i:Int))&&decide ((i:Int)<((a+1:Nat):Int)))=true:=by simp;omega
  have W:(decide ((0:Int)<=((i+1:Nat):Int))&&decide (((i+1:Nat):Int)<((a+1:Nat):Int)))=true:=by simp;omega
  refine zw (Lr ..) (zd (by simp;omega) ?_);rw[e2,e3,zf,zf,zf,zf,em,G,Y,F,s1,g2,V,s2,K,M,r,o];refine zd A (zd (w4 ae)<|zd (by simp)<|zd A<|zd (w4 ae)<|zx (fun c=>zd (by simp;omega)<|zd A<|zd (w4 ae)<|zd W<|zd (w4 ae)<|zd (by simp)<|zd A<|zd (w4 ae)<|next _ rfl)<|fun c=>?_);have c:=w7 c;have L:s=0:=ae
  subst L;rw[show ∀z:Int,p++z::u.drop (i+1)=(p++[z])++u.drop (i+1)from fun z=>by rw[yd];rfl];refine next _ ?_;rw[yi,Int.emod_one,qt,qm]
theorem RO{X:AX}{F:Int->List Int->Tr}(w:List Int)(s:Nat)(v:s<=63)(A:Av Ao w)
  (DU:∀(i:Nat) (o:List Int),i<w.length->o.length=w.length+1->Ends X (F ((i+1:Nat):Int)<|if 0<s then(o.set i<|Zw .u64 (o.getD i 0)<|zc .u64<|w.getD i 0*2^s).set (i+1) (qv (w.getD i 0)<|2^(64-s))else o.set i<|Zw .u64 (o.getD i 0)<|zc .u64<|w.getD i 0*2^s) Q->Ends X (F i o) Q)
  (a:∀o:List Int,o.length=w.length+1->Av Ao o->ze Ao o=2^s*ze Ao w->Ends X (F w.length o) Q):
  ∀(k i:Nat) (p:List Int) (c:Int),i+k=w.length->p.length=i->Av Ao p->(0<=c/\c<2^s)->ze Ao p+(Ao:Int)^i*c=2^s*ze Ao (w.take i)->Ends X (F i (p++c::zl k 0)) Q
 |0,i,p,c,r,e,f,h,j=>by
  have r:i=w.length:=ae
  subst r;have G:(2:Int)^s<=18446744073709551616:=by
   have:=YP v;have E:(1:Int)<=2^(64-s):=qc af;have H:=zh E (show(0:Int)<=2^s from zo<|qc af);omega
  rw[List.take_length]at j;refine a _ (by simp[e]) (DO f<|CG h.1 ae) ?_;rw[<-j];show ze Ao (p++[c])=_;rw[EK,e]
 |k+1,i,p,c,r,e,f,h,j=>by
  have l:=qf<|AY A i;have D:=YP v;have n:(0:Int)<2^s:=qc af;have g:(0:Int)<2^(64-s):=qc af;obtain⟨s1,s2,s3,s4,s5,s6⟩:=Un (b:=18446744073709551616) (c:=2^s) (d:=2^(64-s)) (x:=w.getD i 0) (k:=c) n g D h l;have m:qv (w.getD i 0) ((2:Int)^(64-s))=w.getD i 0/2^(64-s):=qd _<|zo g;have B:(p++c::zl (k+1) 0).getD i 0=c:=EJ _ _ _ _ e;have st:∀z:Int,(p++c::zl (k+1) 0).set i z=p++z::zl (k+1) 0:=fun z=>Df _ _ _ _ e
  have q:∀z y:Int,(p++z::zl (k+1) 0).set (i+1) y=(p++[z])++y::zl k 0:=fun z y=>by
   rw[show p++z::zl (k+1) (0:Int)=(p++[z])++0::zl k 0 by rw[yd];rfl];exact Df _ _ _ _ (by simp[e])
  have u:Zw .u64 c ((w.getD i 0 % 2^(64-s))*2^s)=(w.getD i 0 % 2^(64-s))*2^s+c:=UR (yp _ ae) h.1 h.2 s2;have go:=RO w s v A DU a k (i+1) (p++[(w.getD i 0 % 2^(64-s))*2^s+c]) (w.getD i 0/2^(64-s)) ae (by simp[e]) (DO f<|CG ae s2) ⟨s4,s5⟩ (by
   rw[EK,e,Kz,AD,zm<|2^s, <-j,qg,qg, <-zm,yh<|2^s, <-zm];congr 2;rw[zq<|2^s];omega)
  refine DU i _ ae (by simp;omega) ?_;rw[KP,s1,m,B,u,st,q];by_cases h0:0<s
  ·rw[wd h0];exact go
  ·have t:s=0:=ae
   subst t;have C:w.getD i 0/2^(64-0)=0:=jg l.1 l.2;rw[C]at go;rw[wc h0,show ∀z:Int,p++z::zl (k+1) (0:Int)=(p++[z])++0::zl k 0 from fun z=>by rw[yd];rfl];exact go
end T192
theorem mD[Srt]:Dn JE:=
 Aa T167.ok (Aa T229.ok<|Aa T160.ok<|Aa T228.ok<|Aa T230.ok<|Aa jL<|Aa T245.ok AO)
theorem Ke{w:List Int}(c:Av Ao w)(a:Sp.nz w){k:Nat}(b:w.length=k+1):0<w.getD k 0/\w.getD k 0<18446744073709551616:=by
 have g:=qf<|AY c k;refine⟨?_,g.2⟩;have e:w.getLast?=some (w.getD k 0):=by
  rw[List.getLast?_eq_getElem?,b,qw,zr,yr ae];rfl
 unfold Sp.nz at a;rw[e]at a;have:w.getD k 0≠0:=fun h=>a (by rw[h])
 omega
namespace T192
set_option maxHeartbeats 1000000 in
theorem ok[Srt]:Af Bb 192 Hw:=by
 refine BL mD<|fun(i:List Int×List Int) A=>?_;obtain⟨a,b⟩:=i;have A:(B7 a&&B7 b&&decide (a.length<=9000)&&decide (b.length<=9000)&&decide (0<As b))=true:=A;rw[zn,zn,zn,zn,w5,w5,w5]at A;obtain⟨⟨⟨⟨na,nb⟩,la9⟩,lb9⟩,l⟩:=A;obtain⟨_,da,za⟩:=EO na;obtain⟨_,db,zb⟩:=EO nb;have l:0<ze Ao b:=l;have G:=Az (b:=Ao) af da;have hg:∀q r ob,q=BW (As a/As b)->r=BW (As a % As b)->Ac Hw (a,b) (PV.tup [PV.dat C4 q,PV.dat C4 r]) ob:=fun q r ob e1 e2=>ji rfl rfl (Prod.ext e1 e2)
 have fin:∀(q r:List Int) ob,Av Ao q->Av Ao r->ze Ao a=ze Ao q*ze Ao b+ze Ao r->ze Ao r<ze Ao b->Ac Hw (a,b) (PV.tup [PV.dat C4<|Aw q,PV.dat C4<|Aw r]) ob:=by
  intro q r ob dq dr M hr;have hr0:=Az (b:=Ao) af dr;obtain⟨u1,u2⟩:=(qe (a:=ze Ao a) (b:=ze Ao b) (r:=ze Ao r) (q:=ze Ao q) l).2 ⟨by rw[zq<|ze Ao b];omega,hr0,hr⟩;refine hg _ _ ob ?_ ?_
  ·rw[Kk dq];show BW (ze Ao q)=BW (ze Ao a/ze Ao b);rw[u1]
  ·rw[Kk dr];show BW (ze Ao r)=BW (ze Ao a % ze Ao b);rw[u2]
 have p:b≠[]:=by rintro rfl;simp[ze]at l
 have W:b.length≠0:=fun h=>p<|jf.1 h
 refine qu (Aj a b) (zd (by rw[na,nb];rfl)<|zx (fun c=>?_)<|fun c=>?_)
 ·have c:=w6 c;have n:ze Ao a<ze Ao b:=by
   unfold Cb at c;have c:(if ze Ao a<ze Ao b then(-1:Int)else if ze Ao a>ze Ao b then 1 else 0)<0:=c;split at c
   ·assumption
   ·split at c<;>omega
  refine yf<|ji rfl rfl ?_;show([],a)=(BW<|ze Ao a/ze Ao b,BW<|ze Ao a % ze Ao b);rw[jg G n,Int.emod_eq_of_lt G n];exact Prod.ext rfl (JJ af da za)
 ·have c:=w7 c;have hge:ze Ao b<=ze Ao a:=by
   rcases ye (ze Ao a) (ze Ao b)with g|g
   ·have:Cb (As a) (As b)= -1:=wd g;omega
   ·exact g
  have hll:b.length<=a.length:=by
   rcases Nat.lt_or_ge a.length b.length with g|g
   ·have:=Ex (b:=Ao) af da db zb g;omega
   ·exact g
  refine zx (fun B=>?_)<|fun B=>?_
  ·have B:b.length=1:=by
    have:(b.length:Int)=1:=by simpa using B
    omega
   obtain⟨d,rfl⟩:=List.length_eq_one_iff.1 B;have hd:0<d/\d<18446744073709551616:=Ke (k:=0) db zb rfl;have e1:zc .i64 ((a.length:Int)-1)=(a.length:Int)-1:=wr _ ae ae;rw[e1,zf];refine zd (by simp;omega) ?_;have:=Aq (Q:=Ac Hw (a,[d])) a d da hd ae (fun q r ob dq dr M=>by
    refine fin q [r] ob dq (fun x j=>by rw[List.mem_singleton]at j;subst j;exact⟨dr.1,by show x<18446744073709551616;omega⟩) ?_ ?_
    ·rw[val_one,val_one];exact M
    ·rw[val_one,val_one];exact dr.2) a.length [] 0 (by simp) (fun x j=>by cases j) ⟨q9 _,hd.1⟩ (by rw[List.drop_length];simp[ze])
   rw[List.append_nil]at this;exact this
  ·have B:b.length≠1:=by
    have:(b.length:Int)≠1:=by simpa using B
    omega
   obtain⟨k,v⟩:∃k,b.length=k+2:=⟨b.length-2,by omega⟩;obtain⟨y0,y1⟩:=Ke (k:=k+1) db zb v;obtain⟨s,hs,hs63,n,_⟩:=UB y0 y1;have hB:=YP hs63;have f:(0:Int)<2^s:=qc af;have h2d:(0:Int)<2^(64-s):=qc af;have hyd:b.getD (k+1) 0<2^(64-s):=by
    rw[hB,zq<|b.getD (k+1) 0]at n;exact yo n<|zo f
   have U:(Ao:Int)^(k+1)<=2^s*ze Ao b:=by
    have a1:=C2 (b:=Ao) af db zb p;rw[v,show k+2-1=k+1 by omega]at a1;have a2:=zg (show(1:Int)<=2^s by omega)<|zo l;omega
   have X:2^s*ze Ao b<(Ao:Int)^(k+2):=by
    have C:ze Ao b=ze Ao (b.take<|k+1)+(Ao:Int)^(k+1)*b.getD (k+1) 0:=by
     rw[<-AD,zu ae]
    have b2:=Br (b:=Ao) af<|AM db<|k+1;rw[yg,yv ae]at b2;have hp:=Bc (b:=Ao) af<|k+1;have b3:ze Ao b<(Ao:Int)^(k+1)*2^(64-s):=by
     have:=zh (show b.getD (k+1) 0+1<=2^(64-s)by omega)<|zo hp;rw[zm,yz]at this;omega
    have b4:=qy b3 f;have b5:(2:Int)^s*((Ao:Int)^(k+1)*2^(64-s))=(Ao:Int)^(k+2):=by
     rw[yh, <-hB];exact(zt ..).symm
    rw[b5]at b4;exact b4
   have V:∀o:List Int,Av Ao o->ze Ao o=2^s*ze Ao b->Av Ao (Aw o)/\(Aw o).length=k+2/\ze Ao (Aw o)=2^s*ze Ao b/\1<=(Aw o).getD (k+1) 0:=by
    intro o Y hv;have z:=Ha Y;have y:ze Ao (Aw o)=2^s*ze Ao b:=by rw[Jj,hv]
    have L:=gE (b:=Ao) af z (Kl o) (k:=k+1) (by rw[y];exact U) (by rw[y];exact X);have:=(Ke z (Kl o) L).1;exact⟨z,L,y,by omega⟩
   have e2:zc .i64 (((k+2:Nat):Int)-1)=((k+1:Nat):Int):=by rw[wr _ ae ae];omega
   have e3:zc .i64 (((k+2:Nat):Int)+1)=((k+3:Nat):Int):=by rw[wr _ ae ae];omega
   have e4:zc .i64 ((a.length:Int)+1)=((a.length+1:Nat):Int):=by rw[wr _ ae ae];omega
   have e5:zc .i64 ((a.length:Int)-((k+2:Nat):Int))=((a.length-(k+2):Nat):Int):=by rw[wr _ ae ae];omega
   have e6:zc .i64 (((a.length-(k+2):Nat):Int)+1)=((a.length-(k+2)+1:Nat):Int):=by rw[wr _ ae ae];omega
   have e7:zc .i64 ((64:Int)-(s:Int))=((64-s:Nat):Int):=by rw[wr _ ae ae];omega
   have em:qq s 64=s:=ae
   have D:qq (64-s) 64=64-s:=ae
   rw[v,e2,e3,zf,zf,hs];refine zd (by simp;omega) (zd (CG ae y1) (zd (by simp;omega) ?_));refine RO (F:=fun i o=>L2 a b s (k+3) b ((k+2:Nat):Int) i o) b s hs63 db (fun i o A Y h=>?_) (fun o hol E R=>?_) (k+2) 0 [] 0 ae rfl (fun x j=>by cases j) ⟨q9 _,f⟩ (by simp[ze])
   ·have ei:=wn (i:=i) ae;have C:(decide ((0:Int)<=(i:Int))&&decide ((i:Int)<((k+3:Nat):Int)))=true:=by simp;omega
    refine zw (AU ..) (zd (by simp;omega) ?_);rw[ei,e7,zf,zf,zf,zf,em,D];refine zd (by simp;omega) (zd C<|zd (w4 ae)<|zd (by simp)<|zd C<|zd (w4 ae)<|zx (fun c=>zd (by simp)<|zd (by simp;omega)<|zd (by simp;omega) ?_)<|fun c=>?_)
    ·have c:=w6 c;rw[wd ae]at h;exact h
    ·have c:=w7 c;rw[wc ae]at h;exact h
   obtain⟨vd,vl,O,v1⟩:=V o E R;have eo:o.take (k+3)=o:=zu ae;rw[v];refine zw (AU ..) (yt (by simp) ?_);rw[eo,e4,zf,v,e2,zf,hs];refine zd (Ad (by simp;omega)<|D9 ae E) (zd (by simp;omega) ?_);refine RO (F:=fun i o'=>L3 a b s (k+3) b ((k+2:Nat):Int) ((k+2:Nat):Int) o s (a.length+1) a a.length i o' o) a s hs63 da (fun i o' A Y h=>?_) (fun u Z I T=>?_) a.length 0 [] 0 ae rfl (fun x j=>by cases j) ⟨q9 _,f⟩ (by simp[ze])
   ·have ei:=wn (i:=i) ae;have C:(decide ((0:Int)<=(i:Int))&&decide ((i:Int)<((a.length+1:Nat):Int)))=true:=by simp;omega
    refine zw (BH ..) (zd (by simp;omega) ?_);rw[ei,e7,zf,zf,zf,zf,em,D];refine zd (by simp;omega) (zd C<|zd (w4 ae)<|zd (by simp)<|zd C (zd (w4 ae)<|zx (fun c=>zd (by simp)<|zd (by simp;omega)<|zd (by simp;omega) ?_)<|fun c=>?_))
    ·have c:=w6 c;rw[wd ae]at h;exact h
    ·have c:=w7 c;rw[wc ae]at h;exact h
   refine zw (BH ..) (yt (by simp) ?_);rw[eo,vl,e5,e6,zf,v,e2,zf,hs];refine zd (by simp;omega) ?_;have J:=Bc (b:=Ao) af<|a.length-(k+2)+1;have start:ze Ao (u.drop<|a.length-(k+2)+1)<ze Ao (Aw o):=by
    have a1:=Cq Ao u (a.length-(k+2)+1) ae;have a2:=Az (b:=Ao) af<|AM I<|a.length-(k+2)+1;have a3:=Br (b:=Ao) af da;have a4:=qy a3 f;have a5:(Ao:Int)^a.length=(Ao:Int)^(a.length-(k+2)+1)*(Ao:Int)^(k+1):=by rw[<-Int.pow_add];congr 1;omega
    have a6:=C2 (b:=Ao) af db zb p;rw[v,show k+2-1=k+1 by omega]at a6;have a7:=zh a6<|zo f;have a8:=zh a7<|zo J;rw[a5,yh]at a4;rw[O];refine yo (a:=(Ao:Int)^(a.length-(k+2)+1)) ?_<|zo J;omega
   have go:=BR (Q:=Ac Hw (a,b)) s (Aw o) k a.length vl la9 ae vd v1 (2^s*ze Ao a) (fun P N H t K m hql M=>by
    have hz:ze Ao (P.drop<|k+2)=0:=I3 (b:=Ao) af t ae (by rw[O]at m;omega);refine Jq s hs63 a.length (k+2) (a.length-(k+2)+1) ae la9 P N H t hz hql ae K (fun w ob hw S=>?_) (k+2) 0 [] ae rfl (fun x j=>by cases j) (by simp[ze]);have e:ze Ao P=2^s*(ze Ao a-ze Ao N*ze Ao b):=by
     rw[O,zp,zq<|ze Ao b]at M;rw[yq];omega
    have ew:ze Ao w=ze Ao a-ze Ao N*ze Ao b:=by
     rw[S,e];exact Int.mul_ediv_cancel_left _ ae
    refine fin N w ob K hw ae ?_;rw[O,e]at m;have:=yo m<|zo f;omega) (a.length-(k+2)+1) u [] (by simp) Z I (fun x j=>by cases j) start (by rw[T];simp[ze])
   rw[List.append_nil,show((a.length-(k+2)+1:Nat):Int)-1=((a.length-(k+2):Nat):Int)by omega]at go;exact go
end T192
theorem ZN[Srt]:Af Bb 192 Hw:=T192.ok
theorem pL[Srt]:Dn XF0:=fun g sp h=>by cases h
theorem T97n.ok[Srt]:Af Bb 97 TK:=by
 refine BL pL<|fun(n:Int) _=>?_;refine qu (T97n.Aj n)<|yf<|ji rfl rfl ?_;show(n,[])=(n,BV n);rw[Fk]
theorem rR[Srt]:Dn zN:=
 Aa T97n.ok (Aa ZN<|Aa (T162.ok HE)<|Aa (T163.ok HE)<|Aa T174.ok<|Aa T102.ok<|Aa T158.ok AO)
theorem VZ{m D:Int}(c:0<D):(m % D=0->(-m)/D= -(m/D)/\(-m) % D=0)/\(m % D≠0->(-m)/D= -(m/D)-1/\(-m) % D=D-m % D):=by
 have e:=yb m D;have d:=yp m (show D≠0 by omega);have r1:=yk m c;refine⟨fun h=>?_,fun h=>?_⟩
 ·exact(qe (a:= -m) (b:=D) (r:=0) (q:= -(m/D)) c).2 ⟨by rw[jj];omega,by omega,by omega⟩
 ·exact(qe (a:= -m) (b:=D) (r:=D-m % D) (q:= -(m/D)-1) c).2 ⟨by rw[yq,jj,yz];omega,by omega,by omega⟩
theorem mR{m D:Int}(b:0<=m)(c:0<D):(0<=m/D/\m/D<=m)/\(0<=m % D/\m % D<=m/\m % D<D):=by
 have e:=yb m D;have a:0<=m/D:=qh b ae;have q1:m/D<=m:=Int.ediv_le_self _ b;have d:=yp m (show D≠0 by omega);have r1:=yk m c;have:=zz (show 0<=D by omega) a;exact⟨⟨a,q1⟩,d,by omega,r1⟩
theorem W8(n:Bool){v:Int}(h:0<=v):Ag (je n v)=v:=by
 rw[Dq,Ai];split<;>omega
theorem DG{n:Int}(h:Ag n<(Ao:Int)^9000):Bi (CN n)=true:=by
 have:=Nl h ae;unfold Bi;exact Ad this.1<|w4 this.2
theorem iE{a b:AF}(h:0<zk a+zk b):Eg a b=CN (zk a+zk b):=by
 unfold Eg;split
 ·next c=>
  have:=Ff c.2.2;rw[BG c.1,BG c.2.1]at h ⊢;exact(Cc ae).symm
 ·rfl
theorem NA:((1:Int),BV (1:Int))=CN 1:=by rw[Fk];rfl
namespace T173
theorem Qr{a b:AF}(q:Int)(h: -9223372036854775808<q/\q<9223372036854775808)(c:FI a b=CN q\/(-9223372036854775808<q/\FI a b=M5 (CN<|q+1) (1,[])/\q+1<9223372036854775808)):FI a b=(q,[]):=by
 rcases c with c|⟨e,c,d⟩
 ·rw[c,Cc h]
 ·rw[c,Cc ae];unfold M5 C0;rw[wd ⟨rfl,by decide⟩];unfold Eg;rw[wd ⟨rfl,rfl,Fh (by show _<=q+1+ -1;omega)<|by show q+1+ -1<_;omega⟩];show(q+1+ -1,[])=(q,[]);rw[show q+1+ -1=q by omega]
set_option maxHeartbeats 1000000 in
theorem ok[Srt]:Af Bb 173 GV:=by
 refine BL rR<|fun(i:(Int×List Int)×(Int×List Int)) u=>?_;obtain⟨a,b⟩:=i;have u:(Bi a&&Bi b&&decide (0<zk b))=true:=u;rw[zn,zn,w5]at u;obtain⟨⟨ha,hb⟩,hD⟩:=u;obtain⟨oa,_,na,_,va,ba⟩:=words ha;obtain⟨ob,_,nb,_,vb,bb⟩:=words hb;have G:Ag (zk b)=zk b:=by rw[Ai];omega
 have B:=AK<|zk a;have e:Ag (zk a)=if zk a<0 then -zk a else zk a:=rfl
 obtain⟨⟨t,q1⟩,x,r1,r2⟩:=mR (D:=zk b) B hD;obtain⟨z1,z2⟩:=VZ (m:=Ag<|zk a) hD;have l:qT (BW<|Ag<|zk a) (BW<|Ag<|zk b)=true:=by
  unfold qT;exact Ad (Ad (Ad (Ad na nb)<|w4<|Mj B ba)<|w4<|Mj (AK _) bb) (w4<|by rw[vb,G];exact hD)
 have fin:∀(q r:AF) v ob,JL GV.outs v ob=some (true,(q,r))->q=FI a b->r=CN (zk a % zk b)->Ac GV (a,b) v ob:=fun q r v ob h e1 e2=>ji h rfl (by rw[e1,e2];rfl)
 have j:Ends zN (L1 (decide (zk a<0)) (BW<|As (BW<|Ag<|zk a)/As (BW<|Ag<|zk b)) (BW<|As (BW<|Ag<|zk a) % As (BW<|Ag<|zk b)) 0 0 b.1 b.2) (Ac GV (a,b)):=by
  rw[va,vb,G];obtain⟨L,_,O⟩:=De (n:=Ag (zk a)/zk b) (k:=9000) t ae ae;obtain⟨nr,_,vr⟩:=De (n:=Ag (zk a) % zk b) (k:=9000) x ae ae;have C:Bi (CN<|je (decide (zk a<0))<|Ag (zk a) % zk b)=true:=DG (by rw[W8 _ x];omega);have M:Bi (CN<|je (decide (zk a<0))<|Ag (zk a)/zk b)=true:=DG (by rw[W8 _ t];omega);have J:Bi ((1:Int),BV (1:Int))=true:=by rw[NA];decide
  have es:IZ (CL<|je (decide (zk a<0))<|Ag (zk a) % zk b,CH<|je (decide (zk a<0))<|Ag (zk a) % zk b)=UT (je (decide (zk a<0))<|Ag (zk a) % zk b):=by
   show UT (zk<|CN _)=_;rw[Cm]
  refine zw (Am ..)<|zd L<|zd nr ?_;rw[O,vr];refine zw (AU ..)<|zd (B6 C).1 ?_;rw[es];refine zx (fun c=>?_)<|fun c=>?_
  ·have c:=w6 c;have o:je (decide (zk a<0)) (Ag (zk a) % zk b)<0:=by
    rw[K9]at c;split at c
    ·assumption
    ·split at c<;>omega
   have f:zk a<0:=by
    rcases ye (zk a) 0 with g|g
    ·exact g
    ·rw[Dq,wc<|by simp;omega]at o;omega
   have d:Ag (zk a) % zk b≠0:=by
    rw[Dq,wd<|w4 f]at o;omega
   obtain⟨z3,z4⟩:=z2 d;refine zd rfl (zd (Ad M J)<|zd (Ad C hb)<|yf<|fin (M5 (CN<|je (decide (zk a<0))<|Ag (zk a)/zk b) (1,BV 1)) (Eg (CN<|je (decide (zk a<0))<|Ag (zk a) % zk b) b) _ _ rfl ?_ ?_)
   ·unfold FI;rw[wd ⟨f,d⟩,Fk,Dq,wd<|w4 f]
   ·have ev:zk a= -Ag (zk a):=by rw[e,wd f];omega
    have F:zk (CN<|je (decide (zk a<0))<|Ag (zk a) % zk b)= -(Ag (zk a) % zk b):=by rw[Cm,Dq,wd<|w4 f]
    have K:zk a % zk b=zk b-Ag (zk a) % zk b:=by rw[<-z4, <-ev]
    rw[iE (by rw[F];omega),F,K];congr 1;omega
  ·have c:=w7 c;have o:¬(zk a<0/\Ag (zk a) % zk b≠0):=by
    rintro⟨f,d⟩;rw[Dq,wd<|w4 f,K9,wd ae]at c;omega
   refine yf<|fin (CN<|je (decide (zk a<0))<|Ag (zk a)/zk b) (CN<|je (decide (zk a<0))<|Ag (zk a) % zk b) _ _ rfl ?_ ?_
   ·unfold FI;rw[wc o]
   ·congr 1;rcases ye (zk a) 0 with g|g
    ·have d:Ag (zk a) % zk b=0:=by
      rcases ye 0 (Ag (zk a) % zk b)with g2|g2
      ·exact wh ⟨g,by omega⟩ o
      ·omega
     have ev:zk a= -Ag (zk a):=by rw[e,wd g];omega
     have:=(z1 d).2;rw[<-ev]at this;rw[this,d,Dq];split<;>rfl
    ·rw[Dq,wc (by simp;omega),e,wc ae]
 refine qu (Aj a b)<|zx (fun H=>zx (fun o=>zx (fun A=>?_)<|fun A=>?_)<|fun o=>?_)<|fun H=>?_
 ·have a2:=PZ H;have I:=PZ o;have A:a.1≠ -9223372036854775808:=by simpa using A
  have T:=Ff (n:=a.1) (by
   have:=oa;unfold Du at this;rw[zn]at this;exact this.1)
  have R:=Ff (n:=b.1) (by
   have:=ob;unfold Du at this;rw[zn]at this;exact this.1)
  have p:=BG a2;have s:=BG I;rw[p]at e;rw[s]at hD r2;rw[p,s]at t q1 x r1 z1 z2;rw[p]at r2;have w:yy a.1 b.1=if a.1<0 then -(Ag a.1/b.1)else Ag a.1/b.1:=by
   rw[e];split
   ·have:=Int.neg_tdiv (-a.1) b.1;rw[Int.neg_neg]at this;rw[this,ym ae]
   ·exact ym ae
  have d:ql a.1 b.1=if a.1<0 then -(Ag a.1 % b.1)else Ag a.1 % b.1:=by
   rw[e];split
   ·have:=Int.neg_tmod (-a.1) b.1;rw[Int.neg_neg]at this;rw[this,yn ae]
   ·exact yn ae
  refine zd (w4 ae) (zd (w4 ae)<|zx (fun c=>?_)<|fun c=>?_)
  ·have c:=w6 c;rw[d]at c;have f:a.1<0:=by split at c<;>omega
   rw[wd f]at c w d;rw[wd f]at e;obtain⟨z3,z4⟩:=z2 ae;have ev:a.1= -Ag a.1:=ae
   have P:Ag a.1/b.1<9223372036854775807:=by
    rcases ye (Ag a.1/b.1) 9223372036854775807 with g|g
    ·exact g
    ·have:=yb (Ag a.1) b.1;have:=zg (show 1<=b.1 by omega) t;omega
   refine yf<|fin (zc .i64<|zc .i64 (yy a.1 b.1)-1,[]) (zc .i64<|ql a.1 b.1+b.1,[]) _ _ rfl ?_ ?_
   ·rw[w,wr (-(Ag a.1/b.1)) ae ae,wr _ ae ae];refine(Qr _ ae<|.inr ⟨by omega,?_,by omega⟩).symm;unfold FI;rw[p,s,wd ⟨f,by omega⟩,show -(Ag a.1/b.1)-1+1= -(Ag a.1/b.1)by omega]
   ·rw[d,wr _ ae ae];have:a.1 % b.1=b.1-Ag a.1 % b.1:=by rw[<-z4, <-ev]
    rw[p,s,this,Cc ae];congr 1;omega
  ·have c:=w7 c;rw[d]at c;refine yf<|fin (zc .i64<|yy a.1 b.1,[]) (ql a.1 b.1,[]) _ _ rfl ?_ ?_
   ·have z:FI a b=CN (yy a.1 b.1):=by
     unfold FI;rw[p,s,w,wc (by rintro⟨N,S⟩;rw[wd N]at c;omega),Dq];by_cases h:a.1<0
     ·rw[wd<|w4 h,wd h]
     ·rw[wc (by simp;omega),wc h]
    have y: -9223372036854775808<yy a.1 b.1/\yy a.1 b.1<9223372036854775808:=by
     rw[w,e]at*;split<;>split at q1<;>split at t<;>omega
    rw[wr _ ae ae];exact(Qr _ y<|.inl z).symm
   ·rw[d];by_cases h:a.1<0
    ·rw[wd h]at c ⊢;have E:Ag a.1 % b.1=0:=ae
     rw[wd h]at e;have ev:a.1= -Ag a.1:=ae
     have:=(z1 E).2;rw[<-ev]at this;rw[p,s,this,E];rfl
    ·rw[wc h]at c ⊢;rw[wc h]at e;rw[p,s,e,Cc<|by rw[e]at x r1;omega]
 ·exact zd oa<|zd ob<|zd l j
 ·exact zd oa<|zd ob<|zd l j
 ·exact zd oa<|zd ob<|zd l j
end T173
theorem lZ[Srt]:Dn XF2:=
 Aa T173.ok (Aa T172.ok<|Aa T158.ok AO)
theorem mM{a:AF}(h:Du a=true):Uv a=CN (Ag<|zk a):=by
 have k:=pX h;obtain⟨i,b⟩:=EZ h;unfold Uv;by_cases h0:a.1<0
 ·rw[wd h0,Ai];unfold C0;have e:=k.1 h0;split
  ·next c=>rw[BG c.1]at e ⊢;rw[Cc ae];congr 1;omega
  ·congr 1;omega
 ·rw[wc h0];obtain⟨s,w⟩:=a;have h0:¬s<0:=h0;rcases b with b|⟨m,j,f⟩
  ·have b:w=[]:=b;subst b;have i: -9223372036854775808<=s/\s<9223372036854775808:=i;rw[E0,Ai,Cc ae];congr 1;omega
  ·obtain⟨_,d,z⟩:=EO m;have j:s=1\/s= -1:=j;have f:9223372036854775808<=As w:=f;have g:w≠[]:=by rintro rfl;exact wh f af
   have l:s=1:=ae
   subst l;rw[dP g,wc af,Ai];have:=SH (w:=w) false d z f;rw[wc af,wc af]at this;rw[show((As w).natAbs:Int)=As w by omega,this]
theorem iM(n:Int):IZ (CL n,CH n)=UT n:=by
 show UT (zk<|CN _)=_;rw[Cm]
theorem KN(n:Int):zk (CL n,CH n)=n:=Cm n
theorem Xh(m n:Int):jJ (CL m,CH m) (CL n,CH n)=CL (m % n)/\kB (CL m,CH m) (CL n,CH n)=CH (m % n):=by
 constructor
 ·show CL (zk (CN _) % zk (CN _))=_;rw[Cm,Cm]
 ·show CH (zk (CN _) % zk (CN _))=_;rw[Cm,Cm]
theorem FR{n:Int}(h:Bi (CN n)=true):Bi (CL n,CH n)=true:=h
theorem Nx{a:AF}(h:Du a=true):Od a=CL (Ag<|zk a)/\NR a=CH (Ag<|zk a):=by
 unfold Od NR;rw[mM h];exact⟨rfl,rfl⟩
theorem TE(x y:Nat):((x:Int) % (y:Int))=((x % y:Nat):Int):=rfl
theorem nF(a b:AF)(n:Int)(h:n=Sp.gI (zk a) (zk b)):(CL n,CH n)=(ME a b,MP a b):=by subst h;rfl
namespace T117
theorem nN(n:Nat)(h:(n:Int)<(Ao:Int)^9000):Bi (CN (n:Int))=true:=DG (by rw[Ai,Int.natAbs_natCast];exact h)
theorem Aq[Srt](g:Nat)(i L:Int)(c:∀n:Nat,(n:Int)<L->Bi (CN (n:Int))=true)(d:∀ob,Q (.agg [.dat i64<|CL (g:Int),.dat (.nlist u64)<|CH (g:Int)]) ob):∀(f x y:Nat),y<f->Nat.gcd x y=g->(x:Int)<L->(y:Int)<L->
  Ends XF2 (L1 i (CL (y:Int)) (CH (y:Int)) (CL (x:Int))<|CH (x:Int)) Q
 |0,x,y,h,_,_,_=>by omega
 |f+1,x,y,m,b,k,a=>by
  have l:Bi (CN (x:Int))=true:=c x k;have e:Bi (CN (y:Int))=true:=c y a
  refine zw (Am ..)<|zd (B6<|FR e).1 ?_;rw[iM,(Xh _ _).1,(Xh _ _).2,KN,TE];by_cases h0:y=0
  ·subst h0;rw[Nat.gcd_zero_right]at b;subst b;exact yt rfl (yf<|d _)
  ·have j:x % y<y:=Nat.mod_lt _ ae;refine zd ?_ (zd (Ad (Ad (FR l)<|FR e)<|w4 ae) ?_)
   ·rw[K9,wc ae,wd ae];rfl
   ·exact Aq g i L c d f y (x % y) ae (by rw[Nat.gcd_comm, <-Nat.gcd_rec,Nat.gcd_comm];exact b) a ae
set_option maxRecDepth 10000 in
theorem ok[Srt]:Af Bb 117 XF:=by
 refine BL lZ<|fun(i:(Int×List Int)×(Int×List Int)) c=>?_;obtain⟨a,b⟩:=i;have c:(Bi a&&Bi b)=true:=c;rw[zn]at c;obtain⟨ha,hb⟩:=c;have d:=(B6 ha).1;have ob:=(B6 hb).1;have f:=bounds ha;have e:=bounds hb;rw[Ai]at f e;refine qu (Aj a b)<|zd d<|zd ob ?_;show Ends XF2 (L1 0 (Od b) (NR b) (Od a)<|NR a) _;rw[(Nx d).1,(Nx d).2,(Nx ob).1,(Nx ob).2,Ai,Ai];refine Aq (Nat.gcd (zk a).natAbs (zk b).natAbs) 0 _ nN (fun ob=>ji rfl rfl (nF a b _ ?_)) ((zk b).natAbs+1) _ _ (Nat.lt_succ_self _) rfl f e;rw[FN];rfl
end T117
theorem AaY(n:Nat)(h:n<9223372036854775808):Hc .i64 (n:Int) 1=((n % 2:Nat):Int):=by
 have e:(yj 64 (n:Int)&&&yj 64 1).toNat=n % 2:=by
  rw[BitVec.toNat_and];have b:(yj 64 (n:Int)).toNat=n:=by rw[BitVec.ofInt_natCast,BitVec.toNat_ofNat];exact Nat.mod_eq_of_lt ae
  have a:(yj 64 1).toNat=2^1-1:=af
  rw[b,a,Nat.and_two_pow_sub_one_eq_mod]
 show zc .i64 (((yj 64 (n:Int)&&&yj 64 1).toNat:Nat):Int)=_;rw[e];exact wr _ ae ae
namespace T156
theorem UL{c:Int}(h:c≠0):1<=Ag c:=by rw[Ai];omega
theorem XA(c:Int):∀k:Nat,Ag (c^k)=Ag c^k
 |0=>by rw[yi,yi];rfl
 |k+1=>by rw[zt,zt,Jt,XA c k]
theorem one_le_pow{c:Int}(h:1<=c):∀k:Nat,1<=c^k
 |0=>by rw[yi];decide
 |k+1=>by
  rw[zt];have:=zg (one_le_pow h k) (show 0<=c by omega);omega
theorem AbA{p c L:Int}{k:Nat}(n:1<L)(h:Ag (p*c^k)<L)(l:c=0->Ag p<=1)(m:c≠0->p≠0):Ag p<L/\(1<=k->Ag c<L)/\(2<=k->Ag (c*c)<L)/\(1<=k->Ag (p*c)<L):=by
 by_cases b:c=0
 ·subst b;have:=l rfl;have e:Ag 0=0:=rfl;exact⟨by omega,fun _=>by rw[e];omega,fun _=>by rw[yu,e];omega,fun _=>by rw[yu,e];omega⟩
 ·have i:=UL<|m b;have a:=UL b;rw[Jt,XA]at h;rw[Jt,Jt];generalize Ag p=P at*;generalize Ag c=C at*;have g:1<=C^k:=one_le_pow a k;have a1:P<=P*C^k:=by
   have:=zh g (show 0<=P by omega);omega
  have f:C^k<=P*C^k:=by
   have:=zg i (show 0<=C^k by omega);omega
  refine⟨by omega,fun d=>?_,fun d=>?_,fun d=>?_⟩
  ·obtain⟨j,rfl⟩:∃j,k=j+1:=⟨k-1,by omega⟩;rw[zt]at f h;have:=zg (one_le_pow a j) (show 0<=C by omega);omega
  ·obtain⟨j,rfl⟩:∃j,k=j+2:=⟨k-2,by omega⟩;have e:C^(j+2)=C^j*(C*C):=by rw[zt,zt,zp]
   rw[e]at f h;have:=zg (one_le_pow a j) (zz (show 0<=C by omega) (show 0<=C by omega));omega
  ·obtain⟨j,rfl⟩:∃j,k=j+1:=⟨k-1,by omega⟩;have e:P*C^(j+1)=C^j*(P*C):=by rw[zt,yh]
   rw[e]at h;have:=zg (one_le_pow a j) (zz (show 0<=P by omega) (show 0<=C by omega));omega
theorem ZE{p c:Int}{k j:Nat}(h:k=2*j):p*(c*c)^j=p*c^k:=by
 subst h;rw[Int.pow_mul,zt,zt,yi,zy]
theorem dJ{p c:Int}{k j:Nat}(h:k=2*j+1):p*c*(c*c)^j=p*c^k:=by
 subst h;rw[zt,Int.pow_mul,show c^2=c*c by rw[zt,zt,yi,zy],zp,zq c]
theorem AaA{x:Int}(h:x<(18446744073709551616:Int)^(4000:Nat)):x<(Ao:Int)^9000:=
 Int.lt_of_lt_of_le h (AP (b:=Ao) af ae)
theorem Aq[Srt](o1 R:Int)(hR:Ag R<(18446744073709551616:Int)^(4000:Nat))(l:∀ob,Q (.agg [.dat i64<|CL R,.dat (.nlist u64)<|CH R]) ob):
  ∀(f k:Nat) (p:Int) (a:AF),k<f->k<=100000->(1<=k->Bi a=true)->p*zk a^k=R->(zk a=0->Ag p<=1)->(zk a≠0->p≠0)->
   Ends zL (L1 (k:Int) (CL p) (CH p) o1 a.1 a.2) Q
 |0,k,p,a,h,_,_,_,_,_=>by omega
 |f+1,k,p,a,D,A,y,i,t,r=>by
  have v:(1:Int)<(18446744073709551616:Int)^(4000:Nat):=Int.lt_of_lt_of_le (show(1:Int)<18446744073709551616^(1:Nat)by decide) (AP (b:=18446744073709551616) af ae);rw[<-i]at hR;obtain⟨s1,s2,s3,s4⟩:=AbA v hR t r;by_cases h0:k=0
  ·subst h0;rw[yi,yz]at i;subst i;exact zw (Am ..) (yt (by simp)<|yf<|l _)
  ·have w:Bi (CL p,CH p)=true:=DG<|AaA s1;have j:Bi a=true:=y ae;have C:qv (k:Int) ((2:Int)^(1:Nat))=((k/2:Nat):Int):=by
    rw[qd _ af];rfl
   have s:(ER (CL p,CH p) a,EP (CL p,CH p) a)=CN (p*zk a):=by
    show CN (zk (CN p)*zk a)=_;rw[Cm]
   have o:ER (CL p,CH p) (a.1,a.2)=CL (p*zk a):=wi Prod.fst s;have m:EP (CL p,CH p) (a.1,a.2)=CH (p*zk a):=wi Prod.snd s;have n:zk (E3 a a)=zk a*zk a:=Dm a a;have u:∀q:Int,1<k->q*(zk a*zk a)^(k/2)=p*zk a^k->(zk a=0->Ag q<=1)->(zk a≠0->q≠0)->Ends zL (L1 ((k/2:Nat):Int) (CL q) (CH q) o1 (ER (a.1,a.2) (a.1,a.2))<|EP (a.1,a.2) (a.1,a.2)) Q:=by
    intro q e g x B;refine Aq o1 R (by rw[i]at hR;exact hR) l f (k/2) q (E3 a a) ae ae (fun _=>DG<|AaA<|s3 ae) (by rw[n,g,i]) (fun z=>x ?_)<|fun z=>B ?_
    ·rw[n]at z;rcases Int.mul_eq_zero.1 z with z|z<;>exact z
    ·rintro z2;rw[n,z2]at z;exact z rfl
   have st:∀q:Int,k=1->q=R->Ends zL (L1 ((k/2:Nat):Int) (CL q) (CH q) o1 a.1 a.2) Q:=by
    intro q e g;subst e g;exact zw (Am ..) (yt (by simp)<|yf<|l _)
   refine zw (Am ..) (zd (w4 ae) ?_);rw[AaY k ae,C,o,m];refine zx (fun c=>?_)<|fun c=>?_
   ·have c:((k % 2:Nat):Int)=1:=by simpa using c
    refine zd (Ad w j)<|zx (fun d=>zd (Ad j j)<|zd rfl ?_)<|fun d=>zd rfl ?_
    ·have d:=w6 d;refine u _ ae (dJ ae) (fun z=>by rw[z,yu];decide)<|fun z=>?_;exact Int.mul_ne_zero (r z) z
    ·have d:=w7 d;have e:k=1:=ae
     refine st _ e ?_;rw[<-i,e,zt,yi,zy]
   ·have c:((k % 2:Nat):Int)≠1:=by simpa using c
    refine zx (fun d=>zd (Ad j j)<|zd rfl ?_)<|fun d=>?_
    ·have d:=w6 d;exact u _ ae (ZE ae) t r
    ·have d:=w7 d;omega
theorem qR[Srt]:Dn zL:=Aa T97n.ok<|Aa T96.ok AO
theorem ok[Srt]:Af Bb 156 aV:=by
 refine BL qR<|fun(i:(Int×List Int)×Int) b=>?_;obtain⟨a,k⟩:=i;have b:(Bi a&&(decide (0<=k)&&decide (k<=100000)&&decide (Ag (Sp.pI (zk a) k)<(18446744073709551616:Int)^(4000:Nat))))=true:=b;rw[zn,zn,zn,w5,w5,w5,Vg]at b;obtain⟨ha,⟨k0,k1⟩,hR⟩:=b;obtain⟨n,rfl⟩:=Int.eq_ofNat_of_zero_le k0;have e1:BV 1=CH 1:=by rw[Fk];rfl
 refine qu (Aj a n)<|zd rfl ?_;rw[e1];refine Aq (Q:=Ac aV (a,(n:Int))) 0 (zk a^n) hR (fun ob=>ji rfl rfl ?_) (n+1) n 1 a ae ae (fun _=>ha) (zy _) (fun _=>by decide) (fun _=>by decide);show CN _=CN (Sp.pI (zk a) (n:Int));rw[Vg];rfl
end T156
end Go.Pe
namespace Go.Sp
theorem N9{l:List Int}(h:JU l=true):l.length<=20000/\Av B9 l:=by
 unfold JU at h;rw[zn,w5,List.all_eq_true]at h;exact⟨h.1,fun d a=>by
  grind⟩
theorem Ky{l:List Int}(b:l.length<=20000)(c:Av B9 l):JU l=true:=by
 unfold JU;rw[zn,w5,List.all_eq_true];exact⟨b,fun d a=>by
  have:=c d a;grind⟩
theorem tZ{l:List Int}(h:hR l=true):l.length<=9000/\Av B9 l:=by
 unfold hR at h;grind [N9]
theorem Yr{l:List Int}(b:l.length<=9000)(a:Av B9 l):hR l=true:=by
 unfold hR;rw[Ky ae a,Bool.true_and];grind
theorem Bo{l:List Int}(h:A1 l=true):l.length<=20000/\Av B9 l/\nz l:=by
 unfold A1 at h;rw[zn]at h;have:=N9 h.1;exact⟨this.1,this.2,by
  have:=h.2;unfold yS at this;have:l.getLast?≠some 0:=ah;exact this⟩
theorem kE{l:List Int}(b:l.length<=20000)(c:Av B9 l)(a:nz l):A1 l=true:=by
 unfold A1 yS;rw[Ky b c,Bool.true_and];exact w4 a
theorem Gx{l:List Int}(h:Av B9 l)(i:Nat):0<=l.getD i 0/\l.getD i 0<1000000000:=PG af h i
theorem Fb{l:List Int}{x:Int}(h:Av B9 l)(a:0<=x/\x<1000000000):Av B9 (l++[x]):=(by grind [Av])
theorem Ca(l:List Int)(x:Int):val B9 (l++[x])=val B9 l+(B9:Int)^l.length*x:=by
 grind [CR,val]
theorem KZ(i:Nat)(c:Int):(B9:Int)^(i+1)*c=(B9:Int)^i*(1000000000*c):=by
 grind
theorem EI{l:List Int}(h:Av B9 l):Aw l=BA (Ak l):=XV af h
theorem Ny{n:Int}{k:Nat}(_:0<=n)(h:n<(B9:Int)^k):(BA n).length<=k:=by
 refine Su B9 af k n.toNat n.toNat ?_;grind
theorem Fp{n:Int}{k:Nat}(h0:0<=n)(h:n<(B9:Int)^k)(a:k<=9000):A1 (BA n)=true/\hR (BA n)=true/\Ak (BA n)=n/\(BA n).length<=k:=by
 have c:=Ny h0 h;have d:=HM (b:=B9) af n;grind [kE,XC,C3,A1,BA,hR,Ak]
end Go.Sp
namespace Go.Pe
open Sp
open Go.Det
theorem Sw[Srt]:Dn lX:=fun g sp h=>by cases h
namespace T188
theorem Aq[Srt]{Q:PV->Ob->Prop}:∀(n:Nat) (w:List Int),w.length=n->n<=20000->(∀ob,Q (.dat li<|Aw w) ob)->Ends lX (L1 w) Q
 |0,w,d,_,b=>by
  have:w=[]:=ah;subst this;exact zw (Am ..) (yt (by simp)<|yf<|b _)
 |n+1,w,d,h,b=>by
  obtain⟨p,x,rfl⟩:∃p x,w=p++[x]:=by
   have a:w≠[]:=ah
   exact⟨w.dropLast,w.getLast a,(List.dropLast_concat_getLast a).symm⟩
  have e:p.length=n:=ah
  have e1:zc .i64 (((p++[x]).length:Int)-1)=(n:Int):=by grind [wr]
  have g:(p++[x]).getD n 0=x:=ah;have f:(p++[x]).take n=p:=ah
  refine zw (Am ..) (zd (by simp) ?_);rw[e1,zf,g,f];refine zd ah (zx (fun c=>zd ah ?_)<|fun c=>?_)
  ·have c:x=0:=ah
   subst c;rw[Ir]at b;exact Aq n p e ae b
  grind [Io,XY,yf]
theorem ok[Srt]:Af Bb 188 S1:=by
 refine BL Sw<|fun(w:List Int) a=>?_;have a:w.length<=20000:=w6 a;exact qu (Aj w)<|Aq w.length w rfl a (fun ob=>ji rfl rfl rfl)
end T188
theorem Sn[Srt]:Dn aM:=Aa T188.ok AO
theorem T128.ok[Srt]:Af Bb 128 GN:=by
 refine BL Sn<|fun(i:Bool×List Int) hi=>?_;obtain⟨n,w⟩:=i;refine qu (T128.Aj n w)<|zd hi<|zx (fun c=>yf<|ji rfl rfl ?_)<|fun c=>yf<|ji rfl rfl ?_
 ·show(decide (((Aw w).length:Int)>0),Aw w)=(Cy n w,Aw w);unfold Cy;congr 1;grind [jf]
 grind [Cy,GN]
namespace T130
theorem Aq[Srt]{Q:PV->Ob->Prop}(a b:List Int)(f:Av zi a)(g:Av zi b)(m:a.length=b.length)(l:b.length<=20000)(k:∀ob,Q (.dat i64<|Cb (Ak a)<|Ak b) ob):∀(i:Nat),i<=a.length->a.drop i=b.drop i->Ends lX (L1 a b<|(i:Int)-1) Q
 |0,n,j=>by
  simp_all [Cb,zw,Am]
 |i+1,n,j=>by
  have e1:(((i+1:Nat):Int)-1)=(i:Int):=ae
  have h:a.drop i=a.getD i 0::a.drop (i+1):=Cr ae;have db:b.drop i=b.getD i 0::a.drop (i+1):=by grind [Cr]
  rw[e1];refine zw (Am ..) (zd (by simp) ?_);refine zd ah (zd ah (zx (fun d=>?_)<|fun d=>zd ah<|zd ah<|zx (fun c=>?_)<|fun c=>?_))
  ·have d:=w6 d;have:=Jr (b:=zi) af f g h db d;simp_all [Cb,Ak]
  ·have c:=w6 c;have:=Jr (b:=zi) af g f db h c;have e:Cb (Ak a) (Ak b)=1:=by unfold Cb Ak;omega
   simp_all
  ·rw[wr ((i:Int)-1) ae ae];exact Aq a b f g m l k i ae ah
theorem ok[Srt]:Af Bb 130 XG:=by
 refine BL Sw<|fun(i:List Int×List Int) f=>?_;obtain⟨a,b⟩:=i;have f:(A1 a&&A1 b)=true:=f;rw[zn]at f;obtain⟨a1,a2,a3⟩:=Bo f.1;obtain⟨b1,b2,b3⟩:=Bo f.2;have g:∀ob,Ac XG (a,b) (.dat i64<|Cb (Ak a)<|Ak b) ob:=fun ob=>ji rfl rfl rfl
 refine qu (Aj a b)<|zx (fun c=>zx (fun d=>?_)<|fun d=>?_)<|fun c=>?_
 ·simp_all [Cb,Ak,Ex]
 ·have d:=w7 d;have c:(a.length:Int)≠b.length:=ah
  have:=Ex (b:=zi) af b2 a2 a3 ae;have e:Cb (Ak a) (Ak b)=1:=by
   unfold Cb Ak;omega
  simp_all
 grind [wr,Aq]
end T130
theorem Za{x y o c:Int}(b:0<=x/\x<1000000000)(d:0<=y/\y<1000000000)(e:0<=o/\o<1000000000)(f:0<=c/\c<1000000000):
  zc .i64 (zc .i64 (o+zc .i64 (x*y))+c)=o+x*y+c/\ql (o+x*y+c) 1000000000=(o+x*y+c) % 1000000000/\zc .i64 (yy (o+x*y+c) 1000000000)=(o+x*y+c)/1000000000/\
  (0<=(o+x*y+c)/1000000000/\(o+x*y+c)/1000000000<1000000000)/\(0<=(o+x*y+c) % 1000000000/\(o+x*y+c) % 1000000000<1000000000):=by
 have h0:0<=x*y:=zz b.1 d.1;have g:x*y<=999999999*999999999:=by
  have a:=zh (show y<=999999999 by omega) b.1;omega
 grind [wr]
namespace T132
theorem A8[Srt](x y:List Int)(n i:Nat)(E:i<x.length)(C:n=x.length+y.length)(h:x.length<=9000)(e:y.length<=9000)(o:Av zi x)(l:Av zi y)(p:List Int)(w:p.length=i+y.length)(a:Av zi p)
  (m:∀q c,q.length=i+y.length->Av zi q->(0<=c/\c<1000000000)->ze zi q+(zi:Int)^(i+y.length)*c=ze zi p+(zi:Int)^i*(x.getD i 0*ze zi y)->Ends aM (L1 x y n ((i+1:Nat):Int)<|(q++[c])++zl (n-(i+y.length+1)) 0) Q):∀(k j:Nat) (q:List Int) (c:Int),j+k=y.length->q.length=i+j->Av zi q->(0<=c/\c<1000000000)->ze zi q+(zi:Int)^(i+j)*c=ze zi (p.take<|i+j)+(zi:Int)^i*(x.getD i 0*ze zi (y.take j))->
  Ends aM (L2 x y n i c j<|q++(p.drop (i+j)++zl (n-(i+y.length)) 0)) Q
 |0,j,q,c,d,b,g,f,G=>by
  have d:j=y.length:=ae
  subst d;have e1:zc .i64 ((i:Int)+(y.length:Int))=((i+y.length:Nat):Int):=by rw[wr _ ae ae];omega
  have e2:zc .i64 ((i:Int)+1)=((i+1:Nat):Int):=by grind [wr]
  have s:p.drop (i+y.length)=[]:=ah;have J:(q++zl (n-(i+y.length)) (0:Int)).getD (i+y.length) 0=0:=by
   have:n-(i+y.length)=(n-(i+y.length+1))+1:=ae
   simp_all
  refine zw (AU ..) (yt (by simp) ?_);rw[e1,e2,zf,s,List.nil_append,J,Int.zero_add,wr c ae ae,Jl q n _ c b ae];refine zd (by simp;omega) (zd (by simp;omega)<|zd (by simp;omega)<|zd (by simp;omega)<|m q c b g f ?_);grind
 |k+1,j,q,c,d,b,g,f,G=>by
  have t:=Gx o i;have I:=Gx l j;have H:=Gx a<|i+j;have N:p.drop (i+j)=p.getD (i+j) 0::p.drop (i+j+1):=Cr ae;have e1:zc .i64 ((i:Int)+(j:Int))=((i+j:Nat):Int):=by rw[wr _ ae ae];omega
  have e2:=wn (i:=j) ae;have B:(q++(p.drop (i+j)++zl (n-(i+y.length)) (0:Int))).getD (i+j) 0=p.getD (i+j) 0:=by
   grind [EJ]
  have s1:∀z,(q++(p.drop (i+j)++zl (n-(i+y.length)) (0:Int))).set (i+j) z=(q++[z])++(p.drop (i+(j+1))++zl (n-(i+y.length)) 0):=by
   grind [Df]
  obtain⟨L,A,D,u,v⟩:=Za t I H f;refine zw (AU ..) (zd ah ?_);rw[e1,e2,zf,zf,zf,B,L,A,D,s1];have r:(decide ((0:Int)<=((i+j:Nat):Int))&&decide (((i+j:Nat):Int)<(n:Int)))=true:=by simp;omega
  refine zd r (zd ah<|zd ah<|zd (by simp;omega)<|zd rfl (zd r<|zd ah<|zd rfl ?_));refine A8 x y n i E C h e o l p w a m k (j+1) _ _ ae (by simp;omega) (Fb g v) u ?_;have K:i+(j+1)=(i+j)+1:=ae
  have M:(zi:Int)^i*(x.getD i 0*((zi:Int)^j*y.getD j 0))=(zi:Int)^(i+j)*(x.getD i 0*y.getD j 0):=by
   grind
  have F:(p.getD (i+j) 0+x.getD i 0*y.getD j 0+c) % 1000000000+1000000000*((p.getD (i+j) 0+x.getD i 0*y.getD j 0+c)/1000000000)=x.getD i 0*y.getD j 0+p.getD (i+j) 0+c:=by
   omega
  rw[K,Ca,b,KZ,qg, <-zm,F,AD _ p<|i+j,AD _ y j,zm,zm,zm<|x.getD i 0,zm,M];omega
theorem Aq[Srt](x y:List Int)(n:Nat)(h:n=x.length+y.length)(a:x.length<=9000)(b:y.length<=9000)(g:Av zi x)(l:Av zi y)(o:∀ob,Q (.dat li<|BA<|Ak x*Ak y) ob):∀(k i:Nat) (p:List Int),i+k=x.length->p.length=i+y.length->Av zi p->ze zi p=ze zi (x.take i)*ze zi y->
  Ends aM (L1 x y n i<|p++zl (n-(i+y.length)) 0) Q
 |0,i,p,m,j,f,d=>by
  subst m;have s:Ak p=Ak x*Ak y:=by
   rw[List.take_length]at d;exact d
  refine zw (Am ..) (yt (by simp) ?_);grind [zd,yf,EI]
 |k+1,i,p,m,j,f,d=>by
  refine zw (Am ..) (zd ah ?_);have:=A8 (Q:=Q) x y n i ae h a b g l p j f (fun q c t e r s=>by
   have:=Aq x y n h a b g l o k (i+1) (q++[c]) ae ah (Fb e r) (by
    grind [Ca,AD])
   grind) y.length 0 (p.take i) 0 ae ah (AM f i) af (by simp[ze])
  rw[Nat.add_zero, <-yd,qn]at this;omega
theorem ok[Srt]:Af Bb 132 Xr:=by
 refine BL Sn<|fun(i:List Int×List Int) a=>?_;obtain⟨x,y⟩:=i;have a:(Sp.hR x&&Sp.hR y)=true:=a;rw[zn]at a;obtain⟨x1,x2⟩:=tZ a.1;obtain⟨y1,y2⟩:=tZ a.2;have e1:zc .i64 ((x.length:Int)+(y.length:Int))=((x.length+y.length:Nat):Int):=by grind [wr]
 refine qu (Aj x y) ?_;conv=>zeta
 rw[e1,zf];refine zd (by simp;omega) ?_;have:=Aq (Q:=Ac Xr (x,y)) x y (x.length+y.length) rfl x1 y1 x2 y2 (fun ob=>ji rfl rfl rfl) x.length 0 (zl y.length 0) ae (by simp) (fun d b=>by grind) (by grind [Lw,ze]);rw[Nat.zero_add,List.replicate_append_replicate,show y.length+(x.length+y.length-y.length)=x.length+y.length by omega]at this;omega
end T132
theorem ZR{r x d:Int}(a:0<d/\d<1000000000)(e:0<=r/\r<d)(c:0<=x/\x<1000000000):
  zc .i64 (zc .i64 (r*1000000000)+x)=r*1000000000+x/\zc .i64 (yy (r*1000000000+x) d)=(r*1000000000+x)/d/\ql (r*1000000000+x) d=(r*1000000000+x) % d/\
  (0<=(r*1000000000+x)/d/\(r*1000000000+x)/d<1000000000)/\(0<=(r*1000000000+x) % d/\(r*1000000000+x) % d<d)/\(r*1000000000+x)/d*d+(r*1000000000+x) % d=r*1000000000+x:=by
 have h:=yb (r*1000000000+x) d;rw[zq]at h;have b:0<=(r*1000000000+x)/d:=qh ae ae;have q1:(r*1000000000+x)/d<1000000000:=yw a.1 ae;refine⟨?_,?_,ah,⟨b,q1⟩,⟨yp _ ae,yk _ a.1⟩,h⟩
 ·grind [wr]
 grind [wr]
namespace T187
theorem Aq[Srt](a:List Int)(d:Int)(e:Av zi a)(g:0<d/\d<1000000000)(n:a.length<=20000)(j:∀q r ob,Av zi q->(0<=r/\r<d)->Ak a=Ak q*d+r->Q (.tup [.dat li<|Aw q,.dat i64 r]) ob):∀(i:Nat) (q:List Int) (r:Int),i+q.length=a.length->Av zi q->(0<=r/\r<d)->ze zi (a.drop i)=ze zi q*d+r->
  Ends aM (L1 a d a.length r ((i:Int)-1)<|zl i 0++q) Q
 |0,q,r,p,b,f,k=>by
  refine zw (Am ..) (yt (by simp) ?_);grind [zd,yf,Ak]
 |i+1,q,r,p,b,f,k=>by
  have e1:(((i+1:Nat):Int)-1)=(i:Int):=ae
  have h:=Gx e i;obtain⟨u,l,t,o,m,v⟩:=ZR g f h;have s:a.drop i=a.getD i 0::a.drop (i+1):=Cr ae;have es:∀x,(zl (i+1) (0:Int)++q).set i x=zl i 0++(x::q):=by
   grind [qp,Df]
  rw[e1];refine zw (Am ..) (zd (by simp) ?_);rw[zf,es,wr ((i:Int)-1) ae ae,u,l,t];refine zd ah (zd ah (zd ah (zd ah<|zd ah ?_)));refine Aq a d e g n j i _ _ ah (fun x c=>?_) m ?_
  ·rcases qo.1 c with rfl|c
   ·exact o
   ·exact b x c
  ·rw[s];show a.getD i 0+(1000000000:Int)*ze zi (a.drop<|i+1)=((r*1000000000+a.getD i 0)/d+(1000000000:Int)*ze zi q)*d+(r*1000000000+a.getD i 0) % d;grind
theorem ok[Srt]:Af Bb 187 WI:=by
 refine BL Sn<|fun(i:List Int×Int) c=>?_;obtain⟨a,d⟩:=i;have c:(JU a&&decide (0<d)&&decide (d<1000000000))=true:=c;rw[zn,zn,w5,w5]at c;obtain⟨⟨ha,d0⟩,d1⟩:=c;obtain⟨hl,hda⟩:=N9 ha;refine qu (Aj a d) ?_;conv=>zeta
 rw[zf,wr ((a.length:Int)-1) ae ae];refine zd (by simp;omega) ?_;have:=Aq (Q:=Ac WI (a,d)) a d hda ⟨d0,d1⟩ hl (fun q r ob g h f=>?_) a.length [] 0 (by simp) (fun x e=>by cases e) ae (by grind [ze])
 ·grind
 ·refine ji rfl rfl ?_;show(Aw q,r)=(BA<|Ak a/d,Ak a % d);obtain⟨u1,u2⟩:=(qe (a:=Ak a) (b:=d) (r:=r) (q:=Ak q) d0).2 ah;grind [EI]
end T187
theorem pH[Srt]:Dn LX:=
 Aa T130.ok (Aa T188.ok<|Aa T187.ok<|Aa T132.ok AO)
theorem RB{t x y w:Int}(c:0<=t/\t<1000000000)(d:0<=x/\x<1000000000)(f:0<=y/\y<1000000000)(e:0<=w/\w<=1000000000):
  zc .i64 (zc .i64 (t*x)+w)=t*x+w/\ql (t*x+w) 1000000000=(t*x+w) % 1000000000/\zc .i64 (yy (t*x+w) 1000000000)=(t*x+w)/1000000000/\
  zc .i64 ((t*x+w)/1000000000+1)=(t*x+w)/1000000000+1/\zc .i64 (y-(t*x+w) % 1000000000)=y-(t*x+w) % 1000000000/\(0<=(t*x+w)/1000000000/\(t*x+w)/1000000000<1000000000)/\(0<=(t*x+w) % 1000000000/\(t*x+w) % 1000000000<1000000000):=by
 have h0:0<=t*x:=zz c.1 d.1;have g:t*x<=999999999*999999999:=by
  have a:=zh (show x<=999999999 by omega) c.1;have b:=zg (show t<=999999999 by omega) (show(0:Int)<=999999999 by omega);omega
 generalize t*x=P at*;have e1:zc .i64 P=P:=wr _ ae ae;have e3:yy (P+w) 1000000000=(P+w)/1000000000:=ym ae;refine⟨?_,yn ae,?_,wr _ ae ae,wr _ ae ae,by omega,by omega⟩
 ·rw[e1];exact wr _ ae ae
 ·rw[e3];exact wr _ ae ae
theorem ZF(w r:List Int)(i:Nat)(h:i<w.length):(w++r).getD i 0=w.getD i 0:=by
 rw[zr,zr,List.getElem?_append_left h]
namespace T127
theorem gW{lo w z:List Int}{h:Int}{j i:Nat}(a:lo.length=j)(b:i<w.length):(lo++(w++h::z)).getD (i+j) 0=w.getD i 0:=by
 rw[G5 _ _ _ _ a,ZF _ _ _ b]
theorem sW{lo w z:List Int}{h:Int}{j i:Nat}(x:Int)(a:lo.length=j)(b:i<w.length):(lo++(w++h::z)).set (i+j) x=lo++(w.set i x++h::z):=by
 rw[Ra _ _ _ _ _ a,List.set_append_left _ _ b]
theorem gH{lo w z:List Int}{h:Int}{j n:Nat}(a:lo.length=j)(b:w.length=n):(lo++(w++h::z)).getD (n+j) 0=h:=by
 rw[G5 _ _ _ _ a];exact EJ _ _ _ _ b
theorem sH{lo w z:List Int}{h:Int}{j n:Nat}(x:Int)(a:lo.length=j)(b:w.length=n):(lo++(w++h::z)).set (n+j) x=lo++(w++x::z):=by
 rw[Ra _ _ _ _ _ a];congr 1;exact Df _ _ _ _ b
theorem NJ(w z:List Int)(h:Int)(a:ze zi z=0):ze zi (w++h::z)=ze zi w+(zi:Int)^w.length*h:=by
 rw[CR];show _+_*(h+(zi:Int)*ze zi z)=_;rw[a,yu,qm]
theorem Cu[Srt](p a e:Nat)(B D v lo z:List Int)(n j:Nat)(t h' X:Int)(R:v.length=n)(G:n<=9000)(l:lo.length=j)(N:j<=9000)(E:n+j<a)(H:j<e)(x:j<B.length)(L:Av zi v)(M:ze zi z=0)(y:Av zi z)(O: -2000000000<=h'/\h'<=2000000000)
  (P:0<=X/\X<(zi:Int)^n) (u:a=j+n+1+z.length)
  (m:∀r:List Int,r.length=n+1+z.length->Av zi r->ze zi r=X->Ends LX (L2 p v n a e (zc .i64<|(j:Int)-1) (B.set j t) (lo++r) D) Q):
  ∀(k i:Nat) (w:List Int) (c:Int),i+k=n->w.length=n->Av zi w->(0<=c/\c<=1)->ze zi w+(zi:Int)^n*h'=X-ze zi v+ze zi (v.take i)-(zi:Int)^i*c->
   Ends LX (L5 p v n a e j t c i B (lo++(w++h'::z)) D) Q
 |0,i,w,c,I,q,s,S,J=>by
  have I:i=n:=ae
  subst I;have e1:zc .i64 ((j:Int)+(i:Int))=((i+j:Nat):Int):=by rw[wr _ ae ae];omega
  have C:v.take i=v:=zu ae;rw[C]at J;have a1:=Az (b:=zi) af s;have a2:=Br (b:=zi) af s;rw[q]at a2;have K:=Bc (b:=zi) af i;have F:ze zi w+(zi:Int)^i*(h'+c)=X:=by rw[zm];omega
  have f:h'+c=0:=by
   rcases Int.lt_trichotomy (h'+c) 0 with g|g|g
   ·have:=zh (show h'+c<= -1 by omega)<|zo K;rw[jj,yz]at this;omega
   ·exact g
   ·have:=zh (show 1<=h'+c by omega)<|zo K;rw[yz]at this;omega
  have h:i+j<(lo++(w++h'::z)).length:=by simp;omega
  refine zw (FO ..) (yt (by simp) ?_);rw[e1,zf,zf,gH l q,sH _ l q,wr (h'+c) ae ae,f];have A:(decide ((0:Int)<=((i+j:Nat):Int))&&decide (((i+j:Nat):Int)<(a:Int)))=true:=by simp;omega
  refine zd A (zd (w4 h)<|zd A<|zd (w4 h)<|zd (by simp;omega)<|zd (w4 x)<|m _ (by simp;omega) (Ga s<|fun d o=>?_) ?_)
  ·rcases qo.1 o with rfl|o
   ·decide
   ·exact y d o
  ·rw[NJ _ _ _ M,q, <-F,f]
 |k+1,i,w,c,I,q,s,S,J=>by
  have T:=Gx L i;have V:=Gx s i;have e1:zc .i64 ((i:Int)+(j:Int))=((i+j:Nat):Int):=by rw[wr _ ae ae];omega
  have e2:=wn (i:=i) ae;have e3:zc .i64 (zc .i64 (w.getD i 0+v.getD i 0)+c)=w.getD i 0+v.getD i 0+c:=by
   rw[wr (w.getD i 0+v.getD i 0) ae ae];exact wr _ ae ae
  have e4:ql (w.getD i 0+v.getD i 0+c) 1000000000=(w.getD i 0+v.getD i 0+c) % 1000000000:=yn ae;have F:zc .i64 (yy (w.getD i 0+v.getD i 0+c) 1000000000)=(w.getD i 0+v.getD i 0+c)/1000000000:=by
   rw[ym ae];exact wr _ ae ae
  have h:i+j<(lo++(w++h'::z)).length:=by simp;omega
  refine zw (FO ..) (zd (by simp;omega) ?_);rw[e1,e2,zf,zf,gW l ae,sW _ l ae,e3,e4,F];have A:(decide ((0:Int)<=((i+j:Nat):Int))&&decide (((i+j:Nat):Int)<(a:Int)))=true:=by simp;omega
  refine zd A (zd (w4 h)<|zd (by simp;omega)<|zd rfl (zd A<|zd (w4 h)<|zd rfl ?_));refine Cu p a e B D v lo z n j t h' X R G l N E H x L M y O P u m k (i+1) _ _ ae (by simp[q]) (G8 s i<|by show 0<=_/\_<(1000000000:Int);omega) ae ?_;rw[Hi _ _ _ _ ae,KZ,AD];have U:(zi:Int)^i*((w.getD i 0+v.getD i 0+c) % 1000000000-w.getD i 0)=(zi:Int)^i*v.getD i 0+(zi:Int)^i*c-(zi:Int)^i*(1000000000*((w.getD i 0+v.getD i 0+c)/1000000000)):=by
   rw[<-zm, <-yq];congr 1;omega
  omega
theorem BR[Srt](g a b:Nat)(p q v lo z:List Int)(n j:Nat)(t h W:Int)(Z:v.length=n)(D:n<=9000)(e:lo.length=j)(O:j<=9000)(C:n+j<a)(F:j<b)(s:j<p.length)(K:Av zi v)(R:0<=h/\h<1000000000)(r:a=j+n+1+z.length)(I:0<=t/\t<1000000000)
  (h0:∀(w:List Int) (h':Int),w.length=n->Av zi w->0<=h'->ze zi w+(zi:Int)^n*h'=W-t*ze zi v->Ends LX (L2 g v n a b (zc .i64<|(j:Int)-1) (p.set j t) (lo++(w++h'::z)) q) Q)
  (L:∀(w:List Int) (h':Int),w.length=n->Av zi w->h'<0-> -2000000000<=h'->ze zi w+(zi:Int)^n*h'=W-t*ze zi v->Ends LX (L5 g v n a b j (zc .i64<|t-1) 0 0 p (lo++(w++h'::z)) q) Q):
  ∀(k i:Nat) (w:List Int) (c:Int),i+k=n->w.length=n->Av zi w->(0<=c/\c<=1000000000)->ze zi w+(zi:Int)^n*h=W-t*ze zi (v.take i)+(zi:Int)^i*c->
   Ends LX (L4 g v n a b j t c i p (lo++(w++h::z)) q) Q
 |0,i,w,c,G,l,u,M,H=>by
  have G:i=n:=ae
  subst G;have e1:zc .i64 ((j:Int)+(i:Int))=((i+j:Nat):Int):=by rw[wr _ ae ae];omega
  have A:v.take i=v:=zu ae;rw[A]at H;have f:i+j<(lo++(w++h::z)).length:=by simp;omega
  have y:i+j<(lo++(w++(h-c)::z)).length:=by simp;omega
  have J:ze zi w+(zi:Int)^i*(h-c)=W-t*ze zi v:=by rw[yq];omega
  refine zw (CA ..) (yt (by simp) ?_);rw[e1,zf,zf,gH e l,wr (h-c) ae ae,sH _ e l,gH e l];have m:(decide ((0:Int)<=((i+j:Nat):Int))&&decide (((i+j:Nat):Int)<(a:Int)))=true:=by simp;omega
  refine zd m<|zd (w4 f)<|zd m<|zd (w4 f)<|zd m<|zd (w4 y)<|zx (fun d=>?_)<|fun d=>?_
  ·have d:=w6 d;exact L w (h-c) l u d ae J
  ·have d:=w7 d;exact zd (by simp;omega) (zd (w4 s)<|h0 w (h-c) l u ae J)
 |k+1,i,w,c,G,l,u,M,H=>by
  have N:=Gx K i;have T:=Gx u i;obtain⟨X,V,m3,S,U,m6,m7⟩:=RB I N T M;have e1:zc .i64 ((i:Int)+(j:Int))=((i+j:Nat):Int):=by rw[wr _ ae ae];omega
  have e2:=wn (i:=i) ae;have f:i+j<(lo++(w++h::z)).length:=by simp;omega
  have m:(decide ((0:Int)<=((i+j:Nat):Int))&&decide (((i+j:Nat):Int)<(a:Int)))=true:=by simp;omega
  have go:∀(x o:Int),(0<=x/\x<1000000000)->(0<=o/\o<=1000000000)->c+(x-w.getD i 0)=1000000000*o-t*v.getD i 0->Ends LX (L4 g v n a b j t o ((i+1:Nat):Int) p (lo++(w.set i x++h::z)) q) Q:=by
   intro x o Y E B;refine BR g a b p q v lo z n j t h W Z D e O C F s K R r I h0 L k (i+1) _ _ ae (by simp[l]) (G8 u i Y) E ?_;rw[Hi _ _ _ _ ae,KZ,AD,zm t,yh t];have e6:(zi:Int)^i*c+(zi:Int)^i*(x-w.getD i 0)=(zi:Int)^i*(1000000000*o)-(zi:Int)^i*(t*v.getD i 0):=by
    rw[<-zm, <-yq,B]
   omega
  refine zw (CA ..) (zd (by simp;omega) ?_);rw[e1,e2,zf,zf,gW e ae,X,V,m3,S,U,sW _ e ae,sW _ e ae];refine zd (by simp;omega)<|zd m<|zd (w4 f)<|zd rfl (zd rfl (zx (fun d=>?_)<|fun d=>?_))
  ·have d:=w6 d;rw[wr (w.getD i 0-(t*v.getD i 0+c) % 1000000000+1000000000) ae ae];refine zd m (zd (w4 f) (go _ _ ae ae ?_));generalize t*v.getD i 0=P at*;omega
  ·have d:=w7 d;refine zd m (zd (w4 f)<|go _ _ ae ae ?_);generalize t*v.getD i 0=P at*;omega
theorem oO[Srt](i h f:Nat)(A B v lo e:List Int)(n j:Nat)(I:v.length=n)(o:n<=9000)(y:lo.length=j)(L:j<=9000)(V:n+1<=e.length)(K:h=j+e.length)(t:j<f)(p:j<A.length)(C:Av zi v)(E:Av zi e)(D:ze zi (e.drop<|n+1)=0)
  (k:∀(q:Int) (r:List Int),r.length=e.length->Av zi r->(0<=q/\q<1000000000)->ze zi r<ze zi v->ze zi r=ze zi e-q*ze zi v->Ends LX (L2 i v n h f (zc .i64<|(j:Int)-1) (A.set j q) (lo++r) B) Q)
  (q:Int) (J:0<=q/\q<1000000000) (S:ze zi e<(q+1)*ze zi v) (W:q*ze zi v<ze zi e+ze zi v):
  Ends LX (L4 i v n h f j q 0 0 A (lo++e) B) Q:=by
 have l:e=e.take n++e.getD n 0::e.drop (n+1):=by
  rw[<-Cr ae];exact(qn n e).symm
 have gh:=Gx E n;have F:=AM E n;have u:=Es E<|n+1;have z:(e.take n).length=n:=by rw[yg];omega
 have R:(e.drop<|n+1).length=e.length-(n+1):=List.length_drop ..;have hW:ze zi e=ze zi (e.take n)+(zi:Int)^n*e.getD n 0:=by
  conv=>lhs;rw[l]
  rw[NJ _ _ _ D,z]
 have m:=Br (b:=zi) af C;rw[I]at m;have U:=Az (b:=zi) af C;have O:=Az (b:=zi) af E;have M:=Bc (b:=zi) af n;rw[z8,zy]at S;rw[l];refine BR i h f A B v lo (e.drop<|n+1) n j q (e.getD n 0) (ze zi e) I o y L ae t p C gh ae J (fun w h' a b c d=>?_) (fun w h' a b c Y d=>?_) n 0 (e.take n) 0 ae z F af (by rw[<-hW];simp[ze])
 ·have N:=Az (b:=zi) af b;have H:h'=0:=by
   rcases ye 0 h' with g|g
   ·have:=zh (show 1<=h' by omega)<|zo M;omega
   ·omega
  refine k q _ (by simp;omega) (Ga b<|fun x G=>?_) J ?_ ?_
  ·rcases qo.1 G with rfl|G
   ·rw[H];decide
   ·exact u x G
  ·rw[NJ _ _ _ D,a,d];omega
  ·rw[NJ _ _ _ D,a,d]
 ·have N:=Br (b:=zi) af b;rw[a]at N;have s:ze zi e-q*ze zi v<0:=by
   have:=zh (show h'<= -1 by omega)<|zo M;rw[jj,yz]at this;omega
  have T:1<=q:=by
   rcases ye 0 q with g|g
   ·exact g
   ·have:q=0:=ae
    subst this;rw[qt]at s;omega
  rw[wr (q-1) ae ae];refine Cu i h f A B v lo (e.drop<|n+1) n j (q-1) h' (ze zi e-q*ze zi v+ze zi v) I o y L ae t p C D u ae ae ae (fun r X b' P=>?_) n 0 w 0 ae a b af (by rw[d];simp[ze]<;>omega);refine k (q-1) r ae b' ae ae ?_;rw[P,qj,zy];omega
theorem CY[Srt](l e i:Nat)(t y v lo h:List Int)(a2 a1 a0:List Int)(k j:Nat)(N:v.length=k+2)(A:k+2<=9000)(w:lo.length=j)(W:j<=9000)(V:k+3<=h.length)(m:e=j+h.length)(E:j<i)(C:j<t.length)(z:Av zi v)(x:Av zi h)(M:ze zi (h.drop<|k+3)=0)(F:1<=v.getD (k+1) 0)
  (H:h.getD (k+2) 0<=v.getD (k+1) 0) (U:ze zi h<1000000000*ze zi v)
  (o:∀(q:Int) (r:List Int),r.length=h.length->Av zi r->(0<=q/\q<1000000000)->ze zi r<ze zi v->ze zi r=ze zi h-q*ze zi v->Ends LX (L2 l v ((k+2:Nat):Int) e i (zc .i64<|(j:Int)-1) (t.set j q) (lo++r) y) Q):
  ∀(f:Nat) (q r:Int),0<=q->q<f->q<=2000000000000000000->(0<=r/\r<1000000000)->q*v.getD (k+1) 0+r=h.getD (k+2) 0*1000000000+h.getD (k+1) 0->ze zi h<(q+1)*ze zi v->
   Ends LX (L3 l v ((k+2:Nat):Int) e i j a2 a1 a0 e v j ((k+2:Nat):Int) q r t (lo++h) y) Q
 |0,q,r,h0,hf,_,_,_,_=>by omega
 |f+1,q,r,h0,hf,Z,hr1,he,K=>by
  have u:=Gx z k;have gv1:=Gx z<|k+1;have gu2:=Gx x k;have gu1:=Gx x<|k+1;have Y:=Bc (b:=zi) af k;have hW:=oX zi h k ae M;have hV:=oM zi v k N;have T:=Az (b:=zi) af<|AM x k;have n:=Br (b:=zi) af<|AM x k;have I:=Az (b:=zi) af<|AM z k;have s:=Br (b:=zi) af<|AM z k;have P:=Az (b:=zi) af z;rw[yg,yv ae]at n s;have exit:∀q R:Int,0<=q->q<1000000000->q*v.getD (k+1) 0+R=h.getD (k+2) 0*1000000000+h.getD (k+1) 0->ze zi h<(q+1)*ze zi v->q*v.getD k 0<=R*1000000000+h.getD k 0->Ends LX (L4 l v ((k+2:Nat):Int) e i j q 0 0 t (lo++h) y) Q:=by
   intro q R q0 q1 L S J;refine oO l e i t y v lo h (k+2) j N A w W V m E C z x M o q ⟨q0,q1⟩ S ?_;rw[hW,hV];exact TJ Y ⟨I,s⟩ T ⟨q0,q1⟩ F u.1 L J
  have e1:zc .i64 (((k+2:Nat):Int)-2)=(k:Int):=by rw[wr _ ae ae];omega
  have e2:zc .i64 (((k+2:Nat):Int)-1)=((k+1:Nat):Int):=by rw[wr _ ae ae];omega
  have e3:zc .i64 (zc .i64 ((j:Int)+((k+2:Nat):Int))-2)=((k+j:Nat):Int):=by
   rw[wr ((j:Int)+((k+2:Nat):Int)) ae ae,wr _ ae ae];omega
  have g3:(lo++h).getD (k+j) 0=h.getD k 0:=G5 _ _ _ _ w;have X:(decide ((0:Int)<=((k+1:Nat):Int))&&decide (((k+1:Nat):Int)<(v.length:Int)))=true:=by simp;omega
  have G:ze zi h<q*ze zi v->Ends LX (.ite (decide (zc .i64 (r+v.getD (k+1) 0)>=(1000000000:Int))) (L4 l v ((k+2:Nat):Int) e i j (zc .i64<|q-1) 0 0 t (lo++h) y)<|L3 l v ((k+2:Nat):Int) e i j a2 a1 a0 e v j ((k+2:Nat):Int) (zc .i64<|q-1) (zc .i64<|r+v.getD (k+1) 0) t (lo++h) y) Q:=by
   intro J;have hW0:=Az (b:=zi) af x;have hq1:1<=q:=by
    rcases ye 0 q with g|g
    ·exact g
    ·have:q=0:=ae
     subst this;rw[qt]at J;omega
   have D:(q-1)*v.getD (k+1) 0+(r+v.getD (k+1) 0)=h.getD (k+2) 0*1000000000+h.getD (k+1) 0:=by rw[qj,zy];omega
   have p:ze zi h<(q-1+1)*ze zi v:=by rw[show q-1+1=q by omega];exact J
   rw[wr (q-1) ae ae,wr (r+v.getD (k+1) 0) ae ae];refine zx (fun c=>?_)<|fun c=>?_
   ·have c:=w6 c;have O:q-1<1000000000:=by
     rcases ye (q-1) 1000000000 with g|g
     ·exact g
     ·have a:=zg g (show 0<=v.getD (k+1) 0 by omega);have b:=zg H (show(0:Int)<=1000000000 by omega);omega
    refine exit (q-1) _ ae O D p ?_;have a:=zh (show v.getD k 0<=999999999 by omega) (show 0<=q-1 by omega);omega
   ·have c:=w7 c;exact CY l e i t y v lo h a2 a1 a0 k j N A w W V m E C z x M F H U o f (q-1) _ ae ae ae ae D p
  refine zw (BH ..) ?_;conv=>zeta
  rw[e1,e2,e3,zf,zf,zf,g3];refine zx (fun c=>zd X<|G ?_) (fun c=>zd (by simp;omega) (zd (by simp;omega)<|zd (by simp;omega)<|zx (fun d=>zd X<|G ?_)<|fun d=>?_))
  ·have c:=w6 c;have:=zg c P;omega
  ·have c:=w7 c;have d:=w6 d;have a:=zh (show v.getD k 0<=999999999 by omega) h0;have b:=zz h0 u.1;rw[wr (q*v.getD k 0) ae ae,wr (r*1000000000) ae ae,wr _ ae ae]at d;have:=Ul (B:=zi) (u0:=h.getD (k+2) 0) (u1:=h.getD (k+1) 0) (u2:=h.getD k 0) Y I n h0 (v1:=v.getD (k+1) 0) (v2:=v.getD k 0) (r:=r) he d;rw[<-hW, <-hV]at this;exact this
  ·have c:=w7 c;have d:=w7 d;have a:=zh (show v.getD k 0<=999999999 by omega) h0;have b:=zz h0 u.1;rw[wr (q*v.getD k 0) ae ae,wr (r*1000000000) ae ae,wr _ ae ae]at d;exact exit q r h0 ae he K ae
end T127
end Go.Pe
