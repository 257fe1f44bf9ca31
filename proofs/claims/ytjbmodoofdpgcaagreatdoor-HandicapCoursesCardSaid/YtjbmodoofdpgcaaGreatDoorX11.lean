import Derived.Test.YtjbmodoofdpgcaaGreatDoorX10
/- A part of a proof; no law is stated here. -/
noncomputable section
open Go.IntKind renaming wrap -> zc, u64 -> zj
open Go.Pe.Ends renaming tt -> zd, Av -> zw, ite -> zx, leaf -> yf, ff -> yt, eq -> qt
open Go.Sp renaming val -> ze, B9 -> zi, vI -> zk, u64 -> z7, AZ -> qf, sg -> q9
open Int renaming toNat_natCast -> zf, mul_le_mul_of_nonneg_right -> zg, mul_le_mul_of_nonneg_left -> zh, mul_add -> zm, le_of_lt -> zo, mul_assoc -> zp, mul_comm -> zq, pow_succ -> zt, one_mul -> zy, mul_nonneg -> zz, add_mul -> z8, mul_ediv_add_emod -> yb, lt_or_le -> ye, mul_left_comm -> yh, pow_zero -> yi, emod_lt_of_pos -> yk, tdiv_eq_ediv_of_nonneg -> ym, tmod_eq_emod_of_nonneg -> yn, lt_of_mul_lt_mul_left -> yo, emod_nonneg -> yp, mul_sub -> yq, mul_zero -> yu, ediv_lt_of_lt_mul -> yw, tdiv -> yy, mul_one -> yz, pow_pos -> qc, fdiv_eq_ediv_of_nonneg -> qd, ediv_emod_unique -> qe, add_assoc -> qg, ediv_nonneg -> qh, sub_mul -> qj, tmod -> qk, add_zero -> ql, zero_mul -> qq, fdiv -> qu, mul_lt_mul_of_pos_left -> qw, le_refl -> qy, ediv_eq_zero_of_lt -> je, mul_neg -> jh
open List renaming replicate -> zl, getD_eq_getElem?_getD -> zr, take_of_length_le -> zu, append_assoc -> yd, length_take -> yg, getElem?_eq_getElem -> yr, take_append_drop -> qm, mem_cons -> qn, replicate_succ' -> qo, drop_eq_getElem_cons -> qx, length_eq_zero_iff -> jc, mem_append -> jf
open Bool renaming and_eq_true -> zn
open Go.Pe.Sh renaming int -> z6, list -> yx
open Nat renaming add -> yc, min_eq_left -> yv, add_sub_cancel -> qv
open BitVec renaming ofInt -> yj
open Option renaming getD -> qi
open Min renaming min -> qp
open Go.Pe.PV renaming agg -> qz
open Go.Pe.Ac renaming of -> jg
variable {Q:Go.Pe.PV->Go.Pe.Ob->Prop}
namespace Go.Pe
open Sp
open Go.Det
section
open List Int Prod
namespace T97n
def T[Srt](n:Int):Tr:=tree XF0 false 9 97<|Af ([z6 IntKind.i64]) n
theorem Al[Srt](n:Int):T n=.leaf (qz [.dat i64 n,.nil]) []:=by kernel_rfl
end T97n
namespace T173
def T[Srt](a b:AE):Tr:=tree tZ false 9 173<|Af ([AV,AV]) (a,b)
def L1[Srt](d:Bool)(c b:List Int)(e o1 f:Int)(a:List Int):Tr:=re ((T (0,[]) (0,[])).L.L.R.L.L.L)<|AI 84 [(3,.ptr 0 0),(4,.ptr 1 0),(5,.ptr 2 0),(8,.dat Sh.bool d),(12,.dat (yx<|z6 zj) c),(13,.dat (yx<|z6 zj) b)] [(2,.box [.dat i64 e,.nil]),(1,.box [.dat i64 o1,.nil]),(0,.box [.dat i64 f,.dat wU a])] 3
theorem Al[Srt](a b:AE):T a b=let b':=BO<|Ae<|zk a;let d:=BO<|Ae<|zk b;let e:=yy (fst a)<|fst b;let c:Tr:=.ck (Dd a)<|.ck (Dd b)<|.ck (jW b' d)<|L1 (decide (zk a<0)) (BO<|Ao b'/Ao d) (BO<|Ao b' % Ao d) 0 0 (fst b)<|snd b;.ite (!decide (0<length (snd a))) (.ite (!decide (0<length (snd b))) (.ite (fst a !=(-9223372036854775808)) (.cd (fst b≠0)<|.cd (fst b≠0)<|.di (qk (fst a) (fst b)<0) (.leaf (.tup [qz [.dat i64<|zc .i64<|zc .i64 e-1,.nil],qz [.dat i64<|zc .i64<|qk (fst a) (fst b)+fst b,.nil]]) [])<|.leaf (.tup [qz [.dat i64<|zc .i64 e,.nil],qz [.dat i64<|qk (fst a)<|fst b,.nil]]) []) c) c) c:=by kernel_rfl
def L2[Srt](g:Int)(a:List Int)(d:Int)(c:List Int)(f o1 e:Int)(b:List Int):Tr:=re ((stepT tZ<|L1 false [] [] 0 0 0 []).L.L)<|AI 84 [(3,.ptr 0 0),(4,.ptr 1 0),(5,.ptr 2 0),(14,.ptr 3 0),(15,.ptr 4 0)] [(4,.box [.dat i64 g,.dat wU a]),(3,.box [.dat i64 d,.dat wU c]),(2,.box [.dat i64 f,.nil]),(1,.box [.dat i64 o1,.nil]),(0,.box [.dat i64 e,.dat wU b])] 5
theorem As[Srt](d:Bool)(c b:List Int)(f o1 g:Int)(a:List Int):stepT tZ (L1 d c b f o1 g a)=let e:=q9 d<|Ao b;let b':=q9 d<|Ao c;.ck (B0 c) (.ck (B0 b)<|L2 (Cy e) (Cv e) (Cy b') (Cv b') f o1 g a):=by kernel_rfl
theorem A5[Srt](d:Int)(a:List Int)(e:Int)(b:List Int)(g o1 f:Int)(c:List Int):stepT tZ (L2 d a e b g o1 f c)=.ck (Dd (d,a)) (.di (Ib (d,a)<0) (.ck true<|.ck (Bd (e,b)&&Bd (1,B7 1))<|.ck (Bd (d,a)&&Bd (f,c))<|.leaf (.tup [qz [.dat i64<|Wl (e,b) (1,B7 1),.dat wU<|VH (e,b) (1,B7 1)],qz [.dat i64<|Jl (d,a) (f,c),.dat wU<|Jk (d,a) (f,c)]]) [])<|.leaf (.tup [qz [.dat i64 e,.dat wU b],qz [.dat i64 d,.dat wU a]]) []):=by kernel_rfl
end T173
namespace T117
def T[Srt](a b:AE):Tr:=tree yW false 9 117<|Af ([AV,AV]) (a,b)
def L1[Srt](c o1:Int)(a:List Int)(d:Int)(b:List Int):Tr:=re ((T (0,[]) (0,[])).L.L)<|AI 23 [(2,.ptr 0 0),(3,.ptr 1 0),(4,.ptr 2 0)] [(2,.box [.dat i64 c,.nil]),(1,.box [.dat i64 o1,.dat wU a]),(0,.box [.dat i64 d,.dat wU b])] 3
theorem Al[Srt](a b:AE):T a b=.ck (Dd a) (.ck (Dd b)<|L1 0 (ML b) (OO b) (ML a)<|OO a):=by kernel_rfl
theorem As[Srt](d o1:Int)(a:List Int)(c:Int)(b:List Int):stepT yW (L1 d o1 a c b)=.ck (Dd (o1,a)) (.ite (Ib (o1,a) !=0) (.ck (Bd (c,b)&&Bd (o1,a)&&decide (0<zk (o1,a)))<|L1 d (Za (c,b) (o1,a)) (YY (c,b) (o1,a)) o1 a)<|.leaf (qz [.dat i64 c,.dat wU b]) []):=by kernel_rfl
end T117
namespace T156
def T[Srt](a:AE)(k:Int):Tr:=tree tX false 9 156<|Af ([AV,z6 IntKind.i64]) (a,k)
def L1[Srt](v1 c:Int)(a:List Int)(o1 d:Int)(b:List Int):Tr:=re ((T (0,[]) 0).L)<|AI 23 [(1,.dat i64 v1),(2,.ptr 0 0),(4,.ptr 1 0),(5,.ptr 2 0)] [(2,.box [.dat i64 c,.dat wU a]),(1,.box [.dat i64 o1,.nil]),(0,.box [.dat i64 d,.dat wU b])] 3
theorem Al[Srt](a:AE)(k:Int):T a k=.ck true (L1 k 1 (B7 1) 0 (fst a)<|snd a):=by kernel_rfl
theorem As[Srt](v1 d:Int)(b:List Int)(o1 c:Int)(a:List Int):stepT tX (L1 v1 d b o1 c a)=let e:=qu v1<|2^1;let b':=Bd (c,a)&&Bd (c,a);let i:=Es (d,b) (c,a);let f:=El (d,b) (c,a);let g:=Es (c,a) (c,a);let h:=El (c,a) (c,a);.di (v1>0) (.ite (Hb IntKind.i64 v1 1==1) (.ck (Bd (d,b)&&Bd (c,a))<|.di (v1>1) (.ck b'<|.ck true<|L1 e i f o1 g h)<|.ck true<|L1 e i f o1 c a)<|.di (v1>1) (.ck b'<|.ck true<|L1 e d b o1 g h)<|.ck true<|L1 e d b o1 c a) (.leaf (qz [.dat i64 d,.dat wU b]) []):=by kernel_rfl
end T156
namespace T192
def T[Srt](a b:List Int):Tr:=tree I3 false 9 192<|Af ([yx<|z6 zj,yx<|z6 zj]) (a,b)
def L1[Srt](v0 v1:List Int)(a:Nat)(c b:Int)(d:List Int):Tr:=re ((T [] []).L.R.L.L)<|AI 137 [(0,.dat (yx<|z6 zj) v0),(1,.dat (yx<|z6 zj) v1),(6,.sl 0 1 0 a none),(7,.dat (z6 zj) c),(8,.dat i64 b)] [(0,.arr false 200 (z6 zj) d)] 1
def L2[Srt](a b:List Int)(v1:Int)(d:Nat)(e:List Int)(c f:Int)(g:List Int):Tr:=re ((T a b).L.R.R.L.L.L)<|AI 40 [(1,.dat i64 v1),(5,.sl 0 1 0 d none),(12,.dat (yx<|z6 zj) e),(13,.dat i64 c),(14,.dat i64 f)] [(0,.arr false 200 (z6 zj) g)] 1
theorem Al[Srt](a b:List Int):T a b=let c:=(length b:Int);let b':=(length a:Int);let d:=zc .i64<|c+1;let e:=getD b (toNat<|zc .i64<|c-1) 0;.ck (B0 a&&B0 b) (.di (B3 (Ao a) (Ao b)<0) (.leaf (.tup [.nil,.dat (yx<|z6 zj) a]) [])<|.ite (c==1) (.ck (decide (0<=b')&&decide (b'=b')&&decide (8*toNat b'<=281474976710656)&&decide (b'<9223372036854775808))<|L1 a b (toNat b') 0 (zc .i64<|b'-1)<|replicate (toNat b') 0)<|.ck (decide (0<=zc .i64 (c-1))&&decide (zc .i64 (c-1)<c))<|.ck (z7 e)<|.ck (decide (0<=zc .i64 (c+1))&&decide (zc .i64 (c+1)=zc .i64 (c+1))&&decide (8*toNat d<=281474976710656)&&decide (zc .i64 (c+1)<9223372036854775808))<|L2 a b (Sp.lz e) (toNat d) b c 0<|replicate (toNat d) 0):=by kernel_rfl
theorem As[Srt](v0 v1:List Int)(a:Nat)(c b:Int)(d:List Int):stepT I3 (L1 v0 v1 a c b d)=let e:=getD v0 (toNat b) 0;let b':=yx<|z6 zj;.di (b>=0) (.ck (decide (0<=b)&&decide (b<(length v0:Int)))<|.cd (0<(length v1:Int))<|.ck (z7 c&&z7 e&&z7 (getD v1 0 0)&&decide (c<getD v1 0 0))<|.ck (decide (0<=b)&&decide (b<(↑a:Int)))<|.cd (toNat b<length d)<|L1 v0 v1 a (Sp.dr c e<|getD v1 0 0) (zc .i64<|b-1)<|set d (toNat b)<|Sp.dq c e<|getD v1 0 0) (.ck (decide (0+a<=length d)&&true&&CB (take a d))<|.ck (decide (1<=1)&&true&&CB [c])<|.leaf (.tup [.dat b'<|Aw<|take a d,.dat b'<|Aw [c]]) []):=by kernel_rfl
def L3[Srt](a b:List Int)(v1:Int)(i:Nat)(l:List Int)(g h:Int)(m:List Int)(k:Int)(f:Nat)(d:List Int)(c:Int)(e:Int)(o1:List Int)(j:List Int):Tr:=re ((stepT I3<|L2 a b v1 i l g h m).R.L.L)<|AI 40 [(1,.dat i64 k),(5,.sl 1 1 0 f none),(12,.dat (yx<|z6 zj) d),(13,.dat i64 c),(14,.dat i64 e)] [(1,.arr false 200 (z6 zj) o1),(0,.arr true 200 (z6 zj) j)] 2
theorem A5[Srt](a b:List Int)(v1:Int)(d:Nat)(e:List Int)(f c:Int)(g:List Int):stepT I3 (L2 a b v1 d e f c g)=let i:=set g (toNat c)<|Xg zj (getD g (toNat c) 0)<|zc .u64<|getD e (toNat c) 0*2^qp (toNat v1) 64;let b':=(length a:Int)+1;let h:=zc .i64<|c+1;let l:=decide (0<=c)&&decide (c<(↑d:Int));let k:=decide (toNat c<length g);let j:=zc .i64 b';.di (c<f) (.ck (decide (0<=c)&&decide (c<(length e:Int)))<|.ck l<|.ck k<|.cd (0<=v1)<|.ck l<|.ck k<|.di (v1>0) (.cd (0<=zc .i64 (64-v1))<|.ck (decide (0<=zc .i64 (c+1))&&decide (zc .i64 (c+1)<(↑d:Int)))<|.cd (toNat h<length i)<|L2 a b v1 d e f h<|set i (toNat h)<|qu (getD e (toNat c) 0)<|2^qp (toNat<|zc .i64<|64-v1) 64)<|L2 a b v1 d e f h i) (.ck (decide (0+d<=length g)&&true&&CB (take d g))<|.ck (decide (0<=zc .i64 b')&&decide (zc .i64 b'=zc .i64 b')&&decide (8*toNat j<=281474976710656)&&decide (zc .i64 b'<9223372036854775808))<|L3 a b v1 d e f c g (Sp.lz<|getD b (toNat<|zc .i64<|(length b:Int)-1) 0) (toNat j) a ((length a:Int)) 0 (replicate (toNat j) 0) g):=by kernel_rfl
def L4[Srt](v9:Int)(c:List Int)(b:Nat)(d:Int)(a:Nat)(e:Int)(o1 f:List Int):Tr:=re ((stepT I3<|L3 [] [] 0 0 [] 0 0 [] 0 0 [] 0 0 [] []).R.L)<|AI 137 [(9,.dat i64 v9),(10,.dat (yx<|z6 zj) c),(11,.sl 0 1 0 b none),(12,.dat i64 d),(13,.sl 1 1 0 a none),(14,.dat i64 e)] [(1,.arr false 200 (z6 zj) o1),(0,.arr false 200 (z6 zj) f)] 2
theorem C5[Srt](a b:List Int)(v1:Int)(h:Nat)(l:List Int)(k i:Int)(o:List Int)(f:Int)(e:Nat)(d:List Int)(g:Int)(c:Int)(o1:List Int)(j:List Int):stepT I3 (L3 a b v1 h l k i o f e d g c o1 j)=let b':=set o1 (toNat c)<|Xg zj (getD o1 (toNat c) 0)<|zc .u64<|getD d (toNat c) 0*2^qp (toNat f) 64;let n:=zc .i64<|c+1;let s:=decide (0<=c)&&decide (c<(↑e:Int));let r:=decide (toNat c<length o1);let h':=Aw<|take h o;let p:=(↑(length h'):Int);let m:=zc .i64 ((length a:Int)-p)+1;let q:=zc .i64 m;.di (c<g) (.ck (decide (0<=c)&&decide (c<(↑(length d):Int)))<|.ck s<|.ck r<|.cd (0<=f)<|.ck s<|.ck r<|.di (f>0) (.cd (0<=zc .i64 (64-f))<|.ck (decide (0<=zc .i64 (c+1))&&decide (zc .i64 (c+1)<(↑e:Int)))<|.cd (toNat n<length b')<|L3 a b v1 h l k i o f e d g n (set b' (toNat n)<|qu (getD d (toNat c) 0)<|2^qp (toNat<|zc .i64<|64-f) 64) j)<|L3 a b v1 h l k i o f e d g n b' j) (.ck (decide (0<=zc .i64 m)&&decide (zc .i64 m=zc .i64 m)&&decide (8*toNat q<=281474976710656)&&decide (zc .i64 m<9223372036854775808))<|L4 (Sp.lz<|getD b (toNat<|zc .i64<|(length b:Int)-1) 0) h' e p (toNat q) (zc .i64<|(length a:Int)-p) (replicate (toNat q) 0) o1):=by kernel_rfl
def L5[Srt](v9:Int)(c:List Int)(a:Nat)(i:Int)(b:Nat)(d:Int)(o1 n:List Int)(f h e:Nat)(v1:List Int)(v5 m l k:Int)(g:List Int)(j:List Int):Tr:=re ((stepT I3<|L4 v9 c a i b d o1 n).L.L.L.L.L.L.L.L.L.L)<|AI 186 [(0,.sl 0 1 f h<|Option.some e),(1,.dat (yx<|z6 zj) v1),(5,.dat i64 v5),(6,.dat (z6 zj) m),(7,.dat (z6 zj) l),(8,.dat (z6 zj) k)] [(1,.arr false 200 (z6 zj) g),(0,.arr false 200 (z6 zj) j)] 2
def L6[Srt](v9:Int)(b:Nat)(d:Int)(a:Nat)(c e:Int)(o1 f:List Int):Tr:=re ((stepT I3<|L4 0 [] 0 0 0 0 [] []).R)<|AI 137 [(9,.dat i64 v9),(11,.sl 0 1 0 b none),(12,.dat i64 d),(13,.sl 1 1 0 a none),(96,.dat i64 c),(97,.dat i64 e)] [(1,.arr false 200 (z6 zj) o1),(0,.arr false 200 (z6 zj) f)] 2
theorem Dh[Srt](v9:Int)(c:List Int)(a:Nat)(e:Int)(d:Nat)(b:Int)(o1 f:List Int):stepT I3 (L4 v9 c a e d b o1 f)=let g:=(length c:Int);let h:=yc 0<|toNat b;let o:=Nat.sub (qi none a)<|toNat b;let p':=zc .i64 (b+e)+1;let k:=toNat<|zc .i64<|g-1;let m:=zc .i64 p';let h':=yc (toNat g) h;let l':=decide (yc (toNat g) h<length f);let n':=decide (0<=zc .i64 (g-1));let b':=Nat.sub (toNat m)<|toNat b;let n:=n'&&decide (zc .i64 (g-1)<g);let i:=getD f (yc k h) 0;let j:=getD c k 0;let o':=decide (yc k h<length f);let l:=getD f h' 0;let p:=n'&&decide (zc .i64 (g-1)<(↑b':Int));let q:=decide (0<=g)&&decide (g<(↑b':Int));.di (b>=0) (.ck (decide (0<=b)&&decide (0<=zc .i64 p')&&true&&decide (toNat b<=toNat m)&&decide (toNat m<=qi none a)&&decide (qi none a<=qi none a)&&true)<|.ck q<|.ck l'<|.ck n<|.di (getD f h' 0>=getD c k 0) (.ck p<|.ck o'<|.ck n<|.ck (z7 i&&z7 j&&decide ((0:Sh.T (Bv [u64]))<=0)&&decide (0<=(1:Sh.T (Bv [u64]))))<|L5 v9 c a e d b o1 f h b' o c g 18446744073709551615 (Hs i j 0) (NY i j 0) o1 f)<|.ck q<|.ck l'<|.ck p<|.ck o'<|.ck n<|.ck (z7 l&&z7 i&&z7 j&&decide (getD f h' 0<getD c k 0))<|L5 v9 c a e d b o1 f h b' o c g (Sp.dq l i j) (Sp.dr l i j) 0 o1 f) (L6 v9 a e d e 0 o1 f):=by kernel_rfl
def L7[Srt](v9:Int)(m:List Int)(a:Nat)(j:Int)(d:Nat)(k:Int)(o1 p:List Int)(n i f:Nat)(v1:List Int)(v5 o h:Int)(b:Int)(e c:Int)(g:List Int)(l:List Int):Tr:=re ((stepT I3<|L5 v9 m a j d k o1 p 0 0 0 [] 0 0 0 0 [] []).L.L.L.L)<|AI 186 [(0,.sl 0 1 n i<|Option.some f),(1,.dat (yx<|z6 zj) v1),(5,.dat i64 v5),(6,.dat (z6 zj) o),(11,.dat (z6 zj) h),(12,.dat (z6 zj) b),(104,.dat i64 e),(105,.dat i64 c)] [(1,.arr false 200 (z6 zj) g),(0,.arr false 200 (z6 zj) l)] 2
theorem Gb[Srt](v9:Int)(k:List Int)(a:Nat)(i:Int)(b:Nat)(j:Int)(o1 p:List Int)(d e g:Nat)(v1:List Int)(v5 f l q:Int)(h:List Int)(c:List Int):stepT I3 (L5 v9 k a i b j o1 p d e g v1 v5 f l q h c)=let b':=toNat<|zc .i64<|v5-2;let o:=L7 v9 k a i b j o1 p d e g v1 v5 f 0 0 v5 0 h c;let n:=getD v1 (toNat<|zc .i64<|v5-1) 0;let s:=decide (0<=zc .i64 (v5-2));let r:Tr:=.ck (decide (0<=zc .i64 (v5-1))&&decide (zc .i64 (v5-1)<(length v1:Int)))<|.ck (z7 l&&z7 n&&decide ((0:Sh.T (Bv [u64]))<=0)&&decide (0<=(1:Sh.T (Bv [u64]))))<|L5 v9 k a i b j o1 p d e g v1 v5 (zc .u64<|f-1) (Hs l n 0) (NY l n 0) h c;let m:=getD v1 b' 0;.ite (q==0) (.ck (s&&decide (zc .i64 (v5-2)<(length v1:Int)))<|.ck (z7 f&&z7 m)<|.di (Pr f m<l) o<|.ite (Pr f m==l) (.ck (s&&decide (zc .i64 (v5-2)<(↑e:Int)))<|.cd (yc b' d<length c)<|.di (Hx f m<=getD c (yc b' d) 0) o r) r) o:=by kernel_rfl
theorem JR[Srt](v9:Int)(b:Nat)(d:Int)(c:Nat)(e a:Int)(o1 f:List Int):stepT I3 (L6 v9 b d c e a o1 f)=let g:=set f (toNat a)<|qu (getD f (toNat a) 0)<|2^qp (toNat v9) 64;let b':=decide (0<=a)&&decide (a<(↑b:Int));let h:=zc .i64<|a+1;let i:=decide (zc .i64 (a+1)<(↑b:Int));let l:=decide (toNat a<length f);let h':=yx<|z6 zj;let j:=L6 v9 b d c e h o1 g;let k:=decide (toNat a<length g);.di (a<e) (.ck b'<|.ck l<|.cd (0<=v9)<|.ck b'<|.ck l<|.di (v9>0) (.ite i (.ck b'<|.ck k<|.ck (decide (0<=zc .i64 (a+1))&&i)<|.cd (toNat h<length g)<|.cd (0<=zc .i64 (64-v9))<|.ck b'<|.ck k<|L6 v9 b d c e h o1<|set g (toNat a)<|Xg zj (getD g (toNat a) 0)<|zc .u64<|getD g (toNat h) 0*2^qp (toNat<|zc .i64<|64-v9) 64) j) j) (.ck (decide (0<=d)&&true&&decide (0<=toNat d)&&decide (toNat d<=qi none b)&&decide (qi none b<=qi none b)&&true)<|.ck (decide (0+c<=length o1)&&true&&CB (take c o1))<|.ck (decide (0+toNat d<=length f)&&true&&CB (take (toNat d) f))<|.leaf (.tup [.dat h'<|Aw<|take c o1,.dat h'<|Aw<|take (toNat d) f]) []):=by kernel_rfl
def L8[Srt](v9:Int)(l:List Int)(b:Nat)(h:Int)(c:Nat)(j:Int)(o1 o:List Int)(m g e:Nat)(v1:List Int)(v5 n i a d:Int)(f:List Int)(k:List Int):Tr:=re ((stepT I3<|L7 v9 l b h c j o1 o 0 0 0 [] 0 0 0 0 0 0 [] []).R.L.L.L.L.L.R)<|AI 186 [(0,.sl 0 1 m g<|Option.some e),(1,.dat (yx<|z6 zj) v1),(5,.dat i64 v5),(6,.dat (z6 zj) n),(17,.dat (z6 zj) i),(156,.dat i64 a),(157,.dat i64 d)] [(1,.arr false 200 (z6 zj) f),(0,.arr false 200 (z6 zj) k)] 2
theorem FA[Srt](v9:Int)(m:List Int)(h:Nat)(l:Int)(d:Nat)(e:Int)(o1 v:List Int)(g j o:Nat)(v1:List Int)(v5 n c:Int)(b:Int)(k a:Int)(i:List Int)(f:List Int):stepT I3 (L7 v9 m h l d e o1 v g j o v1 v5 n c b k a i f)=let b':=yc (toNat v5) g;let r:=getD v1 (toNat a) 0;let x:=decide (yc (toNat a) g<length f);let y:=decide (yc (toNat v5) g<length f);let h':=decide (0<=a)&&decide (a<(↑j:Int));let q:=(0:Sh.T (Bv [u64]));let t:=(1:Sh.T (Bv [u64]));let w:=decide (0<=v5)&&decide (v5<(↑j:Int));let n':=yc (toNat a) g;let p:=Hx n r;let u:=getD f n' 0;let s:=getD f b' 0;let z:=set f b'<|RG s b c;let l':=Hs p b 0;.di (a<k) (.ck (decide (0<=a)&&decide (a<(length v1:Int)))<|.ck (z7 n&&z7 r)<|.ck (z7 p&&z7 b&&decide (q<=0)&&decide (0<=t))<|.ck h'<|.ck x<|.ck (z7 u&&z7 l'&&decide (q<=c)&&decide (c<=t))<|.ck h'<|.ck x<|L7 v9 m h l d e o1 v g j o v1 v5 n (OU u l' c) (zc .u64<|Pr n r+NY p b 0) k (zc .i64<|a+1) i<|set f n'<|RG u l' c) (.ck w<|.ck y<|.ck (z7 s&&z7 b&&decide (q<=c)&&decide (c<=t))<|.ck w<|.ck y<|.ite (OU s b c==0) (.ck (decide (0<=e)&&decide (e<(↑d:Int)))<|.cd (toNat e<length i)<|L4 v9 m h l d (zc .i64<|e-1) (set i (toNat e) n) z)<|L8 v9 m h l d e o1 v g j o v1 v5 n 0 v5 0 i z):=by kernel_rfl
theorem LQ[Srt](v9:Int)(l:List Int)(h:Nat)(k:Int)(d:Nat)(b:Int)(o1 u:List Int)(f j m:Nat)(v1:List Int)(v5 n e g a:Int)(i:List Int)(c:List Int):stepT I3 (L8 v9 l h k d b o1 u f j m v1 v5 n e g a i c)=let b':=decide (yc (toNat a) f<length c);let p:=getD v1 (toNat a) 0;let q:=decide (yc (toNat v5) f<length c);let r:=decide (0<=a)&&decide (a<(↑j:Int));let s:=decide (0<=v5)&&decide (v5<(↑j:Int));let t:=yc (toNat a) f;let h':=yc (toNat v5) f;let o:=getD c t 0;.di (a<g) (.ck r<|.ck b'<|.ck (decide (0<=a)&&decide (a<(length v1:Int)))<|.ck (z7 o&&z7 p&&decide ((0:Sh.T (Bv [u64]))<=e)&&decide (e<=(1:Sh.T (Bv [u64]))))<|.ck r<|.ck b'<|L8 v9 l h k d b o1 u f j m v1 v5 n (NY o p e) g (zc .i64<|a+1) i<|set c t<|Hs o p e) (.ck s<|.ck q<|.ck s<|.ck q<|.ck (decide (0<=b)&&decide (b<(↑d:Int)))<|.cd (toNat b<length i)<|L4 v9 l h k d (zc .i64<|b-1) (set i (toNat b)<|zc .u64<|n-1)<|set c h'<|zc .u64<|getD c h' 0+e):=by kernel_rfl
end T192
end
namespace T192
theorem dqr{r x d:Int}(a:0<d)(b:0<=r/\r<d)(c:0<=x/\x<18446744073709551616):Sp.dq r x d*d+Sp.dr r x d=r*18446744073709551616+x/\0<=Sp.dq r x d/\Sp.dq r x d<18446744073709551616/\0<=Sp.dr r x d/\Sp.dr r x d<d:=by
 unfold Sp.dq Sp.dr;have h:=yb (r*18446744073709551616+x) d;rw[zq]at h;refine⟨h,qh ae ae,yw a ae,yp _ ae,yk _ a⟩
theorem Ap[Srt](a:List Int)(d:Int)(j:Au Am a)(g:0<d/\d<18446744073709551616)(o:a.length<=20000)(k:∀q r ob,Au Am q->(0<=r/\r<d)->Ao a=Ao q*d+r->Q (.tup [.dat CU<|Aw q,.dat CU<|Aw [r]]) ob):∀(i:Nat) (q:List Int) (r:Int),i+q.length=a.length->Au Am q->(0<=r/\r<d)->ze Am (a.drop i)=ze Am q*d+r->
  Ends I3 (L1 a [d] a.length r ((i:Int)-1)<|zl i 0++q) Q
 |0,q,r,n,b,e,f=>by
  have m:((zl 0 0++q).take a.length)=q:=by
   rw[List.replicate_zero,List.nil_append];exact zu ae
  refine zw (As ..) (yt (by simp) ?_);rw[m];refine zd (Ad (by simp;omega)<|DW ae b) (zd (Ad rfl (DW (by simp)<|fun x c=>by rw[List.mem_singleton]at c;subst c;exact⟨e.1,by show x<18446744073709551616;omega⟩))<|yf<|k q r _ b e f)
 |i+1,q,r,n,b,e,f=>by
  have s:(((i+1:Nat):Int)-1)=(i:Int):=ae
  have h:=AQ j i;obtain⟨w,t,u,v,l⟩:=dqr g.1 e<|qf h;have p:a.drop i=a.getD i 0::a.drop (i+1):=by
   rw[zr,yr ae];exact qx ae
  have es:∀x,(zl (i+1) (0:Int)++q).set i x=zl i 0++(x::q):=by
   intro x;rw[qo,yd];exact CZ _ _ _ _ (by simp)
  rw[s];refine zw (As ..) (zd (by simp) ?_);rw[zf,es,wr ((i:Int)-1) ae ae];refine zd (by simp;omega) (zd (by simp) (zd ?_ (zd (by simp;omega)<|zd (by simp;omega) ?_)))
  ·exact Ad (Ad (Ad (Ct e.1 ae) h)<|Ct (by show 0<=d;omega) g.2)<|w4 e.2
  ·refine Ap a d j g o k i _ _ (by simp;omega) (fun x c=>?_) ⟨v,l⟩ ?_
   ·rcases qn.1 c with rfl|c
    ·exact⟨t,u⟩
    ·exact b x c
   ·rw[p];show a.getD i 0+(18446744073709551616:Int)*ze Am (a.drop<|i+1)=(Sp.dq r (a.getD i 0) d+(18446744073709551616:Int)*ze Am q)*d+Sp.dr r (a.getD i 0) d;rw[f,z8,zm,zp];omega
end T192
end Go.Pe
namespace Go.Sp
theorem RX{B P u0 u1 u2 a v1 v2 v' q r:Int}(i:0<P)(c:0<=v')(l:a<P)(g:0<=q)(j:q*v1+r=u0*B+u1)(h:r*B+u2<q*v2):
  ((u0*B+u1)*B+u2)*P+a<q*((v1*B+v2)*P+v'):=by
 have e:q*(v1*B+v2)=q*v1*B+q*v2:=by rw[zm,zp]
 have b:(u0*B+u1)*B=q*v1*B+r*B:=by rw[<-j,z8]
 have d:(u0*B+u1)*B+u2+1<=q*(v1*B+v2):=by rw[e,b];omega
 have f:=zg d<|zo i;have k:0<=q*v':=zz g c;rw[zm q, <-zp];rw[z8,zy]at f;omega
theorem SY{B P u0 u1 u2 c v1 v2 v' q r:Int}(a:0<P)(g:0<=v'/\v'<P)(p:0<=c)(j:0<=q/\q<B)(b:1<=v1)(d:0<=v2)(m:q*v1+r=u0*B+u1)(h:q*v2<=r*B+u2):
  q*((v1*B+v2)*P+v')<((u0*B+u1)*B+u2)*P+c+((v1*B+v2)*P+v'):=by
 have e:q*(v1*B+v2)=q*v1*B+q*v2:=by rw[zm,zp]
 have f:(u0*B+u1)*B=q*v1*B+r*B:=by rw[<-m,z8]
 have i:q*(v1*B+v2)<=(u0*B+u1)*B+u2:=by rw[e,f];omega
 have n:=zg i<|zo a;have l:q*v'<=(B-1)*P:=Int.le_trans (zh (zo g.2) j.1) (zg ae<|zo a);have k:B<=v1*B+v2:=by
  have:=zg b (show 0<=B by omega);omega
 have o:=zg k<|zo a;rw[qj,zy]at l;rw[zm q, <-zp];omega
theorem GI(b:Int):∀(l:List Int) (i:Nat) (x:Int),i<l.length->val b (l.set i x)=val b l+b^i*(x-l.getD i 0)
 |[],i,x,h=>by simp at h
 |d::l,0,x,_=>by
  show x+b*val b l=d+b*val b l+b^0*(x-d);rw[yi,zy];omega
 |d::l,i+1,x,h=>by
  have:=GI b l i x (by simpa using h);show d+b*val b (l.set i x)=d+b*val b l+b^(i+1)*(x-l.getD i 0);rw[this,zm,zt,zq (b^i) b,zp,qg]
theorem Gm{b:Int}{l:List Int}(h:Au b l)(i:Nat){x:Int}(c:0<=x/\x<b):Au b (l.set i x):=by
 intro d a;rcases List.mem_or_eq_of_mem_set a with a|rfl
 ·exact h d a
 ·exact c
theorem FM{b:Int}{l r:List Int}(e:Au b l)(c:Au b r):Au b (l++r):=by
 intro d a;rcases jf.1 a with a|a
 ·exact e d a
 ·exact c d a
theorem N1{b:Int}(c:0<b){l:List Int}(h:Au b l)(i:Nat):0<=l.getD i 0/\l.getD i 0<b:=by
 rcases Nat.lt_or_ge i l.length with a|a
 ·have:l.getD i 0∈l:=by rw[zr,yr a];exact List.getElem_mem a
  exact h _ this
 ·rw[zr,List.getElem?_eq_none a];exact⟨qy _,c⟩
theorem Ch{l:List Int}{i:Nat}(h:i<l.length):l.drop i=l.getD i 0::l.drop (i+1):=by
 rw[zr,yr h];exact qx h
theorem GD(p r:List Int)(i j:Nat)(h:p.length=j):(p++r).getD (i+j) 0=r.getD i 0:=by
 subst h;rw[zr,zr,List.getElem?_append_right ae,qv]
theorem Rx(p r:List Int)(i j:Nat)(x:Int)(h:p.length=j):(p++r).set (i+j) x=p++r.set i x:=by
 subst h;rw[List.set_append_right _ _ ae,qv]
theorem kK(b:Int)(r:List Int)(k:Nat)(c:k+3<=r.length)(e:val b (r.drop<|k+3)=0):
  val b r=((r.getD (k+2) 0*b+r.getD (k+1) 0)*b+r.getD k 0)*b^k+val b (r.take k):=by
 have a:b^(k+1)=b^k*b:=zt ..;have f:b^(k+2)=b^k*b*b:=by rw[<-a];exact zt ..
 rw[Cg b r (k+3) c,e,AB,AB,AB,a,f,yu,ql];generalize b^k=P;generalize r.getD (k+2) 0=x;generalize r.getD (k+1) 0=y;generalize r.getD k 0=z;have i:P*b*b*x=x*b*b*P:=by rw[zq (P*b*b) x,zq P b,zp b P b,zq P b, <-zp, <-zp]
 have g:P*b*y=y*b*P:=by rw[zq (P*b) y,zq P b,zp]
 have h:P*z=z*P:=zq _ _;have d:((x*b+y)*b+z)*P=x*b*b*P+y*b*P+z*P:=by rw[z8,z8,z8]
 rw[d];omega
theorem gY(b:Int)(v:List Int)(k:Nat)(e:v.length=k+2):
  val b v=(v.getD (k+1) 0*b+v.getD k 0)*b^k+val b (v.take k):=by
 have h0:val b (v.drop<|k+2)=0:=by rw[List.drop_eq_nil_of_le ae];rfl
 have a:b^(k+1)=b^k*b:=zt ..;rw[Cg b v (k+2) ae,h0,AB,AB,a,yu,ql];generalize b^k=P;generalize v.getD (k+1) 0=y;generalize v.getD k 0=z;have c:P*b*y=y*b*P:=by rw[zq (P*b) y,zq P b,zp]
 have d:P*z=z*P:=zq _ _;rw[c,d,z8];omega
theorem Zv{b:Int}(g:2<=b){v:List Int}(c:Au b v)(d:nz v){k:Nat}(e:b^k<=val b v)(f:val b v<b^(k+1)):v.length=k+1:=by
 have i:=A6 (show 0<b by omega) k;have a:v≠[]:=by rintro rfl;simp[val]at e;omega
 have a1:=Bn ae c;have a2:=CV ae c d a;rcases Nat.lt_trichotomy v.length (k+1)with h|h|h
 ·have:=AJ (show 1<=b by omega) (show v.length<=k by omega);omega
 ·exact h
 ·have:=AJ (show 1<=b by omega) (show k+1<=v.length-1 by omega);omega
theorem IB{b:Int}(e:2<=b){r:List Int}(a:Au b r){n:Nat}(c:n<=r.length)(h:val b r<b^n):val b (r.drop n)=0:=by
 have h0:=Az (show 0<=b by omega)<|Eb a n;have f:=Az (show 0<=b by omega)<|AH a n;rw[Cg b r n c]at h;have d:=A6 (show 0<b by omega) n;rcases ye 0 (val b<|r.drop n)with g|g
 ·have:=zh (show 1<=val b (r.drop n)by omega) (show 0<=b^n by omega);omega
 ·omega
theorem Pa{b:Int}(d:2<=b){r:List Int}(c:Au b r){n:Nat}(a:n<=r.length)(h:val b (r.drop n)=0):val b r<b^n:=by
 have:=Bn (show 0<b by omega)<|AH c n;rw[yg,yv a]at this;rw[Cg b r n a,h];omega
theorem YK{b c d x y X:Int}(l:0<c)(i:b=c*d):(x+b*(y+b*X))/c=(x/c+(y % c)*d)+b*((y+b*X)/c):=by
 subst i;have k:(x+c*d*(y+c*d*X))/c=x/c+d*(y+c*d*X):=by
  rw[zp c d,Int.add_mul_ediv_left _ _ ae]
 have a:(y+c*d*X)/c=y/c+d*X:=by
  rw[zp c d,Int.add_mul_ediv_left _ _ ae]
 have j:=yb y c;rw[k,a];have h:d*(y+c*d*X)=d*(c*(y/c)+y % c+c*d*X):=by rw[j]
 rw[h,zm,zm,zm<|c*d];have e:d*(c*(y/c))=c*d*(y/c):=by rw[<-zp,zq d c]
 have f:d*(y % c)=(y % c)*d:=zq _ _;have g:d*(c*d*X)=c*d*(d*X):=by rw[<-zp,zq d<|c*d,zp]
 rw[e,f,g];omega
theorem Tu{b c d x k:Int}(o:0<c)(f:0<d)(j:b=c*d)(m:0<=k/\k<c)(a:0<=x/\x<b):
  (x*c) % b=(x % d)*c/\(x % d)*c+k<b/\0<=(x % d)*c/\0<=x/d/\x/d<c/\(x % d)*c+b*(x/d)=x*c:=by
 subst j;have h:=yb x d;have i:=yp x (show d≠0 by omega);have l:=yk x f;have g:0<=x/d:=qh a.1 ae;have q1:x/d<c:=yw f (by have:=a.2;omega);have p0:0<=(x % d)*c:=zz i ae;have n:(x % d)*c<=(d-1)*c:=zg ae ae;have p:(d-1)*c=c*d-c:=by rw[qj,zy,zq]
 have e:(x % d)*c+c*d*(x/d)=x*c:=by
  conv=>rhs;rw[<-h]
  rw[z8,zp c d,zq c<|d*(x/d)];omega
 refine⟨?_,by omega,p0,g,q1,e⟩;rw[<-e,Int.add_mul_emod_self_left];exact Int.emod_eq_of_lt p0 ae
theorem LV{B P u0 u1 u2 b v1 v2 v' q r:Int}(c:0<P)(j:0<B)(p:0<=q)(g:0<=v')(a:0<=v2)(n:b<P)(d:u2<B)(s:q*v1+r=u0*B+u1)(h:r<v1):
  ((u0*B+u1)*B+u2)*P+b<(q+1)*((v1*B+v2)*P+v'):=by
 have i:u0*B+u1+1<=(q+1)*v1:=by rw[z8,zy];omega
 have f:=zg i<|zo j;have l:(u0*B+u1)*B+u2+1<=(q+1)*v1*B:=by
  rw[z8,zy]at f;omega
 have k:=zg l<|zo c;rw[z8,zy]at k;have m:0<=(q+1)*(v2*P):=zz ae<|zz a<|zo c;have o:0<=(q+1)*v':=zz ae g;have e:(q+1)*((v1*B+v2)*P+v')=(q+1)*v1*B*P+(q+1)*(v2*P)+(q+1)*v':=by
  rw[z8<|v1*B,zm,zm];congr 2;rw[zp,zp,zp]
 rw[e];omega
end Go.Sp
namespace Go.Pe
open Sp
open Go.Det
theorem RN{q x y c b:Int}(d:z7 q=true)(e:z7 x=true)(j:z7 y=true)(g:z7 c=true)(i:0<=b/\b<=1):
  z7 (Hx q x)=true/\z7 (Hs (Hx q x) c 0)=true/\zc .u64 (Pr q x+NY (Hx q x) c 0)=(q*x+c)/18446744073709551616/\z7 ((q*x+c)/18446744073709551616)=true/\
  z7 (RG y (Hs (Hx q x) c 0) b)=true/\(0<=OU y (Hs (Hx q x) c 0) b/\OU y (Hs (Hx q x) c 0) b<=1)/\
  c+b+(RG y (Hs (Hx q x) c 0) b-y)=18446744073709551616*((q*x+c)/18446744073709551616+OU y (Hs (Hx q x) c 0) b)-q*x:=by
 have d:=qf d;have e:=qf e;have g:=qf g;have h0:0<=q*x:=zz d.1 e.1;have k:q*x<=18446744073709551615*18446744073709551615:=by
  have a:=zh (show x<=18446744073709551615 by omega) d.1;have b:=zg (show q<=18446744073709551615 by omega) (show(0:Int)<=18446744073709551615 by omega);omega
 have f:z7 (Hs (Hx q x) c 0)=true:=by unfold Hs;exact Ct ae ae
 obtain⟨s1,s2,s3⟩:=Sp.Gr j f i;refine⟨?_,f,?_,?_,s1,s2,?_⟩
 ·unfold Hx;exact Ct ae ae
 ·unfold Hx Pr NY;rw[Kv];generalize q*x=P at*;omega
 ·generalize q*x=P at*;exact Ct ae ae
 ·generalize OU y (Hs (Hx q x) c 0) b=h at*;generalize RG y (Hs (Hx q x) c 0) b=l at*;unfold Hs Hx at s3;generalize q*x=P at*;omega
namespace T192
theorem gw{a r:List Int}{j:Nat}(h:a.length=j)(i:Nat):(a++r).getD (yc i j) 0=r.getD i 0:=GD a r i j h
theorem sw{a r:List Int}{j:Nat}(h:a.length=j)(i:Nat)(x:Int):(a++r).set (yc i j) x=a++r.set i x:=Rx a r i j x h
theorem lw{a r:List Int}{j i:Nat}(h:a.length=j)(b:i<r.length):decide (yc i j<(a++r).length)=true:=by
 refine w4 ?_;show i+j<_;rw[List.length_append];omega
theorem Ir(r:List Int)(i n:Nat)(x:Int)(h:i<n):(r.set i x).drop n=r.drop n:=by
 rw[List.drop_set,wd h]
theorem Ca[Srt](v9:Int)(l:List Int)(f:Nat)(o:Int)(a:Nat)(o1 E:List Int)(p:Nat)(v:List Int)(n j:Nat)(s:List Int)(m:Nat)(q W:Int)(g:List Int)
  (Y:v.length=n) (M:n<=9000) (hm:n+1<=m) (d:s.length=j) (G:j<a) (z:j<g.length) (O:Au Am v) (I:z7 q=true)
  (h0:∀r:List Int,r.length=m->Au Am r->ze Am (r.drop<|n+1)=0->ze Am r=W-q*ze Am v->Ends I3 (L4 v9 l f o a (zc .i64<|(j:Int)-1) (g.set j q)<|s++r) Q)
  (S:∀r:List Int,r.length=m->Au Am r->ze Am (r.drop<|n+1)=0->ze Am r=W-q*ze Am v+(Am:Int)^(n+1)->Ends I3 (L8 v9 l f o a j o1 E j (n+1) p v n q 0 n 0 g<|s++r) Q):
  ∀(k i:Nat) (r:List Int) (b c:Int),i+k=n->r.length=m->Au Am r->ze Am (r.drop<|n+1)=0->z7 c=true->(0<=b/\b<=1)->ze Am r=W-q*ze Am (v.take i)+(Am:Int)^i*(c+b)->
   Ends I3 (L7 v9 l f o a j o1 E j (n+1) p v n q b c n i g<|s++r) Q
 |0,i,r,b,c,K,J,A,L,B,t,H=>by
  have K:i=n:=ae
  subst K;have y:=AQ A i;obtain⟨s1,s2,s3⟩:=Sp.Gr y B t;have h:decide (yc i j<(s++r).length)=true:=lw d ae;have w:(decide ((0:Int)<=(i:Int))&&decide ((i:Int)<((i+1:Nat):Int)))=true:=by simp;omega
  have F:v.take i=v:=zu ae;have C:∀x:Int,0<=x/\x<18446744073709551616->(r.set i x).length=m/\Au Am (r.set i x)/\ze Am ((r.set i x).drop<|i+1)=0:=fun x T=>
   ⟨by simp[J],Gm A i T,by rw[Ir _ _ _ _ ae];exact L⟩
  obtain⟨P,D,R⟩:=C _<|qf s1;have ev:ze Am (r.set i<|RG (r.getD i 0) c b)=W-q*ze Am v+(Am:Int)^(i+1)*OU (r.getD i 0) c b:=by
   rw[GI _ _ _ _ ae,H,F,Kh,qg, <-zm];congr 2;omega
  refine zw (FA ..) (yt (by simp) ?_);rw[zf,zf,gw d,sw d];refine zd w<|zd h<|zd (Ad (Ad (Ad y B)<|w4 t.1)<|w4 t.2)<|zd w<|zd h<|zx (fun u=>?_)<|fun u=>?_
  ·have u:OU (r.getD i 0) c b=0:=by simpa using u
   refine zd (by simp;omega)<|zd (w4 z)<|h0 _ P D R ?_;rw[ev,u,yu,ql]
  ·have u:OU (r.getD i 0) c b≠0:=by simpa using u
   refine S _ P D R ?_;rw[ev,show OU (r.getD i 0) c b=1 by omega,yz]
 |k+1,i,r,b,c,K,J,A,L,B,t,H=>by
  have N:=AQ O i;have y:=AQ A i;obtain⟨U,m2,Z,V,m5,m6,X⟩:=RN I N y B t;have h:decide (yc i j<(s++r).length)=true:=lw d ae;have w:(decide ((0:Int)<=(i:Int))&&decide ((i:Int)<((n+1:Nat):Int)))=true:=by simp;omega
  have D:=wn (i:=i) ae;refine zw (FA ..) (zd (by simp;omega) ?_);rw[zf,gw d,sw d,Z,D];refine zd (by simp;omega)<|zd (Ad I N)<|zd (Ad (Ad (Ad U B) rfl) rfl)<|zd w<|zd h<|zd (Ad (Ad (Ad y m2)<|w4 t.1)<|w4 t.2)<|zd w<|zd h ?_;refine Ca v9 l f o a o1 E p v n j s m q W g Y M hm d G z O I h0 S k (i+1) _ _ _ ae (by simp[J]) (Gm A i<|qf m5) (by rw[Ir _ _ _ _ ae];exact L) V m6 ?_;rw[GI _ _ _ _ ae,H,Kh,AB,zm q,yh q];have e:(Am:Int)^i*(c+b)+(Am:Int)^i*(RG (r.getD i 0) (Hs (Hx q<|v.getD i 0) c 0) b-r.getD i 0)=(Am:Int)^i*(18446744073709551616*((q*v.getD i 0+c)/18446744073709551616+OU (r.getD i 0) (Hs (Hx q<|v.getD i 0) c 0) b))-(Am:Int)^i*(q*v.getD i 0):=by
   rw[<-zm, <-yq,X]
  omega
theorem Ha[Srt](v9:Int)(o:List Int)(f:Nat)(p:Int)(d:Nat)(o1 I:List Int)(u:Nat)(v:List Int)(n j:Nat)(s:List Int)(m:Nat)(q W:Int)(l:List Int)
  (P:v.length=n) (H:n<=9000) (S:n+1<=m) (a:s.length=j) (A:j<d) (t:j<l.length) (L:Au Am v)
  (hW:0<=W+ze Am v)
  (h0:∀r:List Int,r.length=m->Au Am r->ze Am (r.drop<|n+1)=0->ze Am r=W+ze Am v->Ends I3 (L4 v9 o f p d (zc .i64<|(j:Int)-1) (l.set j<|zc .u64<|q-1)<|s++r) Q):
  ∀(k i:Nat) (r:List Int) (c:Int),i+k=n->r.length=m->Au Am r->ze Am (r.drop<|n+1)=0->(0<=c/\c<=1)->ze Am r=W+(Am:Int)^(n+1)+ze Am (v.take i)-(Am:Int)^i*c->
   Ends I3 (L8 v9 o f p d j o1 I j (n+1) u v n q c n i l<|s++r) Q
 |0,i,r,c,C,G,x,D,z,B=>by
  have C:i=n:=ae
  subst C;have E:=qf<|AQ x i;have h:decide (yc i j<(s++r).length)=true:=lw a ae;have w:(decide ((0:Int)<=(i:Int))&&decide ((i:Int)<((i+1:Nat):Int)))=true:=by simp;omega
  have F:v.take i=v:=zu ae;have N:0<=(r.getD i 0+c) % 18446744073709551616/\(r.getD i 0+c) % 18446744073709551616<18446744073709551616:=ae
  have O:(r.set i<|(r.getD i 0+c) % 18446744073709551616).length=m:=by simp[G]
  have y:Au Am (r.set i<|(r.getD i 0+c) % 18446744073709551616):=Gm x i N;have M:ze Am ((r.set i<|(r.getD i 0+c) % 18446744073709551616).drop<|i+1)=0:=by rw[Ir _ _ _ _ ae];exact D
  have K:=Pa (b:=Am) af y (n:=i+1) ae M;refine zw (LQ ..) (yt (by simp) ?_);rw[zf,zf,gw a,sw a,Kv<|r.getD i 0+c];refine zd w (zd h<|zd w<|zd h<|zd (by simp;omega)<|zd (w4 t)<|h0 _ O y M ?_);have X:=A6 (b:=Am) af i;rw[GI _ _ _ _ ae,B,F]at K ⊢;rcases show(r.getD i 0+c) % 18446744073709551616=r.getD i 0+c\/(r.getD i 0+c) % 18446744073709551616=r.getD i 0+c-18446744073709551616 by omega with g|g
  ·exfalso;rw[g,show r.getD i 0+c-r.getD i 0=c by omega]at K;omega
  ·have R:(Am:Int)^(i+1)=(Am:Int)^i*18446744073709551616:=zt ..;rw[g,show r.getD i 0+c-18446744073709551616-r.getD i 0=c-18446744073709551616 by omega,yq,R];omega
 |k+1,i,r,c,C,G,x,D,z,B=>by
  have J:=AQ L i;have E:=AQ x i;obtain⟨U,T,V⟩:=Ko E J z;have h:decide (yc i j<(s++r).length)=true:=lw a ae;have w:(decide ((0:Int)<=(i:Int))&&decide ((i:Int)<((n+1:Nat):Int)))=true:=by simp;omega
  have y:=wn (i:=i) ae;refine zw (LQ ..) (zd (by simp;omega) ?_);rw[zf,gw a,sw a,y];refine zd w (zd h (zd (by simp;omega)<|zd (Ad (Ad (Ad E J)<|w4 z.1)<|w4 z.2)<|zd w<|zd h ?_));refine Ha v9 o f p d o1 I u v n j s m q W l P H S a A t L hW h0 k (i+1) _ _ ae (by simp[G]) (Gm x i<|qf U) (by rw[Ir _ _ _ _ ae];exact D) T ?_;rw[GI _ _ _ _ ae,B,Kh,AB];have e:(Am:Int)^i*(Hs (r.getD i 0) (v.getD i 0) c-r.getD i 0)-(Am:Int)^i*c=(Am:Int)^i*v.getD i 0-(Am:Int)^i*(18446744073709551616*NY (r.getD i 0) (v.getD i 0) c):=by
   rw[<-yq, <-yq];congr 1;omega
  omega
theorem gO[Srt](v9:Int)(k:List Int)(f:Nat)(l:Int)(e:Nat)(o1 y:List Int)(p:Nat)(v:List Int)(n j:Nat)(u:List Int)(m:Nat)(i h:List Int)
  (A:v.length=n) (x:n<=9000) (B:n+1<=m) (w:u.length=j) (t:j<e) (s:j<h.length) (z:Au Am v)
  (K:i.length=m) (C:Au Am i) (M:ze Am (i.drop<|n+1)=0)
  (o:∀(q:Int) (r:List Int),r.length=m->Au Am r->(0<=q/\q<18446744073709551616)->ze Am r<ze Am v->ze Am r=ze Am i-q*ze Am v->Ends I3 (L4 v9 k f l e (zc .i64<|(j:Int)-1) (h.set j q)<|u++r) Q)
  (q:Int) (D:z7 q=true) (H:ze Am i<(q+1)*ze Am v) (R:q*ze Am v<ze Am i+ze Am v):
  Ends I3 (L7 v9 k f l e j o1 y j (n+1) p v n q 0 0 n 0 h<|u++i) Q:=by
 have I:=qf D;have L:=Az (b:=Am) af C;have J:=Az (b:=Am) af z;rw[z8,zy]at H;refine Ca v9 k f l e o1 y p v n j u m q (ze Am i) h A x B w t s z D (fun r a b c d=>o q r a b I ae d) (fun r a b c d=>?_) n 0 i 0 0 ae K C M af af (by simp[ze]);have S:=Pa (b:=Am) af b (n:=n+1) ae c;have F:1<=q:=by
  rcases ye 0 q with g|g
  ·exact g
  ·have:q=0:=ae
   subst this;rw[qq]at d;omega
 have N:zc .u64 (q-1)=q-1:=wu _ ae ae;refine Ha v9 k f l e o1 y p v n j u m q (ze Am i-q*ze Am v) h A x B w t s z ae (fun O E b' P G=>?_) n 0 r 0 ae a b c af (by rw[d];simp[ze]);rw[N];refine o (q-1) O E b' ae ae ?_;rw[G,qj,zy];omega
theorem zS(q x:Int):Pr q x*18446744073709551616+Hx q x=q*x/\0<=Hx q x/\Hx q x<18446744073709551616:=by
 unfold Pr Hx;generalize q*x=P;omega
theorem Ck[Srt](v9:Int)(n:List Int)(h:Nat)(p:Int)(d:Nat)(o1 N:List Int)(s:Nat)(v:List Int)(k j:Nat)(w:List Int)(m:Nat)(e i:List Int)
  (T:v.length=k+2) (E:k+2<=9000) (hm:k+3<=m) (u:w.length=j) (F:j<d) (D:j<i.length) (C:Au Am v)
  (hr:e.length=m) (M:Au Am e) (U:ze Am (e.drop<|k+3)=0) (K:1<=v.getD (k+1) 0)
  (y:∀(q:Int) (r:List Int),r.length=m->Au Am r->(0<=q/\q<18446744073709551616)->ze Am r<ze Am v->ze Am r=ze Am e-q*ze Am v->Ends I3 (L4 v9 n h p d (zc .i64<|(j:Int)-1) (i.set j q)<|w++r) Q):
  ∀(f:Nat) (q r o:Int),0<=q->q<f->q<18446744073709551616->z7 r=true->(o=0\/o=1)->q*v.getD (k+1) 0+(r+18446744073709551616*o)=e.getD (k+2) 0*18446744073709551616+e.getD (k+1) 0->ze Am e<(q+1)*ze Am v->
   Ends I3 (L5 v9 n h p d j o1 N j (k+3) s v ((k+2:Nat):Int) q r o i<|w++e) Q
 |0,q,r,o,h0,hf,_,_,_,_,_=>by omega
 |f+1,q,r,o,h0,hf,Y,l,ho,he,S=>by
  have Z:z7 q=true:=Ct h0 Y;have H:=AQ C k;have t:=AQ C<|k+1;have W:=AQ M k;have X:=qf H;have gv1:=qf t;have gu2:=qf W;have gr:=qf l;have hP:=A6 (b:=Am) af k;have hW:=kK Am e k ae U;have hV:=gY Am v k T;have R:=Az (b:=Am) af<|AH M k;have x:=Bn (b:=Am) af<|AH M k;have I:=Az (b:=Am) af<|AH C k;have z:=Bn (b:=Am) af<|AH C k;rw[yg,yv ae]at x z;have exit:q*v.getD k 0<=(r+18446744073709551616*o)*18446744073709551616+e.getD k 0->Ends I3 (L7 v9 n h p d j o1 N j (k+3) s v ((k+2:Nat):Int) q 0 0 ((k+2:Nat):Int) 0 i<|w++e) Q:=by
   intro O;refine gO v9 n h p d o1 N s v (k+2) j w m e i T E hm u F D C hr M U y q Z S ?_;rw[hW,hV];exact SY hP ⟨I,z⟩ R ⟨h0,Y⟩ K X.1 he O
  have e1:zc .i64 (((k+2:Nat):Int)-2)=(k:Int):=by rw[wr _ ae ae];omega
  have e2:zc .i64 (((k+2:Nat):Int)-1)=((k+1:Nat):Int):=by rw[wr _ ae ae];omega
  obtain⟨w1,w2,w3⟩:=zS q<|v.getD k 0;have V:decide (yc k j<(w++e).length)=true:=lw u ae;refine zw (Gb ..)<|zx (fun c=>?_)<|fun c=>?_
  ·have c:o=0:=by simpa using c
   subst c;rw[e1,e2,zf,zf,gw u];refine zd (by simp;omega)<|zd (Ad Z H) ?_;have G:r*18446744073709551616+e.getD k 0<q*v.getD k 0->Ends I3 (L5 v9 n h p d j o1 N j (k+3) s v ((k+2:Nat):Int) (zc .u64<|q-1) (Hs r (v.getD (k+1) 0) 0) (NY r (v.getD (k+1) 0) 0) i<|w++e) Q:=by
    intro O;obtain⟨a1,a2,a3⟩:=Ko l t (c:=0) af;have hq1:1<=q:=by
     rcases ye 0 q with g|g
     ·exact g
     ·have:q=0:=ae
      subst this;rw[qq]at O;omega
    rw[wu (q-1) ae ae];refine Ck v9 n h p d o1 N s v k j w m e i T E hm u F D C hr M U K y f (q-1) _ _ ae ae ae a1 ae ?_ ?_
    ·rw[qj,zy,a3];omega
    ·have P:q*v.getD (k+1) 0+r=e.getD (k+2) 0*18446744073709551616+e.getD (k+1) 0:=ae
     have:=RX (B:=Am) (u0:=e.getD (k+2) 0) (u1:=e.getD (k+1) 0) (u2:=e.getD k 0) hP I x h0 (v1:=v.getD (k+1) 0) (v2:=v.getD k 0) (r:=r) P O;rw[<-hW, <-hV]at this;rw[show q-1+1=q by omega];exact this
   refine zx (fun L=>exit ?_) (fun L=>zx (fun A=>zd (by simp;omega)<|zd V<|zx (fun J=>exit ?_)<|fun J=>zd (by simp;omega)<|zd (Ad (Ad (Ad l t) rfl) rfl)<|G ?_) (fun A=>zd (by simp;omega)<|zd (Ad (Ad (Ad l t) rfl) rfl)<|G ?_))
   ·have L:=w6 L;omega
   ·have A:Pr q (v.getD k 0)=r:=by simpa using A
    have J:=w6 J;omega
   ·have A:Pr q (v.getD k 0)=r:=by simpa using A
    have J:=w7 J;omega
   ·have L:=w7 L;have A:Pr q (v.getD k 0)≠r:=by simpa using A
    omega
  ·have c:o≠0:=by simpa using c
   refine exit ?_;have a:=zh (show v.getD k 0<=18446744073709551615 by omega) h0;omega
theorem BK[Srt](s:Int)(v:List Int)(k f:Nat)(F:v.length=k+2)(W:f<=9000)(T:k+2<=f)(w:Au Am v)(B:1<=v.getD (k+1) 0)(X:Int)
  (hq:∀u e:List Int,u.length=f+1->Au Am u->Au Am e->ze Am u<ze Am v->e.length=f-(k+2)+1->X=ze Am u+ze Am v*ze Am e->Ends I3 (L6 s (f+1) ((k+2:Nat):Int) (f-(k+2)+1) ((k+2:Nat):Int) 0 e u) Q):
  ∀(t:Nat) (u e:List Int),t+e.length=f-(k+2)+1->u.length=f+1->Au Am u->Au Am e->ze Am (u.drop t)<ze Am v->X=ze Am u+ze Am v*((Am:Int)^t*ze Am e)->
   Ends I3 (L4 s v (f+1) ((k+2:Nat):Int) (f-(k+2)+1) ((t:Int)-1) (zl t 0++e) u) Q
 |0,u,e,hl,Y,P,C,D,he=>by
  refine zw (Dh ..) (yt (by simp) ?_);exact hq u e Y P C D ae (by rw[he,yi,zy])
 |j+1,u,e,hl,Y,P,C,D,he=>by
  obtain⟨m,r,rfl,g⟩:∃m r:List Int,u=m++r/\m.length=j:=⟨u.take j,u.drop j,(qm j u).symm,by rw[yg];omega⟩;have L:Au Am m:=fun d h=>P d<|jf.2<|.inl h
  have a:Au Am r:=fun d h=>P d<|jf.2<|.inr h
  have K:r.length=f+1-j:=by rw[List.length_append]at Y;omega
  have n:∀z:List Int,(m++z).drop j=z:=fun z=>by rw[<-g];exact List.drop_left
  have hr0:r=r.getD 0 0::r.drop 1:=by
   have:=Ch (l:=r) (i:=0) ae;rw[List.drop_zero]at this;exact this
  have hd1:(m++r).drop (j+1)=r.drop 1:=by rw[Nat.add_comm j 1,Nat.add_comm 1 j, <-List.drop_drop,n]
  rw[hd1]at D;have g0:=N1 (b:=Am) af a 0;have V:ze Am r=r.getD 0 0+18446744073709551616*ze Am (r.drop 1):=by
   conv=>lhs;rw[hr0]
   rfl
  have N:=Bn (b:=Am) af w;rw[F]at N;have g0:0<=r.getD 0 0/\r.getD 0 0<18446744073709551616:=g0;have hrV:ze Am r<18446744073709551616*ze Am v:=by rw[V];omega
  have O:ze Am (r.drop<|k+3)=0:=by
   refine IB (b:=Am) af a ae ?_;have ep:(Am:Int)^(k+3)=(Am:Int)^(k+2)*18446744073709551616:=zt ..;rw[ep];omega
  have G:=AQ a<|k+2;have p:=AQ a<|k+1;have uu2:=AQ a k;have o:=AQ w<|k+1;have gu0:=qf G;have S:=qf p;have U:=qf uu2;have gv1:=qf o;have Z:=qf<|AQ w k;have hP:=A6 (b:=Am) af k;have hW:=kK Am r k ae O;have hV:=gY Am v k F;have hu':=Az (b:=Am) af<|AH a k;have y:=Bn (b:=Am) af<|AH a k;have hv':=Az (b:=Am) af<|AH w k;rw[yg,yv ae]at y;have hle:r.getD (k+2) 0<=v.getD (k+1) 0:=by
   have a1:=Cg Am (r.drop 1) (k+1) (by rw[List.length_drop];omega);have a2:(r.drop 1).drop (k+1)=r.getD (k+2) 0::r.drop (k+3):=by
    rw[List.drop_drop,show 1+(k+1)=k+2 by omega];exact Ch ae
   have a3:ze Am (r.getD (k+2) 0::r.drop (k+3))=r.getD (k+2) 0:=by
    show r.getD (k+2) 0+(Am:Int)*ze Am (r.drop<|k+3)=_;rw[O];omega
   rw[a2,a3]at a1;have R:ze Am v=ze Am (v.take<|k+1)+(Am:Int)^(k+1)*v.getD (k+1) 0:=by
    rw[<-AB,zu ae]
   have J:=Bn (b:=Am) af<|AH w<|k+1;rw[yg,yv ae]at J;have c1:=Az (b:=Am) af<|AH (Eb a 1)<|k+1;have c2:(Am:Int)^(k+1)*r.getD (k+2) 0<(Am:Int)^(k+1)*(v.getD (k+1) 0+1):=by
    rw[zm,yz];omega
   have:=yo c2 (zo<|A6 af<|k+1);omega
  have A:∀(q:Int) (E:List Int),E.length=f+1-j->Au Am E->(0<=q/\q<18446744073709551616)->ze Am E<ze Am v->ze Am E=ze Am r-q*ze Am v->Ends I3 (L4 s v (f+1) ((k+2:Nat):Int) (f-(k+2)+1) (zc .i64<|(j:Int)-1) ((zl (j+1) 0++e).set j q)<|m++E) Q:=by
   intro q E h1 h2 h3 h4 h5;have es:(zl (j+1) (0:Int)++e).set j q=zl j 0++(q::e):=by
    rw[qo,yd];exact CZ _ _ _ _ (by simp)
   rw[es,wr ((j:Int)-1) ae ae];refine BK s v k f F W T w B X hq j (m++E) (q::e) (by simp;omega) (by simp;omega) (FM L h2) (fun d h=>?_) (by rw[n];exact h4) ?_
   ·rcases qn.1 h with rfl|h
    ·exact h3
    ·exact C d h
   ·rw[he,CD,CD,g,h5,Kh];show ze Am m+(Am:Int)^j*ze Am r+ze Am v*((Am:Int)^j*(18446744073709551616*ze Am e))=ze Am m+(Am:Int)^j*(ze Am r-q*ze Am v)+ze Am v*((Am:Int)^j*(q+18446744073709551616*ze Am e));have x1:ze Am v*((Am:Int)^j*q)=(Am:Int)^j*(q*ze Am v):=by
     rw[yh,zq (ze Am v) q]
    rw[yq,zm ((Am:Int)^j) q,zm<|ze Am v,x1];omega
  have ez:yc 0 j=j:=Nat.zero_add j;have e0:(((j+1:Nat):Int)-1)=(j:Int):=ae
  have e1:zc .i64 (zc .i64 ((j:Int)+((k+2:Nat):Int))+1)=((j+(k+3):Nat):Int):=by
   rw[wr ((j:Int)+((k+2:Nat):Int)) ae ae,wr _ ae ae];omega
  have e2:zc .i64 (((k+2:Nat):Int)-1)=((k+1:Nat):Int):=by rw[wr _ ae ae];omega
  have e3:Nat.sub (j+(k+3)) j=k+3:=by show j+(k+3)-j=_;omega
  have H:decide (yc (k+2) j<(m++r).length)=true:=lw g ae;have M:decide (yc (k+1) j<(m++r).length)=true:=lw g ae;rw[e0];refine zw (Dh ..) (zd (by simp) ?_);rw[F,e1,e2,zf,zf,zf,zf,ez,e3,gw g,gw g];have R:(decide ((0:Int)<=((k+2:Nat):Int))&&decide (((k+2:Nat):Int)<((k+3:Nat):Int)))=true:=by simp;omega
  have J:(decide ((0:Int)<=((k+1:Nat):Int))&&decide (((k+1:Nat):Int)<((k+2:Nat):Int)))=true:=by simp;omega
  have b3:(decide ((0:Int)<=((k+1:Nat):Int))&&decide (((k+1:Nat):Int)<((k+3:Nat):Int)))=true:=by simp;omega
  have I:j<(zl (j+1) (0:Int)++e).length:=by simp;omega
  refine zd (by simp;omega)<|zd R<|zd H<|zd J<|zx (fun c=>?_)<|fun c=>?_
  ·have c:=w6 c;obtain⟨a1,a2,a3⟩:=Ko p o (c:=0) af;refine zd b3<|zd M<|zd J<|zd (Ad (Ad (Ad p o) rfl) rfl) ?_;refine Ck s v (f+1) _ _ _ _ _ v k j m (f+1-j) r _ F ae ae g ae I w K a O B A 18446744073709551616 _ _ _ af af af a1 ae ?_ ?_
   ·rw[a3];omega
   ·exact hrV
  ·have c:=w7 c;obtain⟨d1,d2,d3,d4,d5⟩:=dqr (r:=r.getD (k+2) 0) (x:=r.getD (k+1) 0) (d:=v.getD (k+1) 0) ae ae S;refine zd R (zd H<|zd b3<|zd M<|zd J<|zd (Ad (Ad (Ad G p) o)<|w4 ae) ?_);refine Ck s v (f+1) _ _ _ _ _ v k j m (f+1-j) r _ F ae ae g ae I w K a O B A 18446744073709551616 _ _ _ d2 d3 d3 (Ct d4 ae) (.inl rfl) ?_ ?_
   ·rw[<-d1];omega
   ·rw[hW,hV];exact LV hP af d2 hv' Z.1 y U.2 d1 d5
end T192
theorem SO{a b:Int}{s:Nat}(e:0<=a)(c:0<=b)(h:b<2^s)(d:a*2^s+b<18446744073709551616):Xg .u64 b (a*2^s)=a*2^s+b:=by
 have:=Wa e c h d;rw[<-this];show zc .u64 (((yj 64 b|||yj 64 (a*2^s)).toNat:Nat):Int)=zc .u64 (((yj 64 (a*2^s)|||yj 64 b).toNat:Nat):Int);rw[BitVec.or_comm]
theorem WT{s:Nat}(a:s<=63):(18446744073709551616:Int)=2^s*2^(64-s):=by rw[<-Int.pow_add,show s+(64-s)=64 by omega];rfl
namespace T192
theorem IW[Srt](s:Nat)(O:s<=63)(a n m:Nat)(Z:n<=a)(I:a<=9000)(u j:List Int)(hu:u.length=a+1)(N:Au Am u)(P:ze Am (u.drop n)=0)(hm:j.length=m)(H:m<=9000)(t:Au Am j)
  (T:∀(w:List Int) ob,Au Am w->ze Am w=ze Am u/2^s->Q (.tup [.dat CU<|Aw j,.dat CU<|Aw w]) ob):
  ∀(k i:Nat) (p:List Int),i+k=n->p.length=i->Au Am p->ze Am p+(Am:Int)^i*(ze Am (u.drop i)/2^s)=ze Am u/2^s->
   Ends I3 (L6 s (a+1) n m n i j<|p++u.drop i) Q
 |0,i,p,G,g,e,C=>by
  have G:i=n:=ae
  subst G;have ht:(p++u.drop i).take i=p:=by rw[<-g];exact List.take_left
  have K:j.take m=j:=zu ae;rw[P,Int.zero_ediv,yu,ql]at C;refine zw (JR ..) (yt (by simp) ?_);rw[zf,ht,K];refine zd (by simp;omega) (zd (Ad (by simp;omega)<|DW ae t)<|zd (Ad (by simp;omega)<|DW ae e)<|yf<|T p _ e C)
 |k+1,i,p,G,g,e,C=>by
  have M:=Ch (l:=u) (i:=i) ae;have U:=Ch (l:=u) (i:=i+1) ae;have S:=qf<|AQ N i;have gy:=qf<|AQ N<|i+1;have g1:(p++u.drop i).getD i 0=u.getD i 0:=by rw[M];exact Et _ _ _ _ g
  have s1:∀z,(p++u.drop i).set i z=p++z::u.drop (i+1):=fun z=>by rw[M];exact CZ _ _ _ _ g
  have s2:∀z x,(p++z::u.drop (i+1)).set i x=(p++[x])++u.drop (i+1):=fun z x=>by rw[CZ _ _ _ _ g,yd];rfl
  have V:∀z,(p++z::u.drop (i+1)).getD i 0=z:=fun z=>Et _ _ _ _ g
  have g3:∀z,(p++z::u.drop (i+1)).getD (i+1) 0=u.getD (i+1) 0:=fun z=>by
   rw[U,show p++z::u.getD (i+1) 0::u.drop (i+1+1)=(p++[z])++u.getD (i+1) 0::u.drop (i+1+1)by rw[yd];rfl];exact Et _ _ _ _ (by simp[g])
  have r:∀z,(p++z::u.drop (i+1)).length=a+1:=fun z=>by simp;omega
  have o:(p++u.drop i).length=a+1:=by simp;omega
  have Y:=wn (i:=i) ae;have e3:zc .i64 ((64:Int)-(s:Int))=((64-s:Nat):Int):=by rw[wr _ ae ae];omega
  have em:qp s 64=s:=ae
  have E:qp (64-s) 64=64-s:=ae
  have B:=WT O;have q:(0:Int)<2^s:=qc af;have f:(0:Int)<2^(64-s):=qc af;have J:qu (u.getD i 0) ((2:Int)^s)=u.getD i 0/2^s:=qd _<|zo q;have a0:0<=u.getD i 0/2^s:=qh S.1<|zo q;have a1:u.getD i 0/2^s<2^(64-s):=yw q (by rw[zq, <-B];exact S.2);have R:=yp (u.getD (i+1) 0) (show(2:Int)^s≠0 by omega);have m1:=yk (u.getD (i+1) 0) q;have p0:0<=(u.getD (i+1) 0 % 2^s)*2^(64-s):=zz R<|zo f;have p1:(u.getD (i+1) 0 % 2^s)*2^(64-s)<=18446744073709551616-2^(64-s):=by
   have:=zg (show u.getD (i+1) 0 % 2^s<=2^s-1 by omega)<|zo f;rw[qj,zy, <-B]at this;exact this
  have h:0<=u.getD i 0/2^s+(u.getD (i+1) 0 % 2^s)*2^(64-s)/\u.getD i 0/2^s+(u.getD (i+1) 0 % 2^s)*2^(64-s)<18446744073709551616:=ae
  have F:zc .u64 (u.getD (i+1) 0*2^(64-s))=(u.getD (i+1) 0 % 2^s)*2^(64-s):=by
   rw[Kv];exact(Tu (b:=18446744073709551616) (c:=2^(64-s)) (d:=2^s) (k:=0) f q (by rw[B,zq]) ⟨qy _,f⟩ gy).1
  have D:Xg .u64 (u.getD i 0/2^s) ((u.getD (i+1) 0 % 2^s)*2^(64-s))=u.getD i 0/2^s+(u.getD (i+1) 0 % 2^s)*2^(64-s):=by
   rw[SO R a0 a1 ae,Int.add_comm]
  have next:∀z,z=u.getD i 0/2^s+(u.getD (i+1) 0 % 2^s)*2^(64-s)->Ends I3 (L6 s (a+1) n m n ((i+1:Nat):Int) j<|(p++[z])++u.drop (i+1)) Q:=by
   intro z v;refine IW s O a n m Z I u j hu N P hm H t T k (i+1) (p++[z]) ae (by simp[g]) (DG e<|by rw[v];exact Ct h.1 h.2) ?_;rw[<-C,Em,g,Kh,qg, <-zm];congr 2;have:=YK (b:=18446744073709551616) (c:=2^s) (d:=2^(64-s)) (x:=u.getD i 0) (y:=u.getD (i+1) 0) (X:=ze Am<|u.drop<|i+1+1) q B;rw[v,M,U];exact this.symm
  have A:(decide ((0:Int)<=(i:Int))&&decide ((i:Int)<((a+1:Nat):Int)))=true:=by simp;omega
  have W:(decide ((0:Int)<=((i+1:Nat):Int))&&decide (((i+1:Nat):Int)<((a+1:Nat):Int)))=true:=by simp;omega
  refine zw (JR ..) (zd (by simp;omega) ?_);rw[Y,e3,zf,zf,zf,zf,em,E,g1,J,s1,V,g3,s2,F,D,r,o];refine zd A (zd (w4 ae)<|zd (by simp)<|zd A<|zd (w4 ae)<|zx (fun c=>zd (by simp;omega)<|zd A<|zd (w4 ae)<|zd W<|zd (w4 ae)<|zd (by simp)<|zd A<|zd (w4 ae)<|next _ rfl)<|fun c=>?_);have c:=w7 c;have L:s=0:=ae
  subst L;rw[show ∀z:Int,p++z::u.drop (i+1)=(p++[z])++u.drop (i+1)from fun z=>by rw[yd];rfl];refine next _ ?_;rw[yi,Int.emod_one,qq,ql]
theorem Re{X:A0}{F:Int->List Int->Tr}(w:List Int)(s:Nat)(m:s<=63)(A:Au Am w)
  (Dx:∀(i:Nat) (o:List Int),i<w.length->o.length=w.length+1->Ends X (F ((i+1:Nat):Int)<|if 0<s then(o.set i<|Xg .u64 (o.getD i 0)<|zc .u64<|w.getD i 0*2^s).set (i+1) (qu (w.getD i 0)<|2^(64-s))else o.set i<|Xg .u64 (o.getD i 0)<|zc .u64<|w.getD i 0*2^s) Q->Ends X (F i o) Q)
  (e:∀o:List Int,o.length=w.length+1->Au Am o->ze Am o=2^s*ze Am w->Ends X (F w.length o) Q):
  ∀(k i:Nat) (p:List Int) (c:Int),i+k=w.length->p.length=i->Au Am p->(0<=c/\c<2^s)->ze Am p+(Am:Int)^i*c=2^s*ze Am (w.take i)->Ends X (F i (p++c::zl k 0)) Q
 |0,i,p,c,n,a,f,h,j=>by
  have n:i=w.length:=ae
  subst n;have H:(2:Int)^s<=18446744073709551616:=by
   have:=WT m;have E:(1:Int)<=2^(64-s):=qc af;have G:=zh E (show(0:Int)<=2^s from zo<|qc af);omega
  rw[List.take_length]at j;refine e _ (by simp[a]) (DG f<|Ct h.1 ae) ?_;rw[<-j];show ze Am (p++[c])=_;rw[Em,a]
 |k+1,i,p,c,n,a,f,h,j=>by
  have r:=qf<|AQ A i;have B:=WT m;have u:(0:Int)<2^s:=qc af;have g:(0:Int)<2^(64-s):=qc af;obtain⟨s1,s2,s3,s4,s5,s6⟩:=Tu (b:=18446744073709551616) (c:=2^s) (d:=2^(64-s)) (x:=w.getD i 0) (k:=c) u g B h r;have q:qu (w.getD i 0) ((2:Int)^(64-s))=w.getD i 0/2^(64-s):=qd _<|zo g;have C:(p++c::zl (k+1) 0).getD i 0=c:=Et _ _ _ _ a;have st:∀z:Int,(p++c::zl (k+1) 0).set i z=p++z::zl (k+1) 0:=fun z=>CZ _ _ _ _ a
  have v:∀z y:Int,(p++z::zl (k+1) 0).set (i+1) y=(p++[z])++y::zl k 0:=fun z y=>by
   rw[show p++z::zl (k+1) (0:Int)=(p++[z])++0::zl k 0 by rw[yd];rfl];exact CZ _ _ _ _ (by simp[a])
  have l:Xg .u64 c ((w.getD i 0 % 2^(64-s))*2^s)=(w.getD i 0 % 2^(64-s))*2^s+c:=SO (yp _ ae) h.1 h.2 s2;have go:=Re w s m A Dx e k (i+1) (p++[(w.getD i 0 % 2^(64-s))*2^s+c]) (w.getD i 0/2^(64-s)) ae (by simp[a]) (DG f<|Ct ae s2) ⟨s4,s5⟩ (by
   rw[Em,a,Kh,AB,zm<|2^s, <-j,qg,qg, <-zm,yh<|2^s, <-zm];congr 2;rw[zq<|2^s];omega)
  refine Dx i _ ae (by simp;omega) ?_;rw[Kv,s1,q,C,l,st,v];by_cases h0:0<s
  ·rw[wd h0];exact go
  ·have t:s=0:=ae
   subst t;have D:w.getD i 0/2^(64-0)=0:=je r.1 r.2;rw[D]at go;rw[wc h0,show ∀z:Int,p++z::zl (k+1) (0:Int)=(p++[z])++0::zl k 0 from fun z=>by rw[yd];rfl];exact go
end T192
theorem iA[Srt]:DU I3:=
 Aa T167.ok (Aa T229.ok<|Aa T160.ok<|Aa T228.ok<|Aa T230.ok<|Aa cQ<|Aa T245.ok AT)
theorem JC{w:List Int}(b:Au Am w)(a:Sp.nz w){k:Nat}(c:w.length=k+1):0<w.getD k 0/\w.getD k 0<18446744073709551616:=by
 have g:=qf<|AQ b k;refine⟨?_,g.2⟩;have e:w.getLast?=some (w.getD k 0):=by
  rw[List.getLast?_eq_getElem?,c,qv,zr,yr ae];rfl
 unfold Sp.nz at a;rw[e]at a;have:w.getD k 0≠0:=fun h=>a (by rw[h])
 omega
namespace T192
set_option maxHeartbeats 1000000 in
theorem ok[Srt]:Ag Bh 192 G7:=by
 refine BX iA<|fun(i:List Int×List Int) B=>?_;obtain⟨a,b⟩:=i;have B:(B0 a&&B0 b&&decide (a.length<=9000)&&decide (b.length<=9000)&&decide (0<Ao b))=true:=B;rw[zn,zn,zn,zn,w5,w5,w5]at B;obtain⟨⟨⟨⟨na,nb⟩,la9⟩,lb9⟩,m⟩:=B;obtain⟨_,da,za⟩:=Eo na;obtain⟨_,db,zb⟩:=Eo nb;have m:0<ze Am b:=m;have G:=Az (b:=Am) af da;have hg:∀q r ob,q=BO (Ao a/Ao b)->r=BO (Ao a % Ao b)->Ac G7 (a,b) (PV.tup [PV.dat CU q,PV.dat CU r]) ob:=fun q r ob e1 E=>jg rfl rfl (Prod.ext e1 E)
 have fin:∀(q r:List Int) ob,Au Am q->Au Am r->ze Am a=ze Am q*ze Am b+ze Am r->ze Am r<ze Am b->Ac G7 (a,b) (PV.tup [PV.dat CU<|Aw q,PV.dat CU<|Aw r]) ob:=by
  intro q r ob dq dr O hr;have Z:=Az (b:=Am) af dr;obtain⟨u1,u2⟩:=(qe (a:=ze Am a) (b:=ze Am b) (r:=ze Am r) (q:=ze Am q) m).2 ⟨by rw[zq<|ze Am b];omega,Z,hr⟩;refine hg _ _ ob ?_ ?_
  ·rw[Kt dq];show BO (ze Am q)=BO (ze Am a/ze Am b);rw[u1]
  ·rw[Kt dr];show BO (ze Am r)=BO (ze Am a % ze Am b);rw[u2]
 have l:b≠[]:=by rintro rfl;simp[ze]at m
 have T:b.length≠0:=fun h=>l<|jc.1 h
 refine qt (Al a b) (zd (by rw[na,nb];rfl)<|zx (fun c=>?_)<|fun c=>?_)
 ·have c:=w6 c;have p:ze Am a<ze Am b:=by
   unfold B3 at c;have c:(if ze Am a<ze Am b then(-1:Int)else if ze Am a>ze Am b then 1 else 0)<0:=c;split at c
   ·assumption
   ·split at c<;>omega
  refine yf<|jg rfl rfl ?_;show([],a)=(BO<|ze Am a/ze Am b,BO<|ze Am a % ze Am b);rw[je G p,Int.emod_eq_of_lt G p];exact Prod.ext rfl (Ji af da za)
 ·have c:=w7 c;have hge:ze Am b<=ze Am a:=by
   rcases ye (ze Am a) (ze Am b)with g|g
   ·have:B3 (Ao a) (Ao b)= -1:=wd g;omega
   ·exact g
  have hll:b.length<=a.length:=by
   rcases Nat.lt_or_ge a.length b.length with g|g
   ·have:=D6 (b:=Am) af da db zb g;omega
   ·exact g
  refine zx (fun C=>?_)<|fun C=>?_
  ·have C:b.length=1:=by
    have:(b.length:Int)=1:=by simpa using C
    omega
   obtain⟨d,rfl⟩:=List.length_eq_one_iff.1 C;have hd:0<d/\d<18446744073709551616:=JC (k:=0) db zb rfl;have e1:zc .i64 ((a.length:Int)-1)=(a.length:Int)-1:=wr _ ae ae;rw[e1,zf];refine zd (by simp;omega) ?_;have:=Ap (Q:=Ac G7 (a,[d])) a d da hd ae (fun q r ob dq dr O=>by
    refine fin q [r] ob dq (fun x j=>by rw[List.mem_singleton]at j;subst j;exact⟨dr.1,by show x<18446744073709551616;omega⟩) ?_ ?_
    ·rw[val_one,val_one];exact O
    ·rw[val_one,val_one];exact dr.2) a.length [] 0 (by simp) (fun x j=>by cases j) ⟨qy _,hd.1⟩ (by rw[List.drop_length];simp[ze])
   rw[List.append_nil]at this;exact this
  ·have C:b.length≠1:=by
    have:(b.length:Int)≠1:=by simpa using C
    omega
   obtain⟨k,z⟩:∃k,b.length=k+2:=⟨b.length-2,by omega⟩;obtain⟨y0,y1⟩:=JC (k:=k+1) db zb z;obtain⟨s,hs,hs63,p,_⟩:=Tp y0 y1;have hB:=WT hs63;have f:(0:Int)<2^s:=qc af;have h2d:(0:Int)<2^(64-s):=qc af;have hyd:b.getD (k+1) 0<2^(64-s):=by
    rw[hB,zq<|b.getD (k+1) 0]at p;exact yo p<|zo f
   have V:(Am:Int)^(k+1)<=2^s*ze Am b:=by
    have a1:=CV (b:=Am) af db zb l;rw[z,show k+2-1=k+1 by omega]at a1;have a2:=zg (show(1:Int)<=2^s by omega)<|zo m;omega
   have hv2:2^s*ze Am b<(Am:Int)^(k+2):=by
    have A:ze Am b=ze Am (b.take<|k+1)+(Am:Int)^(k+1)*b.getD (k+1) 0:=by
     rw[<-AB,zu ae]
    have b2:=Bn (b:=Am) af<|AH db<|k+1;rw[yg,yv ae]at b2;have hp:=A6 (b:=Am) af<|k+1;have b3:ze Am b<(Am:Int)^(k+1)*2^(64-s):=by
     have:=zh (show b.getD (k+1) 0+1<=2^(64-s)by omega)<|zo hp;rw[zm,yz]at this;omega
    have b4:=qw b3 f;have b5:(2:Int)^s*((Am:Int)^(k+1)*2^(64-s))=(Am:Int)^(k+2):=by
     rw[yh, <-hB];exact(zt ..).symm
    rw[b5]at b4;exact b4
   have hls:∀o:List Int,Au Am o->ze Am o=2^s*ze Am b->Au Am (Aw o)/\(Aw o).length=k+2/\ze Am (Aw o)=2^s*ze Am b/\1<=(Aw o).getD (k+1) 0:=by
    intro o X hv;have v:=GV X;have y:ze Am (Aw o)=2^s*ze Am b:=by rw[Is,hv]
    have L:=Zv (b:=Am) af v (Kn o) (k:=k+1) (by rw[y];exact V) (by rw[y];exact hv2);have:=(JC v (Kn o) L).1;exact⟨v,L,y,by omega⟩
   have E:zc .i64 (((k+2:Nat):Int)-1)=((k+1:Nat):Int):=by rw[wr _ ae ae];omega
   have e3:zc .i64 (((k+2:Nat):Int)+1)=((k+3:Nat):Int):=by rw[wr _ ae ae];omega
   have e4:zc .i64 ((a.length:Int)+1)=((a.length+1:Nat):Int):=by rw[wr _ ae ae];omega
   have e5:zc .i64 ((a.length:Int)-((k+2:Nat):Int))=((a.length-(k+2):Nat):Int):=by rw[wr _ ae ae];omega
   have e6:zc .i64 (((a.length-(k+2):Nat):Int)+1)=((a.length-(k+2)+1:Nat):Int):=by rw[wr _ ae ae];omega
   have e7:zc .i64 ((64:Int)-(s:Int))=((64-s:Nat):Int):=by rw[wr _ ae ae];omega
   have em:qp s 64=s:=ae
   have H:qp (64-s) 64=64-s:=ae
   rw[z,E,e3,zf,zf,hs];refine zd (by simp;omega) (zd (Ct ae y1) (zd (by simp;omega) ?_));refine Re (F:=fun i o=>L2 a b s (k+3) b ((k+2:Nat):Int) i o) b s hs63 db (fun i o B X h=>?_) (fun o hol I W=>?_) (k+2) 0 [] 0 ae rfl (fun x j=>by cases j) ⟨qy _,f⟩ (by simp[ze])
   ·have ei:=wn (i:=i) ae;have A:(decide ((0:Int)<=(i:Int))&&decide ((i:Int)<((k+3:Nat):Int)))=true:=by simp;omega
    refine zw (A5 ..) (zd (by simp;omega) ?_);rw[ei,e7,zf,zf,zf,zf,em,H];refine zd (by simp;omega) (zd A<|zd (w4 ae)<|zd (by simp)<|zd A<|zd (w4 ae)<|zx (fun c=>zd (by simp)<|zd (by simp;omega)<|zd (by simp;omega) ?_)<|fun c=>?_)
    ·have c:=w6 c;rw[wd ae]at h;exact h
    ·have c:=w7 c;rw[wc ae]at h;exact h
   obtain⟨vd,vl,P,v1⟩:=hls o I W;have eo:o.take (k+3)=o:=zu ae;rw[z];refine zw (A5 ..) (yt (by simp) ?_);rw[eo,e4,zf,z,E,zf,hs];refine zd (Ad (by simp;omega)<|DW ae I) (zd (by simp;omega) ?_);refine Re (F:=fun i o'=>L3 a b s (k+3) b ((k+2:Nat):Int) ((k+2:Nat):Int) o s (a.length+1) a a.length i o' o) a s hs63 da (fun i o' B X h=>?_) (fun u hul M U=>?_) a.length 0 [] 0 ae rfl (fun x j=>by cases j) ⟨qy _,f⟩ (by simp[ze])
   ·have ei:=wn (i:=i) ae;have A:(decide ((0:Int)<=(i:Int))&&decide ((i:Int)<((a.length+1:Nat):Int)))=true:=by simp;omega
    refine zw (C5 ..) (zd (by simp;omega) ?_);rw[ei,e7,zf,zf,zf,zf,em,H];refine zd (by simp;omega) (zd A<|zd (w4 ae)<|zd (by simp)<|zd A (zd (w4 ae)<|zx (fun c=>zd (by simp)<|zd (by simp;omega)<|zd (by simp;omega) ?_)<|fun c=>?_))
    ·have c:=w6 c;rw[wd ae]at h;exact h
    ·have c:=w7 c;rw[wc ae]at h;exact h
   refine zw (C5 ..) (yt (by simp) ?_);rw[eo,vl,e5,e6,zf,z,E,zf,hs];refine zd (by simp;omega) ?_;have K:=A6 (b:=Am) af<|a.length-(k+2)+1;have start:ze Am (u.drop<|a.length-(k+2)+1)<ze Am (Aw o):=by
    have a1:=Cg Am u (a.length-(k+2)+1) ae;have a2:=Az (b:=Am) af<|AH M<|a.length-(k+2)+1;have a3:=Bn (b:=Am) af da;have a4:=qw a3 f;have a5:(Am:Int)^a.length=(Am:Int)^(a.length-(k+2)+1)*(Am:Int)^(k+1):=by rw[<-Int.pow_add];congr 1;omega
    have a6:=CV (b:=Am) af db zb l;rw[z,show k+2-1=k+1 by omega]at a6;have a7:=zh a6<|zo f;have a8:=zh a7<|zo K;rw[a5,yh]at a4;rw[P];refine yo (a:=(Am:Int)^(a.length-(k+2)+1)) ?_<|zo K;omega
   have go:=BK (Q:=Ac G7 (a,b)) s (Aw o) k a.length vl la9 ae vd v1 (2^s*ze Am a) (fun S N D t J n R O=>by
    have hz:ze Am (S.drop<|k+2)=0:=IB (b:=Am) af t ae (by rw[P]at n;omega);refine IW s hs63 a.length (k+2) (a.length-(k+2)+1) ae la9 S N D t hz R ae J (fun w ob hw Y=>?_) (k+2) 0 [] ae rfl (fun x j=>by cases j) (by simp[ze]);have e:ze Am S=2^s*(ze Am a-ze Am N*ze Am b):=by
     rw[P,zp,zq<|ze Am b]at O;rw[yq];omega
    have ew:ze Am w=ze Am a-ze Am N*ze Am b:=by
     rw[Y,e];exact Int.mul_ediv_cancel_left _ ae
    refine fin N w ob J hw ae ?_;rw[P,e]at n;have:=yo n<|zo f;omega) (a.length-(k+2)+1) u [] (by simp) hul M (fun x j=>by cases j) start (by rw[U];simp[ze])
   rw[List.append_nil,show((a.length-(k+2)+1:Nat):Int)-1=((a.length-(k+2):Nat):Int)by omega]at go;exact go
end T192
theorem Yk[Srt]:Ag Bh 192 G7:=T192.ok
theorem lW[Srt]:DU XF0:=fun g sp h=>by cases h
theorem T97n.ok[Srt]:Ag Bh 97 S8:=by
 refine BX lW<|fun(n:Int) _=>?_;refine qt (T97n.Al n)<|yf<|jg rfl rfl ?_;show(n,[])=(n,B7 n);rw[ER]
theorem iP[Srt]:DU tZ:=
 Aa T97n.ok (Aa Yk<|Aa (T162.ok GP)<|Aa (T163.ok GP)<|Aa T174.ok<|Aa T102.ok<|Aa T158.ok AT)
theorem TS{m D:Int}(c:0<D):(m % D=0->(-m)/D= -(m/D)/\(-m) % D=0)/\(m % D≠0->(-m)/D= -(m/D)-1/\(-m) % D=D-m % D):=by
 have e:=yb m D;have d:=yp m (show D≠0 by omega);have r1:=yk m c;refine⟨fun h=>?_,fun h=>?_⟩
 ·exact(qe (a:= -m) (b:=D) (r:=0) (q:= -(m/D)) c).2 ⟨by rw[jh];omega,by omega,by omega⟩
 ·exact(qe (a:= -m) (b:=D) (r:=D-m % D) (q:= -(m/D)-1) c).2 ⟨by rw[yq,jh,yz];omega,by omega,by omega⟩
theorem hI{m D:Int}(a:0<=m)(d:0<D):(0<=m/D/\m/D<=m)/\(0<=m % D/\m % D<=m/\m % D<D):=by
 have e:=yb m D;have b:0<=m/D:=qh a ae;have q1:m/D<=m:=Int.ediv_le_self _ a;have c:=yp m (show D≠0 by omega);have r1:=yk m d;have:=zz (show 0<=D by omega) b;exact⟨⟨b,q1⟩,c,by omega,r1⟩
theorem Vz(n:Bool){v:Int}(h:0<=v):Ae (q9 n v)=v:=by
 rw[Da,Ah];split<;>omega
theorem Dl{n:Int}(h:Ae n<(Am:Int)^9000):Bd (CC n)=true:=by
 have:=MJ h ae;unfold Bd;exact Ad this.1<|w4 this.2
theorem bT{a b:AE}(h:0<zk a+zk b):D1 a b=CC (zk a+zk b):=by
 unfold D1;split
 ·next c=>
  have:=EP c.2.2;rw[BF c.1,BF c.2.1]at h ⊢;exact(B2 ae).symm
 ·rfl
theorem MI:((1:Int),B7 (1:Int))=CC 1:=by rw[ER];rfl
namespace T173
theorem PW{a b:AE}(q:Int)(h: -9223372036854775808<q/\q<9223372036854775808)(c:E5 a b=CC q\/(-9223372036854775808<q/\E5 a b=Mg (CC<|q+1) (1,[])/\q+1<9223372036854775808)):E5 a b=(q,[]):=by
 rcases c with c|⟨e,c,d⟩
 ·rw[c,B2 h]
 ·rw[c,B2 ae];unfold Mg CN;rw[wd ⟨rfl,by decide⟩];unfold D1;rw[wd ⟨rfl,rfl,EV (by show _<=q+1+ -1;omega)<|by show q+1+ -1<_;omega⟩];show(q+1+ -1,[])=(q,[]);rw[show q+1+ -1=q by omega]
set_option maxHeartbeats 1000000 in
theorem ok[Srt]:Ag Bh 173 Gc:=by
 refine BX iP<|fun(i:(Int×List Int)×(Int×List Int)) w=>?_;obtain⟨a,b⟩:=i;have w:(Bd a&&Bd b&&decide (0<zk b))=true:=w;rw[zn,zn,w5]at w;obtain⟨⟨ha,hb⟩,hD⟩:=w;obtain⟨oa,_,na,_,va,ba⟩:=words ha;obtain⟨ob,_,nb,_,vb,bb⟩:=words hb;have E:Ae (zk b)=zk b:=by rw[Ah];omega
 have G:=AG<|zk a;have d:Ae (zk a)=if zk a<0 then -zk a else zk a:=rfl
 obtain⟨⟨t,q1⟩,u,r1,r2⟩:=hI (D:=zk b) G hD;obtain⟨z1,z2⟩:=TS (m:=Ae<|zk a) hD;have j:jW (BO<|Ae<|zk a) (BO<|Ae<|zk b)=true:=by
  unfold jW;exact Ad (Ad (Ad (Ad na nb)<|w4<|Lo G ba)<|w4<|Lo (AG _) bb) (w4<|by rw[vb,E];exact hD)
 have fin:∀(q r:AE) v ob,NB Gc.outs v ob=some (true,(q,r))->q=E5 a b->r=CC (zk a % zk b)->Ac Gc (a,b) v ob:=fun q r v ob h L K=>jg h rfl (by rw[L,K];rfl)
 have l:Ends tZ (L1 (decide (zk a<0)) (BO<|Ao (BO<|Ae<|zk a)/Ao (BO<|Ae<|zk b)) (BO<|Ao (BO<|Ae<|zk a) % Ao (BO<|Ae<|zk b)) 0 0 b.1 b.2) (Ac Gc (a,b)):=by
  rw[va,vb,E];obtain⟨M,_,I⟩:=CY (n:=Ae (zk a)/zk b) (k:=9000) t ae ae;obtain⟨nr,_,vr⟩:=CY (n:=Ae (zk a) % zk b) (k:=9000) u ae ae;have B:Bd (CC<|q9 (decide (zk a<0))<|Ae (zk a) % zk b)=true:=Dl (by rw[Vz _ u];omega);have S:Bd (CC<|q9 (decide (zk a<0))<|Ae (zk a)/zk b)=true:=Dl (by rw[Vz _ t];omega);have R:Bd ((1:Int),B7 (1:Int))=true:=by rw[MI];decide
  have es:Ib (Cy<|q9 (decide (zk a<0))<|Ae (zk a) % zk b,Cv<|q9 (decide (zk a<0))<|Ae (zk a) % zk b)=SP (q9 (decide (zk a<0))<|Ae (zk a) % zk b):=by
   show SP (zk<|CC _)=_;rw[Cc]
  refine zw (As ..)<|zd M<|zd nr ?_;rw[I,vr];refine zw (A5 ..)<|zd (BY B).1 ?_;rw[es];refine zx (fun c=>?_)<|fun c=>?_
  ·have c:=w6 c;have o:q9 (decide (zk a<0)) (Ae (zk a) % zk b)<0:=by
    rw[JM]at c;split at c
    ·assumption
    ·split at c<;>omega
   have f:zk a<0:=by
    rcases ye (zk a) 0 with g|g
    ·exact g
    ·rw[Da,wc<|by simp;omega]at o;omega
   have e:Ae (zk a) % zk b≠0:=by
    rw[Da,wd<|w4 f]at o;omega
   obtain⟨z3,z4⟩:=z2 e;refine zd rfl (zd (Ad S R)<|zd (Ad B hb)<|yf<|fin (Mg (CC<|q9 (decide (zk a<0))<|Ae (zk a)/zk b) (1,B7 1)) (D1 (CC<|q9 (decide (zk a<0))<|Ae (zk a) % zk b) b) _ _ rfl ?_ ?_)
   ·unfold E5;rw[wd ⟨f,e⟩,ER,Da,wd<|w4 f]
   ·have ev:zk a= -Ae (zk a):=by rw[d,wd f];omega
    have C:zk (CC<|q9 (decide (zk a<0))<|Ae (zk a) % zk b)= -(Ae (zk a) % zk b):=by rw[Cc,Da,wd<|w4 f]
    have O:zk a % zk b=zk b-Ae (zk a) % zk b:=by rw[<-z4, <-ev]
    rw[bT (by rw[C];omega),C,O];congr 1;omega
  ·have c:=w7 c;have o:¬(zk a<0/\Ae (zk a) % zk b≠0):=by
    rintro⟨f,e⟩;rw[Da,wd<|w4 f,JM,wd ae]at c;omega
   refine yf<|fin (CC<|q9 (decide (zk a<0))<|Ae (zk a)/zk b) (CC<|q9 (decide (zk a<0))<|Ae (zk a) % zk b) _ _ rfl ?_ ?_
   ·unfold E5;rw[wc o]
   ·congr 1;rcases ye (zk a) 0 with g|g
    ·have e:Ae (zk a) % zk b=0:=by
      rcases ye 0 (Ae (zk a) % zk b)with g2|g2
      ·exact wh ⟨g,by omega⟩ o
      ·omega
     have ev:zk a= -Ae (zk a):=by rw[d,wd g];omega
     have:=(z1 e).2;rw[<-ev]at this;rw[this,e,Da];split<;>rfl
    ·rw[Da,wc (by simp;omega),d,wc ae]
 refine qt (Al a b)<|zx (fun H=>zx (fun o=>zx (fun y=>?_)<|fun y=>?_)<|fun o=>?_)<|fun H=>?_
 ·have a2:=Ns H;have J:=Ns o;have y:a.1≠ -9223372036854775808:=by simpa using y
  have U:=EP (n:=a.1) (by
   have:=oa;unfold Dd at this;rw[zn]at this;exact this.1)
  have V:=EP (n:=b.1) (by
   have:=ob;unfold Dd at this;rw[zn]at this;exact this.1)
  have p:=BF a2;have s:=BF J;rw[p]at d;rw[s]at hD r2;rw[p,s]at t q1 u r1 z1 z2;rw[p]at r2;have x:yy a.1 b.1=if a.1<0 then -(Ae a.1/b.1)else Ae a.1/b.1:=by
   rw[d];split
   ·have:=Int.neg_tdiv (-a.1) b.1;rw[Int.neg_neg]at this;rw[this,ym ae]
   ·exact ym ae
  have e:qk a.1 b.1=if a.1<0 then -(Ae a.1 % b.1)else Ae a.1 % b.1:=by
   rw[d];split
   ·have:=Int.neg_tmod (-a.1) b.1;rw[Int.neg_neg]at this;rw[this,yn ae]
   ·exact yn ae
  refine zd (w4 ae) (zd (w4 ae)<|zx (fun c=>?_)<|fun c=>?_)
  ·have c:=w6 c;rw[e]at c;have f:a.1<0:=by split at c<;>omega
   rw[wd f]at c x e;rw[wd f]at d;obtain⟨z3,z4⟩:=z2 ae;have ev:a.1= -Ae a.1:=ae
   have P:Ae a.1/b.1<9223372036854775807:=by
    rcases ye (Ae a.1/b.1) 9223372036854775807 with g|g
    ·exact g
    ·have:=yb (Ae a.1) b.1;have:=zg (show 1<=b.1 by omega) t;omega
   refine yf<|fin (zc .i64<|zc .i64 (yy a.1 b.1)-1,[]) (zc .i64<|qk a.1 b.1+b.1,[]) _ _ rfl ?_ ?_
   ·rw[x,wr (-(Ae a.1/b.1)) ae ae,wr _ ae ae];refine(PW _ ae<|.inr ⟨by omega,?_,by omega⟩).symm;unfold E5;rw[p,s,wd ⟨f,by omega⟩,show -(Ae a.1/b.1)-1+1= -(Ae a.1/b.1)by omega]
   ·rw[e,wr _ ae ae];have:a.1 % b.1=b.1-Ae a.1 % b.1:=by rw[<-z4, <-ev]
    rw[p,s,this,B2 ae];congr 1;omega
  ·have c:=w7 c;rw[e]at c;refine yf<|fin (zc .i64<|yy a.1 b.1,[]) (qk a.1 b.1,[]) _ _ rfl ?_ ?_
   ·have A:E5 a b=CC (yy a.1 b.1):=by
     unfold E5;rw[p,s,x,wc (by rintro⟨N,T⟩;rw[wd N]at c;omega),Da];by_cases h:a.1<0
     ·rw[wd<|w4 h,wd h]
     ·rw[wc (by simp;omega),wc h]
    have z: -9223372036854775808<yy a.1 b.1/\yy a.1 b.1<9223372036854775808:=by
     rw[x,d]at*;split<;>split at q1<;>split at t<;>omega
    rw[wr _ ae ae];exact(PW _ z<|.inl A).symm
   ·rw[e];by_cases h:a.1<0
    ·rw[wd h]at c ⊢;have F:Ae a.1 % b.1=0:=ae
     rw[wd h]at d;have ev:a.1= -Ae a.1:=ae
     have:=(z1 F).2;rw[<-ev]at this;rw[p,s,this,F];rfl
    ·rw[wc h]at c ⊢;rw[wc h]at d;rw[p,s,d,B2<|by rw[d]at u r1;omega]
 ·exact zd oa<|zd ob<|zd j l
 ·exact zd oa<|zd ob<|zd j l
 ·exact zd oa<|zd ob<|zd j l
end T173
theorem iD[Srt]:DU yW:=
 Aa T173.ok (Aa T172.ok<|Aa T158.ok AT)
theorem iE{a:AE}(h:Dd a=true):Tq a=CC (Ae<|zk a):=by
 have l:=kX h;obtain⟨j,e⟩:=EE h;unfold Tq;by_cases h0:a.1<0
 ·rw[wd h0,Ah];unfold CN;have b:=l.1 h0;split
  ·next c=>rw[BF c.1]at b ⊢;rw[B2 ae];congr 1;omega
  ·congr 1;omega
 ·rw[wc h0];obtain⟨s,w⟩:=a;have h0:¬s<0:=h0;rcases e with e|⟨m,i,f⟩
  ·have e:w=[]:=e;subst e;have j: -9223372036854775808<=s/\s<9223372036854775808:=j;rw[EB,Ah,B2 ae];congr 1;omega
  ·obtain⟨_,d,z⟩:=Eo m;have i:s=1\/s= -1:=i;have f:9223372036854775808<=Ao w:=f;have g:w≠[]:=by rintro rfl;exact wh f af
   have k:s=1:=ae
   subst k;rw[aY g,wc af,Ah];have:=QO (w:=w) false d z f;rw[wc af,wc af]at this;rw[show((Ao w).natAbs:Int)=Ao w by omega,this]
theorem bI(n:Int):Ib (Cy n,Cv n)=SP n:=by
 show SP (zk<|CC _)=_;rw[Cc]
theorem Km(n:Int):zk (Cy n,Cv n)=n:=Cc n
theorem W1(m n:Int):Za (Cy m,Cv m) (Cy n,Cv n)=Cy (m % n)/\YY (Cy m,Cv m) (Cy n,Cv n)=Cv (m % n):=by
 constructor
 ·show Cy (zk (CC _) % zk (CC _))=_;rw[Cc,Cc]
 ·show Cv (zk (CC _) % zk (CC _))=_;rw[Cc,Cc]
theorem E0{n:Int}(h:Bd (CC n)=true):Bd (Cy n,Cv n)=true:=h
theorem Ms{a:AE}(h:Dd a=true):ML a=Cy (Ae<|zk a)/\OO a=Cv (Ae<|zk a):=by
 unfold ML OO;rw[iE h];exact⟨rfl,rfl⟩
theorem SD(x y:Nat):((x:Int) % (y:Int))=((x % y:Nat):Int):=rfl
theorem lU(a b:AE)(n:Int)(h:n=Sp.gI (zk a) (zk b)):(Cy n,Cv n)=(LP a b,LD a b):=by subst h;rfl
namespace T117
theorem mI(n:Nat)(h:(n:Int)<(Am:Int)^9000):Bd (CC (n:Int))=true:=Dl (by rw[Ah,Int.natAbs_natCast];exact h)
theorem Ap[Srt](g:Nat)(e L:Int)(b:∀n:Nat,(n:Int)<L->Bd (CC (n:Int))=true)(i:∀ob,Q (.agg [.dat i64<|Cy (g:Int),.dat (.nlist u64)<|Cv (g:Int)]) ob):∀(f x y:Nat),y<f->Nat.gcd x y=g->(x:Int)<L->(y:Int)<L->
  Ends yW (L1 e (Cy (y:Int)) (Cv (y:Int)) (Cy (x:Int))<|Cv (x:Int)) Q
 |0,x,y,h,_,_,_=>by omega
 |f+1,x,y,m,c,k,a=>by
  have j:Bd (CC (x:Int))=true:=b x k;have d:Bd (CC (y:Int))=true:=b y a
  refine zw (As ..)<|zd (BY<|E0 d).1 ?_;rw[bI,(W1 _ _).1,(W1 _ _).2,Km,SD];by_cases h0:y=0
  ·subst h0;rw[Nat.gcd_zero_right]at c;subst c;exact yt rfl (yf<|i _)
  ·have l:x % y<y:=Nat.mod_lt _ ae;refine zd ?_ (zd (Ad (Ad (E0 j)<|E0 d)<|w4 ae) ?_)
   ·rw[JM,wc ae,wd ae];rfl
   ·exact Ap g e L b i f y (x % y) ae (by rw[Nat.gcd_comm, <-Nat.gcd_rec,Nat.gcd_comm];exact c) a ae
set_option maxRecDepth 10000 in
theorem ok[Srt]:Ag Bh 117 Vq:=by
 refine BX iD<|fun(i:(Int×List Int)×(Int×List Int)) c=>?_;obtain⟨a,b⟩:=i;have c:(Bd a&&Bd b)=true:=c;rw[zn]at c;obtain⟨ha,hb⟩:=c;have d:=(BY ha).1;have ob:=(BY hb).1;have f:=bounds ha;have e:=bounds hb;rw[Ah]at f e;refine qt (Al a b)<|zd d<|zd ob ?_;show Ends yW (L1 0 (ML b) (OO b) (ML a)<|OO a) _;rw[(Ms d).1,(Ms d).2,(Ms ob).1,(Ms ob).2,Ah,Ah];refine Ap (Nat.gcd (zk a).natAbs (zk b).natAbs) 0 _ mI (fun ob=>jg rfl rfl (lU a b _ ?_)) ((zk b).natAbs+1) _ _ (Nat.lt_succ_self _) rfl f e;rw[FT];rfl
end T117
theorem xJ(n:Nat)(h:n<9223372036854775808):Hb .i64 (n:Int) 1=((n % 2:Nat):Int):=by
 have e:(yj 64 (n:Int)&&&yj 64 1).toNat=n % 2:=by
  rw[BitVec.toNat_and];have b:(yj 64 (n:Int)).toNat=n:=by rw[BitVec.ofInt_natCast,BitVec.toNat_ofNat];exact Nat.mod_eq_of_lt ae
  have a:(yj 64 1).toNat=2^1-1:=af
  rw[b,a,Nat.and_two_pow_sub_one_eq_mod]
 show zc .i64 (((yj 64 (n:Int)&&&yj 64 1).toNat:Nat):Int)=_;rw[e];exact wr _ ae ae
namespace T156
theorem Tl{c:Int}(h:c≠0):1<=Ae c:=by rw[Ah];omega
theorem Vs(c:Int):∀k:Nat,Ae (c^k)=Ae c^k
 |0=>by rw[yi,yi];rfl
 |k+1=>by rw[zt,zt,IG,Vs c k]
theorem one_le_pow{c:Int}(h:1<=c):∀k:Nat,1<=c^k
 |0=>by rw[yi];decide
 |k+1=>by
  rw[zt];have:=zg (one_le_pow h k) (show 0<=c by omega);omega
theorem xI{p c L:Int}{k:Nat}(n:1<L)(h:Ae (p*c^k)<L)(m:c=0->Ae p<=1)(i:c≠0->p≠0):Ae p<L/\(1<=k->Ae c<L)/\(2<=k->Ae (c*c)<L)/\(1<=k->Ae (p*c)<L):=by
 by_cases b:c=0
 ·subst b;have:=m rfl;have e:Ae 0=0:=rfl;exact⟨by omega,fun _=>by rw[e];omega,fun _=>by rw[yu,e];omega,fun _=>by rw[yu,e];omega⟩
 ·have l:=Tl<|i b;have a:=Tl b;rw[IG,Vs]at h;rw[IG,IG];generalize Ae p=P at*;generalize Ae c=C at*;have g:1<=C^k:=one_le_pow a k;have a1:P<=P*C^k:=by
   have:=zh g (show 0<=P by omega);omega
  have f:C^k<=P*C^k:=by
   have:=zg l (show 0<=C^k by omega);omega
  refine⟨by omega,fun d=>?_,fun d=>?_,fun d=>?_⟩
  ·obtain⟨j,rfl⟩:∃j,k=j+1:=⟨k-1,by omega⟩;rw[zt]at f h;have:=zg (one_le_pow a j) (show 0<=C by omega);omega
  ·obtain⟨j,rfl⟩:∃j,k=j+2:=⟨k-2,by omega⟩;have e:C^(j+2)=C^j*(C*C):=by rw[zt,zt,zp]
   rw[e]at f h;have:=zg (one_le_pow a j) (zz (show 0<=C by omega) (show 0<=C by omega));omega
  ·obtain⟨j,rfl⟩:∃j,k=j+1:=⟨k-1,by omega⟩;have e:P*C^(j+1)=C^j*(P*C):=by rw[zt,yh]
   rw[e]at h;have:=zg (one_le_pow a j) (zz (show 0<=P by omega) (show 0<=C by omega));omega
theorem X9{p c:Int}{k j:Nat}(h:k=2*j):p*(c*c)^j=p*c^k:=by
 subst h;rw[Int.pow_mul,zt,zt,yi,zy]
theorem ZP{p c:Int}{k j:Nat}(h:k=2*j+1):p*c*(c*c)^j=p*c^k:=by
 subst h;rw[zt,Int.pow_mul,show c^2=c*c by rw[zt,zt,yi,zy],zp,zq c]
theorem xR{x:Int}(h:x<(18446744073709551616:Int)^(4000:Nat)):x<(Am:Int)^9000:=
 Int.lt_of_lt_of_le h (AJ (b:=Am) af ae)
theorem Ap[Srt](o1 R:Int)(hR:Ae R<(18446744073709551616:Int)^(4000:Nat))(r:∀ob,Q (.agg [.dat i64<|Cy R,.dat (.nlist u64)<|Cv R]) ob):
  ∀(f k:Nat) (p:Int) (a:AE),k<f->k<=100000->(1<=k->Bd a=true)->p*zk a^k=R->(zk a=0->Ae p<=1)->(zk a≠0->p≠0)->
   Ends tX (L1 (k:Int) (Cy p) (Cv p) o1 a.1 a.2) Q
 |0,k,p,a,h,_,_,_,_,_=>by omega
 |f+1,k,p,a,D,x,y,i,u,n=>by
  have w:(1:Int)<(18446744073709551616:Int)^(4000:Nat):=Int.lt_of_lt_of_le (show(1:Int)<18446744073709551616^(1:Nat)by decide) (AJ (b:=18446744073709551616) af ae);rw[<-i]at hR;obtain⟨s1,s2,s3,s4⟩:=xI w hR u n;by_cases h0:k=0
  ·subst h0;rw[yi,yz]at i;subst i;exact zw (As ..) (yt (by simp)<|yf<|r _)
  ·have C:Bd (Cy p,Cv p)=true:=Dl<|xR s1;have j:Bd a=true:=y ae;have A:qu (k:Int) ((2:Int)^(1:Nat))=((k/2:Nat):Int):=by
    rw[qd _ af];rfl
   have s:(Es (Cy p,Cv p) a,El (Cy p,Cv p) a)=CC (p*zk a):=by
    show CC (zk (CC p)*zk a)=_;rw[Cc]
   have m:Es (Cy p,Cv p) (a.1,a.2)=Cy (p*zk a):=wi Prod.fst s;have l:El (Cy p,Cv p) (a.1,a.2)=Cv (p*zk a):=wi Prod.snd s;have o:zk (EJ a a)=zk a*zk a:=Db a a;have t:∀q:Int,1<k->q*(zk a*zk a)^(k/2)=p*zk a^k->(zk a=0->Ae q<=1)->(zk a≠0->q≠0)->Ends tX (L1 ((k/2:Nat):Int) (Cy q) (Cv q) o1 (Es (a.1,a.2) (a.1,a.2))<|El (a.1,a.2) (a.1,a.2)) Q:=by
    intro q e g B v;refine Ap o1 R (by rw[i]at hR;exact hR) r f (k/2) q (EJ a a) ae ae (fun _=>Dl<|xR<|s3 ae) (by rw[o,g,i]) (fun z=>B ?_)<|fun z=>v ?_
    ·rw[o]at z;rcases Int.mul_eq_zero.1 z with z|z<;>exact z
    ·rintro z2;rw[o,z2]at z;exact z rfl
   have st:∀q:Int,k=1->q=R->Ends tX (L1 ((k/2:Nat):Int) (Cy q) (Cv q) o1 a.1 a.2) Q:=by
    intro q e g;subst e g;exact zw (As ..) (yt (by simp)<|yf<|r _)
   refine zw (As ..) (zd (w4 ae) ?_);rw[xJ k ae,A,m,l];refine zx (fun c=>?_)<|fun c=>?_
   ·have c:((k % 2:Nat):Int)=1:=by simpa using c
    refine zd (Ad C j)<|zx (fun d=>zd (Ad j j)<|zd rfl ?_)<|fun d=>zd rfl ?_
    ·have d:=w6 d;refine t _ ae (ZP ae) (fun z=>by rw[z,yu];decide)<|fun z=>?_;exact Int.mul_ne_zero (n z) z
    ·have d:=w7 d;have e:k=1:=ae
     refine st _ e ?_;rw[<-i,e,zt,yi,zy]
   ·have c:((k % 2:Nat):Int)≠1:=by simpa using c
    refine zx (fun d=>zd (Ad j j)<|zd rfl ?_)<|fun d=>?_
    ·have d:=w6 d;exact t _ ae (X9 ae) u n
    ·have d:=w7 d;omega
theorem lC[Srt]:DU tX:=Aa T97n.ok<|Aa T96.ok AT
theorem ok[Srt]:Ag Bh 156 bF:=by
 refine BX lC<|fun(i:(Int×List Int)×Int) b=>?_;obtain⟨a,k⟩:=i;have b:(Bd a&&(decide (0<=k)&&decide (k<=100000)&&decide (Ae (Sp.pI (zk a) k)<(18446744073709551616:Int)^(4000:Nat))))=true:=b;rw[zn,zn,zn,w5,w5,w5,Un]at b;obtain⟨ha,⟨k0,k1⟩,hR⟩:=b;obtain⟨n,rfl⟩:=Int.eq_ofNat_of_zero_le k0;have c:B7 1=Cv 1:=by rw[ER];rfl
 refine qt (Al a n)<|zd rfl ?_;rw[c];refine Ap (Q:=Ac bF (a,(n:Int))) 0 (zk a^n) hR (fun ob=>jg rfl rfl ?_) (n+1) n 1 a ae ae (fun _=>ha) (zy _) (fun _=>by decide) (fun _=>by decide);show CC _=CC (Sp.pI (zk a) (n:Int));rw[Un];rfl
end T156
end Go.Pe
namespace Go.Sp
theorem NF{l:List Int}(h:Jj l=true):l.length<=20000/\Au B9 l:=by
 unfold Jj at h;rw[zn,w5,List.all_eq_true]at h;exact⟨h.1,fun d a=>by
  grind⟩
theorem JY{l:List Int}(c:l.length<=20000)(b:Au B9 l):Jj l=true:=by
 unfold Jj;rw[zn,w5,List.all_eq_true];exact⟨c,fun d a=>by
  have:=b d a;grind⟩
theorem nG{l:List Int}(h:hR l=true):l.length<=9000/\Au B9 l:=by
 unfold hR at h;grind [NF]
theorem VP{l:List Int}(b:l.length<=9000)(a:Au B9 l):hR l=true:=by
 unfold hR;rw[JY ae a,Bool.true_and];grind
theorem Bk{l:List Int}(h:AW l=true):l.length<=20000/\Au B9 l/\nz l:=by
 unfold AW at h;rw[zn]at h;have:=NF h.1;exact⟨this.1,this.2,by
  have:=h.2;unfold rJ at this;have:l.getLast?≠some 0:=ah;exact this⟩
theorem aG{l:List Int}(b:l.length<=20000)(a:Au B9 l)(c:nz l):AW l=true:=by
 unfold AW rJ;rw[JY b a,Bool.true_and];exact w4 c
theorem FZ{l:List Int}(h:Au B9 l)(i:Nat):0<=l.getD i 0/\l.getD i 0<1000000000:=N1 af h i
theorem EM{l:List Int}{x:Int}(h:Au B9 l)(a:0<=x/\x<1000000000):Au B9 (l++[x]):=(by grind [Au])
theorem B1(l:List Int)(x:Int):val B9 (l++[x])=val B9 l+(B9:Int)^l.length*x:=by
 grind [CD,val]
theorem Kf(i:Nat)(c:Int):(B9:Int)^(i+1)*c=(B9:Int)^i*(1000000000*c):=by
 grind
theorem En{l:List Int}(h:Au B9 l):Aw l=BA (Aj l):=VE af h
theorem Mn{n:Int}{k:Nat}(_:0<=n)(h:n<(B9:Int)^k):(BA n).length<=k:=by
 refine RC B9 af k n.toNat n.toNat ?_;grind
theorem EZ{n:Int}{k:Nat}(h0:0<=n)(h:n<(B9:Int)^k)(d:k<=9000):AW (BA n)=true/\hR (BA n)=true/\Aj (BA n)=n/\(BA n).length<=k:=by
 have c:=Mn h0 h;have a:=GJ (b:=B9) af n;grind [aG,Vt,CO,AW,BA,hR,Aj]
end Go.Sp
namespace Go.Pe
open Sp
open Go.Det
theorem Qb[Srt]:DU fX:=fun g sp h=>by cases h
namespace T188
theorem Ap[Srt]{Q:PV->Ob->Prop}:∀(n:Nat) (w:List Int),w.length=n->n<=20000->(∀ob,Q (.dat li<|Aw w) ob)->Ends fX (L1 w) Q
 |0,w,d,_,b=>by
  have:w=[]:=ah;subst this;exact zw (As ..) (yt (by simp)<|yf<|b _)
 |n+1,w,d,i,b=>by
  obtain⟨p,x,rfl⟩:∃p x,w=p++[x]:=by
   have a:w≠[]:=ah
   exact⟨w.dropLast,w.getLast a,(List.dropLast_concat_getLast a).symm⟩
  have g:p.length=n:=ah
  have h:zc .i64 (((p++[x]).length:Int)-1)=(n:Int):=by grind [wr]
  have f:(p++[x]).getD n 0=x:=ah;have e:(p++[x]).take n=p:=ah
  refine zw (As ..) (zd (by simp) ?_);rw[h,zf,f,e];refine zd ah (zx (fun c=>zd ah ?_)<|fun c=>?_)
  ·have c:x=0:=ah
   subst c;rw[H7]at b;exact Ap n p g ae b
  grind [HU,Wc,yf]
theorem ok[Srt]:Ag Bh 188 QR:=by
 refine BX Qb<|fun(w:List Int) a=>?_;have a:w.length<=20000:=w6 a;exact qt (Al w)<|Ap w.length w rfl a (fun ob=>jg rfl rfl rfl)
end T188
theorem Rh[Srt]:DU Yy:=Aa T188.ok AT
theorem T128.ok[Srt]:Ag Bh 128 GG:=by
 refine BX Rh<|fun(i:Bool×List Int) hi=>?_;obtain⟨n,w⟩:=i;refine qt (T128.Al n w)<|zd hi<|zx (fun c=>yf<|jg rfl rfl ?_)<|fun c=>yf<|jg rfl rfl ?_
 ·show(decide (((Aw w).length:Int)>0),Aw w)=(Cj n w,Aw w);unfold Cj;congr 1;grind [jc]
 grind [Cj,GG]
namespace T130
theorem Ap[Srt]{Q:PV->Ob->Prop}(a b:List Int)(f:Au zi a)(g:Au zi b)(k:a.length=b.length)(j:b.length<=20000)(l:∀ob,Q (.dat i64<|B3 (Aj a)<|Aj b) ob):∀(i:Nat),i<=a.length->a.drop i=b.drop i->Ends fX (L1 a b<|(i:Int)-1) Q
 |0,n,o=>by
  simp_all [B3,zw,As]
 |i+1,n,o=>by
  have m:(((i+1:Nat):Int)-1)=(i:Int):=ae
  have h:a.drop i=a.getD i 0::a.drop (i+1):=Ch ae;have db:b.drop i=b.getD i 0::a.drop (i+1):=by grind [Ch]
  rw[m];refine zw (As ..) (zd (by simp) ?_);refine zd ah (zd ah (zx (fun d=>?_)<|fun d=>zd ah<|zd ah<|zx (fun c=>?_)<|fun c=>?_))
  ·have d:=w6 d;have:=IT (b:=zi) af f g h db d;simp_all [B3,Aj]
  ·have c:=w6 c;have:=IT (b:=zi) af g f db h c;have e:B3 (Aj a) (Aj b)=1:=by unfold B3 Aj;omega
   simp_all
  ·rw[wr ((i:Int)-1) ae ae];exact Ap a b f g k j l i ae ah
theorem ok[Srt]:Ag Bh 130 Wz:=by
 refine BX Qb<|fun(i:List Int×List Int) f=>?_;obtain⟨a,b⟩:=i;have f:(AW a&&AW b)=true:=f;rw[zn]at f;obtain⟨a1,a2,a3⟩:=Bk f.1;obtain⟨b1,b2,b3⟩:=Bk f.2;have g:∀ob,Ac Wz (a,b) (.dat i64<|B3 (Aj a)<|Aj b) ob:=fun ob=>jg rfl rfl rfl
 refine qt (Al a b)<|zx (fun c=>zx (fun d=>?_)<|fun d=>?_)<|fun c=>?_
 ·simp_all [B3,Aj,D6]
 ·have d:=w7 d;have c:(a.length:Int)≠b.length:=ah
  have:=D6 (b:=zi) af b2 a2 a3 ae;have e:B3 (Aj a) (Aj b)=1:=by
   unfold B3 Aj;omega
  simp_all
 grind [wr,Ap]
end T130
theorem Yu{x y o c:Int}(b:0<=x/\x<1000000000)(d:0<=y/\y<1000000000)(g:0<=o/\o<1000000000)(f:0<=c/\c<1000000000):
  zc .i64 (zc .i64 (o+zc .i64 (x*y))+c)=o+x*y+c/\qk (o+x*y+c) 1000000000=(o+x*y+c) % 1000000000/\zc .i64 (yy (o+x*y+c) 1000000000)=(o+x*y+c)/1000000000/\
  (0<=(o+x*y+c)/1000000000/\(o+x*y+c)/1000000000<1000000000)/\(0<=(o+x*y+c) % 1000000000/\(o+x*y+c) % 1000000000<1000000000):=by
 have h0:0<=x*y:=zz b.1 d.1;have e:x*y<=999999999*999999999:=by
  have a:=zh (show y<=999999999 by omega) b.1;omega
 grind [wr]
namespace T132
theorem A2[Srt](x y:List Int)(n i:Nat)(G:i<x.length)(w:n=x.length+y.length)(g:x.length<=9000)(f:y.length<=9000)(r:Au zi x)(o:Au zi y)(p:List Int)(N:p.length=i+y.length)(a:Au zi p)
  (t:∀q c,q.length=i+y.length->Au zi q->(0<=c/\c<1000000000)->ze zi q+(zi:Int)^(i+y.length)*c=ze zi p+(zi:Int)^i*(x.getD i 0*ze zi y)->Ends Yy (L1 x y n ((i+1:Nat):Int)<|(q++[c])++zl (n-(i+y.length+1)) 0) Q):∀(k j:Nat) (q:List Int) (c:Int),j+k=y.length->q.length=i+j->Au zi q->(0<=c/\c<1000000000)->ze zi q+(zi:Int)^(i+j)*c=ze zi (p.take<|i+j)+(zi:Int)^i*(x.getD i 0*ze zi (y.take j))->
  Ends Yy (L2 x y n i c j<|q++(p.drop (i+j)++zl (n-(i+y.length)) 0)) Q
 |0,j,q,c,m,b,h,l,C=>by
  have m:j=y.length:=ae
  subst m;have e:zc .i64 ((i:Int)+(y.length:Int))=((i+y.length:Nat):Int):=by rw[wr _ ae ae];omega
  have d:zc .i64 ((i:Int)+1)=((i+1:Nat):Int):=by grind [wr]
  have H:p.drop (i+y.length)=[]:=ah;have O:(q++zl (n-(i+y.length)) (0:Int)).getD (i+y.length) 0=0:=by
   have:n-(i+y.length)=(n-(i+y.length+1))+1:=ae
   simp_all
  refine zw (A5 ..) (yt (by simp) ?_);rw[e,d,zf,H,List.nil_append,O,Int.zero_add,wr c ae ae,I0 q n _ c b ae];refine zd (by simp;omega) (zd (by simp;omega)<|zd (by simp;omega)<|zd (by simp;omega)<|t q c b h l ?_);grind
 |k+1,j,q,c,m,b,h,l,C=>by
  have K:=FZ r i;have M:=FZ o j;have u:=FZ a<|i+j;have P:p.drop (i+j)=p.getD (i+j) 0::p.drop (i+j+1):=Ch ae;have e:zc .i64 ((i:Int)+(j:Int))=((i+j:Nat):Int):=by rw[wr _ ae ae];omega
  have d:=wn (i:=j) ae;have D:(q++(p.drop (i+j)++zl (n-(i+y.length)) (0:Int))).getD (i+j) 0=p.getD (i+j) 0:=by
   grind [Et]
  have s1:∀z,(q++(p.drop (i+j)++zl (n-(i+y.length)) (0:Int))).set (i+j) z=(q++[z])++(p.drop (i+(j+1))++zl (n-(i+y.length)) 0):=by
   grind [CZ]
  obtain⟨J,B,A,v,E⟩:=Yu K M u l;refine zw (A5 ..) (zd ah ?_);rw[e,d,zf,zf,zf,D,J,B,A,s1];have s:(decide ((0:Int)<=((i+j:Nat):Int))&&decide (((i+j:Nat):Int)<(n:Int)))=true:=by simp;omega
  refine zd s (zd ah<|zd ah<|zd (by simp;omega)<|zd rfl (zd s<|zd ah<|zd rfl ?_));refine A2 x y n i G w g f r o p N a t k (j+1) _ _ ae (by simp;omega) (EM h E) v ?_;have I:i+(j+1)=(i+j)+1:=ae
  have L:(zi:Int)^i*(x.getD i 0*((zi:Int)^j*y.getD j 0))=(zi:Int)^(i+j)*(x.getD i 0*y.getD j 0):=by
   grind
  have F:(p.getD (i+j) 0+x.getD i 0*y.getD j 0+c) % 1000000000+1000000000*((p.getD (i+j) 0+x.getD i 0*y.getD j 0+c)/1000000000)=x.getD i 0*y.getD j 0+p.getD (i+j) 0+c:=by
   omega
  rw[I,B1,b,Kf,qg, <-zm,F,AB _ p<|i+j,AB _ y j,zm,zm,zm<|x.getD i 0,zm,L];omega
theorem Ap[Srt](x y:List Int)(n:Nat)(l:n=x.length+y.length)(a:x.length<=9000)(b:y.length<=9000)(g:Au zi x)(m:Au zi y)(r:∀ob,Q (.dat li<|BA<|Aj x*Aj y) ob):∀(k i:Nat) (p:List Int),i+k=x.length->p.length=i+y.length->Au zi p->ze zi p=ze zi (x.take i)*ze zi y->
  Ends Yy (L1 x y n i<|p++zl (n-(i+y.length)) 0) Q
 |0,i,p,j,h,f,e=>by
  subst j;have o:Aj p=Aj x*Aj y:=by
   rw[List.take_length]at e;exact e
  refine zw (As ..) (yt (by simp) ?_);grind [zd,yf,En]
 |k+1,i,p,j,h,f,e=>by
  refine zw (As ..) (zd ah ?_);have:=A2 (Q:=Q) x y n i ae l a b g m p h f (fun q c t d s o=>by
   have:=Ap x y n l a b g m r k (i+1) (q++[c]) ae ah (EM d s) (by
    grind [B1,AB])
   grind) y.length 0 (p.take i) 0 ae ah (AH f i) af (by simp[ze])
  rw[Nat.add_zero, <-yd,qm]at this;omega
theorem ok[Srt]:Ag Bh 132 V4:=by
 refine BX Rh<|fun(i:List Int×List Int) a=>?_;obtain⟨x,y⟩:=i;have a:(Sp.hR x&&Sp.hR y)=true:=a;rw[zn]at a;obtain⟨x1,x2⟩:=nG a.1;obtain⟨y1,y2⟩:=nG a.2;have b:zc .i64 ((x.length:Int)+(y.length:Int))=((x.length+y.length:Nat):Int):=by grind [wr]
 refine qt (Al x y) ?_;conv=>zeta
 rw[b,zf];refine zd (by simp;omega) ?_;have:=Ap (Q:=Ac V4 (x,y)) x y (x.length+y.length) rfl x1 y1 x2 y2 (fun ob=>jg rfl rfl rfl) x.length 0 (zl y.length 0) ae (by simp) (fun d c=>by grind) (by grind [La,ze]);rw[Nat.zero_add,List.replicate_append_replicate,show y.length+(x.length+y.length-y.length)=x.length+y.length by omega]at this;omega
end T132
theorem XJ{r x d:Int}(a:0<d/\d<1000000000)(e:0<=r/\r<d)(c:0<=x/\x<1000000000):
  zc .i64 (zc .i64 (r*1000000000)+x)=r*1000000000+x/\zc .i64 (yy (r*1000000000+x) d)=(r*1000000000+x)/d/\qk (r*1000000000+x) d=(r*1000000000+x) % d/\
  (0<=(r*1000000000+x)/d/\(r*1000000000+x)/d<1000000000)/\(0<=(r*1000000000+x) % d/\(r*1000000000+x) % d<d)/\(r*1000000000+x)/d*d+(r*1000000000+x) % d=r*1000000000+x:=by
 have h:=yb (r*1000000000+x) d;rw[zq]at h;have b:0<=(r*1000000000+x)/d:=qh ae ae;have q1:(r*1000000000+x)/d<1000000000:=yw a.1 ae;refine⟨?_,?_,ah,⟨b,q1⟩,⟨yp _ ae,yk _ a.1⟩,h⟩
 ·grind [wr]
 grind [wr]
namespace T187
theorem Ap[Srt](a:List Int)(d:Int)(e:Au zi a)(f:0<d/\d<1000000000)(k:a.length<=20000)(o:∀q r ob,Au zi q->(0<=r/\r<d)->Aj a=Aj q*d+r->Q (.tup [.dat li<|Aw q,.dat i64 r]) ob):∀(i:Nat) (q:List Int) (r:Int),i+q.length=a.length->Au zi q->(0<=r/\r<d)->ze zi (a.drop i)=ze zi q*d+r->
  Ends Yy (L1 a d a.length r ((i:Int)-1)<|zl i 0++q) Q
 |0,q,r,j,b,g,n=>by
  refine zw (As ..) (yt (by simp) ?_);grind [zd,yf,Aj]
 |i+1,q,r,j,b,g,n=>by
  have s:(((i+1:Nat):Int)-1)=(i:Int):=ae
  have l:=FZ e i;obtain⟨p,t,u,v,h,w⟩:=XJ f g l;have m:a.drop i=a.getD i 0::a.drop (i+1):=Ch ae;have es:∀x,(zl (i+1) (0:Int)++q).set i x=zl i 0++(x::q):=by
   grind [qo,CZ]
  rw[s];refine zw (As ..) (zd (by simp) ?_);rw[zf,es,wr ((i:Int)-1) ae ae,p,t,u];refine zd ah (zd ah (zd ah (zd ah<|zd ah ?_)));refine Ap a d e f k o i _ _ ah (fun x c=>?_) h ?_
  ·rcases qn.1 c with rfl|c
   ·exact v
   ·exact b x c
  ·rw[m];show a.getD i 0+(1000000000:Int)*ze zi (a.drop<|i+1)=((r*1000000000+a.getD i 0)/d+(1000000000:Int)*ze zi q)*d+(r*1000000000+a.getD i 0) % d;grind
theorem ok[Srt]:Ag Bh 187 Vm:=by
 refine BX Rh<|fun(i:List Int×Int) c=>?_;obtain⟨a,d⟩:=i;have c:(Jj a&&decide (0<d)&&decide (d<1000000000))=true:=c;rw[zn,zn,w5,w5]at c;obtain⟨⟨ha,d0⟩,d1⟩:=c;obtain⟨hl,hda⟩:=NF ha;refine qt (Al a d) ?_;conv=>zeta
 rw[zf,wr ((a.length:Int)-1) ae ae];refine zd (by simp;omega) ?_;have:=Ap (Q:=Ac Vm (a,d)) a d hda ⟨d0,d1⟩ hl (fun q r ob f g h=>?_) a.length [] 0 (by simp) (fun x e=>by cases e) ae (by grind [ze])
 ·grind
 ·refine jg rfl rfl ?_;show(Aw q,r)=(BA<|Aj a/d,Aj a % d);obtain⟨u1,u2⟩:=(qe (a:=Aj a) (b:=d) (r:=r) (q:=Aj q) d0).2 ah;grind [En]
end T187
theorem lP[Srt]:DU KX:=
 Aa T130.ok (Aa T188.ok<|Aa T187.ok<|Aa T132.ok AT)
theorem RA{t x y w:Int}(c:0<=t/\t<1000000000)(d:0<=x/\x<1000000000)(i:0<=y/\y<1000000000)(g:0<=w/\w<=1000000000):
  zc .i64 (zc .i64 (t*x)+w)=t*x+w/\qk (t*x+w) 1000000000=(t*x+w) % 1000000000/\zc .i64 (yy (t*x+w) 1000000000)=(t*x+w)/1000000000/\
  zc .i64 ((t*x+w)/1000000000+1)=(t*x+w)/1000000000+1/\zc .i64 (y-(t*x+w) % 1000000000)=y-(t*x+w) % 1000000000/\(0<=(t*x+w)/1000000000/\(t*x+w)/1000000000<1000000000)/\(0<=(t*x+w) % 1000000000/\(t*x+w) % 1000000000<1000000000):=by
 have h0:0<=t*x:=zz c.1 d.1;have h:t*x<=999999999*999999999:=by
  have a:=zh (show x<=999999999 by omega) c.1;have b:=zg (show t<=999999999 by omega) (show(0:Int)<=999999999 by omega);omega
 generalize t*x=P at*;have f:zc .i64 P=P:=wr _ ae ae;have e:yy (P+w) 1000000000=(P+w)/1000000000:=ym ae;refine⟨?_,yn ae,?_,wr _ ae ae,wr _ ae ae,by omega,by omega⟩
 ·rw[f];exact wr _ ae ae
 ·rw[e];exact wr _ ae ae
theorem W6(w r:List Int)(i:Nat)(h:i<w.length):(w++r).getD i 0=w.getD i 0:=by
 rw[zr,zr,List.getElem?_append_left h]
namespace T127
theorem gW{b w z:List Int}{h:Int}{j i:Nat}(a:b.length=j)(c:i<w.length):(b++(w++h::z)).getD (i+j) 0=w.getD i 0:=by
 rw[GD _ _ _ _ a,W6 _ _ _ c]
theorem sW{b w z:List Int}{h:Int}{j i:Nat}(x:Int)(a:b.length=j)(c:i<w.length):(b++(w++h::z)).set (i+j) x=b++(w.set i x++h::z):=by
 rw[Rx _ _ _ _ _ a,List.set_append_left _ _ c]
theorem gH{b w z:List Int}{h:Int}{j n:Nat}(a:b.length=j)(c:w.length=n):(b++(w++h::z)).getD (n+j) 0=h:=by
 rw[GD _ _ _ _ a];exact Et _ _ _ _ c
theorem sH{b w z:List Int}{h:Int}{j n:Nat}(x:Int)(a:b.length=j)(c:w.length=n):(b++(w++h::z)).set (n+j) x=b++(w++x::z):=by
 rw[Rx _ _ _ _ _ a];congr 1;exact CZ _ _ _ _ c
theorem Mm(w z:List Int)(h:Int)(a:ze zi z=0):ze zi (w++h::z)=ze zi w+(zi:Int)^w.length*h:=by
 rw[CD];show _+_*(h+(zi:Int)*ze zi z)=_;rw[a,yu,ql]
theorem Ck[Srt](p a e:Nat)(C F v s z:List Int)(n j:Nat)(t h' X:Int)(T:v.length=n)(K:n<=9000)(l:s.length=j)(Y:j<=9000)(D:n+j<a)(I:j<e)(y:j<C.length)(L:Au zi v)(O:ze zi z=0)(A:Au zi z)(P: -2000000000<=h'/\h'<=2000000000)
  (S:0<=X/\X<(zi:Int)^n) (B:a=j+n+1+z.length)
  (m:∀r:List Int,r.length=n+1+z.length->Au zi r->ze zi r=X->Ends KX (L2 p v n a e (zc .i64<|(j:Int)-1) (C.set j t) (s++r) F) Q):
  ∀(k i:Nat) (w:List Int) (c:Int),i+k=n->w.length=n->Au zi w->(0<=c/\c<=1)->ze zi w+(zi:Int)^n*h'=X-ze zi v+ze zi (v.take i)-(zi:Int)^i*c->
   Ends KX (L5 p v n a e j t c i C (s++(w++h'::z)) F) Q
 |0,i,w,c,J,q,u,W,M=>by
  have J:i=n:=ae
  subst J;have G:zc .i64 ((j:Int)+(i:Int))=((i+j:Nat):Int):=by rw[wr _ ae ae];omega
  have H:v.take i=v:=zu ae;rw[H]at M;have a1:=Az (b:=zi) af u;have a2:=Bn (b:=zi) af u;rw[q]at a2;have N:=A6 (b:=zi) af i;have E:ze zi w+(zi:Int)^i*(h'+c)=X:=by rw[zm];omega
  have h:h'+c=0:=by
   rcases Int.lt_trichotomy (h'+c) 0 with g|g|g
   ·have:=zh (show h'+c<= -1 by omega)<|zo N;rw[jh,yz]at this;omega
   ·exact g
   ·have:=zh (show 1<=h'+c by omega)<|zo N;rw[yz]at this;omega
  have f:i+j<(s++(w++h'::z)).length:=by simp;omega
  refine zw (Gb ..) (yt (by simp) ?_);rw[G,zf,zf,gH l q,sH _ l q,wr (h'+c) ae ae,h];have x:(decide ((0:Int)<=((i+j:Nat):Int))&&decide (((i+j:Nat):Int)<(a:Int)))=true:=by simp;omega
  refine zd x (zd (w4 f)<|zd x<|zd (w4 f)<|zd (by simp;omega)<|zd (w4 y)<|m _ (by simp;omega) (FM u<|fun d o=>?_) ?_)
  ·rcases qn.1 o with rfl|o
   ·decide
   ·exact A d o
  ·rw[Mm _ _ _ O,q, <-E,h]
 |k+1,i,w,c,J,q,u,W,M=>by
  have Z:=FZ L i;have gy:=FZ u i;have G:zc .i64 ((i:Int)+(j:Int))=((i+j:Nat):Int):=by rw[wr _ ae ae];omega
  have R:=wn (i:=i) ae;have U:zc .i64 (zc .i64 (w.getD i 0+v.getD i 0)+c)=w.getD i 0+v.getD i 0+c:=by
   rw[wr (w.getD i 0+v.getD i 0) ae ae];exact wr _ ae ae
  have V:qk (w.getD i 0+v.getD i 0+c) 1000000000=(w.getD i 0+v.getD i 0+c) % 1000000000:=yn ae;have E:zc .i64 (yy (w.getD i 0+v.getD i 0+c) 1000000000)=(w.getD i 0+v.getD i 0+c)/1000000000:=by
   rw[ym ae];exact wr _ ae ae
  have f:i+j<(s++(w++h'::z)).length:=by simp;omega
  refine zw (Gb ..) (zd (by simp;omega) ?_);rw[G,R,zf,zf,gW l ae,sW _ l ae,U,V,E];have x:(decide ((0:Int)<=((i+j:Nat):Int))&&decide (((i+j:Nat):Int)<(a:Int)))=true:=by simp;omega
  refine zd x (zd (w4 f)<|zd (by simp;omega)<|zd rfl (zd x<|zd (w4 f)<|zd rfl ?_));refine Ck p a e C F v s z n j t h' X T K l Y D I y L O A P S B m k (i+1) _ _ ae (by simp[q]) (Gm u i<|by show 0<=_/\_<(1000000000:Int);omega) ae ?_;rw[GI _ _ _ _ ae,Kf,AB];have e6:(zi:Int)^i*((w.getD i 0+v.getD i 0+c) % 1000000000-w.getD i 0)=(zi:Int)^i*v.getD i 0+(zi:Int)^i*c-(zi:Int)^i*(1000000000*((w.getD i 0+v.getD i 0+c)/1000000000)):=by
   rw[<-zm, <-yq];congr 1;omega
  omega
theorem BK[Srt](g a b:Nat)(q r v l z:List Int)(n j:Nat)(t h W:Int)(Z:v.length=n)(I:n<=9000)(e:l.length=j)(hj:j<=9000)(B:n+j<a)(G:j<b)(s:j<q.length)(K:Au zi v)(R:0<=h/\h<1000000000)(A:a=j+n+1+z.length)(L:0<=t/\t<1000000000)
  (h0:∀(w:List Int) (h':Int),w.length=n->Au zi w->0<=h'->ze zi w+(zi:Int)^n*h'=W-t*ze zi v->Ends KX (L2 g v n a b (zc .i64<|(j:Int)-1) (q.set j t) (l++(w++h'::z)) r) Q)
  (O:∀(w:List Int) (h':Int),w.length=n->Au zi w->h'<0-> -2000000000<=h'->ze zi w+(zi:Int)^n*h'=W-t*ze zi v->Ends KX (L5 g v n a b j (zc .i64<|t-1) 0 0 q (l++(w++h'::z)) r) Q):
  ∀(k i:Nat) (w:List Int) (c:Int),i+k=n->w.length=n->Au zi w->(0<=c/\c<=1000000000)->ze zi w+(zi:Int)^n*h=W-t*ze zi (v.take i)+(zi:Int)^i*c->
   Ends KX (L4 g v n a b j t c i q (l++(w++h::z)) r) Q
 |0,i,w,c,H,o,u,N,M=>by
  have H:i=n:=ae
  subst H;have D:zc .i64 ((j:Int)+(i:Int))=((i+j:Nat):Int):=by rw[wr _ ae ae];omega
  have F:v.take i=v:=zu ae;rw[F]at M;have f:i+j<(l++(w++h::z)).length:=by simp;omega
  have y:i+j<(l++(w++(h-c)::z)).length:=by simp;omega
  have J:ze zi w+(zi:Int)^i*(h-c)=W-t*ze zi v:=by rw[yq];omega
  refine zw (Dh ..) (yt (by simp) ?_);rw[D,zf,zf,gH e o,wr (h-c) ae ae,sH _ e o,gH e o];have m:(decide ((0:Int)<=((i+j:Nat):Int))&&decide (((i+j:Nat):Int)<(a:Int)))=true:=by simp;omega
  refine zd m<|zd (w4 f)<|zd m<|zd (w4 f)<|zd m<|zd (w4 y)<|zx (fun d=>?_)<|fun d=>?_
  ·have d:=w6 d;exact O w (h-c) o u d ae J
  ·have d:=w7 d;exact zd (by simp;omega) (zd (w4 s)<|h0 w (h-c) o u ae J)
 |k+1,i,w,c,H,o,u,N,M=>by
  have V:=FZ K i;have Y:=FZ u i;obtain⟨S,m2,m3,U,m5,m6,m7⟩:=RA L V Y N;have D:zc .i64 ((i:Int)+(j:Int))=((i+j:Nat):Int):=by rw[wr _ ae ae];omega
  have X:=wn (i:=i) ae;have f:i+j<(l++(w++h::z)).length:=by simp;omega
  have m:(decide ((0:Int)<=((i+j:Nat):Int))&&decide (((i+j:Nat):Int)<(a:Int)))=true:=by simp;omega
  have go:∀(x p:Int),(0<=x/\x<1000000000)->(0<=p/\p<=1000000000)->c+(x-w.getD i 0)=1000000000*p-t*v.getD i 0->Ends KX (L4 g v n a b j t p ((i+1:Nat):Int) q (l++(w.set i x++h::z)) r) Q:=by
   intro x p T E C;refine BK g a b q r v l z n j t h W Z I e hj B G s K R A L h0 O k (i+1) _ _ ae (by simp[o]) (Gm u i T) E ?_;rw[GI _ _ _ _ ae,Kf,AB,zm t,yh t];have e6:(zi:Int)^i*c+(zi:Int)^i*(x-w.getD i 0)=(zi:Int)^i*(1000000000*p)-(zi:Int)^i*(t*v.getD i 0):=by
    rw[<-zm, <-yq,C]
   omega
  refine zw (Dh ..) (zd (by simp;omega) ?_);rw[D,X,zf,zf,gW e ae,S,m2,m3,U,m5,sW _ e ae,sW _ e ae];refine zd (by simp;omega)<|zd m<|zd (w4 f)<|zd rfl (zd rfl (zx (fun d=>?_)<|fun d=>?_))
  ·have d:=w6 d;rw[wr (w.getD i 0-(t*v.getD i 0+c) % 1000000000+1000000000) ae ae];refine zd m (zd (w4 f) (go _ _ ae ae ?_));generalize t*v.getD i 0=P at*;omega
  ·have d:=w7 d;refine zd m (zd (w4 f)<|go _ _ ae ae ?_);generalize t*v.getD i 0=P at*;omega
theorem lO[Srt](i f h:Nat)(y C v z e:List Int)(n j:Nat)(J:v.length=n)(B:n<=9000)(A:z.length=j)(O:j<=9000)(Z:n+1<=e.length)(N:f=j+e.length)(u:j<h)(s:j<y.length)(D:Au zi v)(E:Au zi e)(F:ze zi (e.drop<|n+1)=0)
  (k:∀(q:Int) (r:List Int),r.length=e.length->Au zi r->(0<=q/\q<1000000000)->ze zi r<ze zi v->ze zi r=ze zi e-q*ze zi v->Ends KX (L2 i v n f h (zc .i64<|(j:Int)-1) (y.set j q) (z++r) C) Q)
  (q:Int) (M:0<=q/\q<1000000000) (T:ze zi e<(q+1)*ze zi v) (Y:q*ze zi v<ze zi e+ze zi v):
  Ends KX (L4 i v n f h j q 0 0 y (z++e) C) Q:=by
 have l:e=e.take n++e.getD n 0::e.drop (n+1):=by
  rw[<-Ch ae];exact(qm n e).symm
 have gh:=FZ E n;have G:=AH E n;have t:=Eb E<|n+1;have o:(e.take n).length=n:=by rw[yg];omega
 have S:(e.drop<|n+1).length=e.length-(n+1):=List.length_drop ..;have hW:ze zi e=ze zi (e.take n)+(zi:Int)^n*e.getD n 0:=by
  conv=>lhs;rw[l]
  rw[Mm _ _ _ F,o]
 have p:=Bn (b:=zi) af D;rw[J]at p;have U:=Az (b:=zi) af D;have V:=Az (b:=zi) af E;have L:=A6 (b:=zi) af n;rw[z8,zy]at T;rw[l];refine BK i f h y C v z (e.drop<|n+1) n j q (e.getD n 0) (ze zi e) J B A O ae u s D gh ae M (fun w h' a b c d=>?_) (fun w h' a b c X d=>?_) n 0 (e.take n) 0 ae o G af (by rw[<-hW];simp[ze])
 ·have K:=Az (b:=zi) af b;have I:h'=0:=by
   rcases ye 0 h' with g|g
   ·have:=zh (show 1<=h' by omega)<|zo L;omega
   ·omega
  refine k q _ (by simp;omega) (FM b<|fun x H=>?_) M ?_ ?_
  ·rcases qn.1 H with rfl|H
   ·rw[I];decide
   ·exact t x H
  ·rw[Mm _ _ _ F,a,d];omega
  ·rw[Mm _ _ _ F,a,d]
 ·have K:=Bn (b:=zi) af b;rw[a]at K;have m:ze zi e-q*ze zi v<0:=by
   have:=zh (show h'<= -1 by omega)<|zo L;rw[jh,yz]at this;omega
  have P:1<=q:=by
   rcases ye 0 q with g|g
   ·exact g
   ·have:q=0:=ae
    subst this;rw[qq]at m;omega
  rw[wr (q-1) ae ae];refine Ck i f h y C v z (e.drop<|n+1) n j (q-1) h' (ze zi e-q*ze zi v+ze zi v) J B A O ae u s D F t ae ae ae (fun r W b' R=>?_) n 0 w 0 ae a b af (by rw[d];simp[ze]<;>omega);refine k (q-1) r ae b' ae ae ?_;rw[R,qj,zy];omega
theorem CL[Srt](l e i:Nat)(s A v m h:List Int)(a2 a1 a0:List Int)(k j:Nat)(O:v.length=k+2)(E:k+2<=9000)(w:m.length=j)(hj:j<=9000)(hr:k+3<=h.length)(n:e=j+h.length)(F:j<i)(D:j<s.length)(x:Au zi v)(y:Au zi h)(S:ze zi (h.drop<|k+3)=0)(J:1<=v.getD (k+1) 0)
  (I:h.getD (k+2) 0<=v.getD (k+1) 0) (L:ze zi h<1000000000*ze zi v)
  (p:∀(q:Int) (r:List Int),r.length=h.length->Au zi r->(0<=q/\q<1000000000)->ze zi r<ze zi v->ze zi r=ze zi h-q*ze zi v->Ends KX (L2 l v ((k+2:Nat):Int) e i (zc .i64<|(j:Int)-1) (s.set j q) (m++r) A) Q):
  ∀(f:Nat) (q r:Int),0<=q->q<f->q<=2000000000000000000->(0<=r/\r<1000000000)->q*v.getD (k+1) 0+r=h.getD (k+2) 0*1000000000+h.getD (k+1) 0->ze zi h<(q+1)*ze zi v->
   Ends KX (L3 l v ((k+2:Nat):Int) e i j a2 a1 a0 e v j ((k+2:Nat):Int) q r s (m++h) A) Q
 |0,q,r,h0,hf,_,_,_,_=>by omega
 |f+1,q,r,h0,hf,Y,hr1,Z,N=>by
  have z:=FZ x k;have gv1:=FZ x<|k+1;have gu2:=FZ y k;have gu1:=FZ y<|k+1;have hP:=A6 (b:=zi) af k;have hW:=kK zi h k ae S;have hV:=gY zi v k O;have M:=Az (b:=zi) af<|AH y k;have o:=Bn (b:=zi) af<|AH y k;have H:=Az (b:=zi) af<|AH x k;have t:=Bn (b:=zi) af<|AH x k;have U:=Az (b:=zi) af x;rw[yg,yv ae]at o t;have exit:∀q R:Int,0<=q->q<1000000000->q*v.getD (k+1) 0+R=h.getD (k+2) 0*1000000000+h.getD (k+1) 0->ze zi h<(q+1)*ze zi v->q*v.getD k 0<=R*1000000000+h.getD k 0->Ends KX (L4 l v ((k+2:Nat):Int) e i j q 0 0 s (m++h) A) Q:=by
   intro q R X q1 P T K;refine lO l e i s A v m h (k+2) j O E w hj hr n F D x y S p q ⟨X,q1⟩ T ?_;rw[hW,hV];exact SY hP ⟨H,t⟩ M ⟨X,q1⟩ J z.1 P K
  have e1:zc .i64 (((k+2:Nat):Int)-2)=(k:Int):=by rw[wr _ ae ae];omega
  have e2:zc .i64 (((k+2:Nat):Int)-1)=((k+1:Nat):Int):=by rw[wr _ ae ae];omega
  have e3:zc .i64 (zc .i64 ((j:Int)+((k+2:Nat):Int))-2)=((k+j:Nat):Int):=by
   rw[wr ((j:Int)+((k+2:Nat):Int)) ae ae,wr _ ae ae];omega
  have g3:(m++h).getD (k+j) 0=h.getD k 0:=GD _ _ _ _ w;have W:(decide ((0:Int)<=((k+1:Nat):Int))&&decide (((k+1:Nat):Int)<(v.length:Int)))=true:=by simp;omega
  have G:ze zi h<q*ze zi v->Ends KX (.ite (decide (zc .i64 (r+v.getD (k+1) 0)>=(1000000000:Int))) (L4 l v ((k+2:Nat):Int) e i j (zc .i64<|q-1) 0 0 s (m++h) A)<|L3 l v ((k+2:Nat):Int) e i j a2 a1 a0 e v j ((k+2:Nat):Int) (zc .i64<|q-1) (zc .i64<|r+v.getD (k+1) 0) s (m++h) A) Q:=by
   intro K;have hW0:=Az (b:=zi) af y;have hq1:1<=q:=by
    rcases ye 0 q with g|g
    ·exact g
    ·have:q=0:=ae
     subst this;rw[qq]at K;omega
   have C:(q-1)*v.getD (k+1) 0+(r+v.getD (k+1) 0)=h.getD (k+2) 0*1000000000+h.getD (k+1) 0:=by rw[qj,zy];omega
   have u:ze zi h<(q-1+1)*ze zi v:=by rw[show q-1+1=q by omega];exact K
   rw[wr (q-1) ae ae,wr (r+v.getD (k+1) 0) ae ae];refine zx (fun c=>?_)<|fun c=>?_
   ·have c:=w6 c;have V:q-1<1000000000:=by
     rcases ye (q-1) 1000000000 with g|g
     ·exact g
     ·have a:=zg g (show 0<=v.getD (k+1) 0 by omega);have b:=zg I (show(0:Int)<=1000000000 by omega);omega
    refine exit (q-1) _ ae V C u ?_;have a:=zh (show v.getD k 0<=999999999 by omega) (show 0<=q-1 by omega);omega
   ·have c:=w7 c;exact CL l e i s A v m h a2 a1 a0 k j O E w hj hr n F D x y S J I L p f (q-1) _ ae ae ae ae C u
  refine zw (C5 ..) ?_;conv=>zeta
  rw[e1,e2,e3,zf,zf,zf,g3];refine zx (fun c=>zd W<|G ?_) (fun c=>zd (by simp;omega) (zd (by simp;omega)<|zd (by simp;omega)<|zx (fun d=>zd W<|G ?_)<|fun d=>?_))
  ·have c:=w6 c;have:=zg c U;omega
  ·have c:=w7 c;have d:=w6 d;have a:=zh (show v.getD k 0<=999999999 by omega) h0;have b:=zz h0 z.1;rw[wr (q*v.getD k 0) ae ae,wr (r*1000000000) ae ae,wr _ ae ae]at d;have:=RX (B:=zi) (u0:=h.getD (k+2) 0) (u1:=h.getD (k+1) 0) (u2:=h.getD k 0) hP H o h0 (v1:=v.getD (k+1) 0) (v2:=v.getD k 0) (r:=r) Z d;rw[<-hW, <-hV]at this;exact this
  ·have c:=w7 c;have d:=w7 d;have a:=zh (show v.getD k 0<=999999999 by omega) h0;have b:=zz h0 z.1;rw[wr (q*v.getD k 0) ae ae,wr (r*1000000000) ae ae,wr _ ae ae]at d;exact exit q r h0 ae Z N ae
end T127
end Go.Pe
