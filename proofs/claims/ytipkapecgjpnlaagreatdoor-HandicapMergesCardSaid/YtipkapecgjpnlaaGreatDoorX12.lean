import Derived.Test.YtipkapecgjpnlaaGreatDoorX11
/- A part of a proof; no law is stated here. -/
noncomputable section
open Go.IntKind renaming wrap -> zc, u64 -> zl
open Go.Pe.Ends renaming tt -> zd, An -> zw, ite -> zx, leaf -> yf, ff -> yt, eq -> qq
open Go.Sp renaming val -> ze, B9 -> zi, vI -> zk, u64 -> z6, A3 -> qd, sg -> jg
open Int renaming toNat_natCast -> zf, mul_le_mul_of_nonneg_right -> zg, mul_le_mul_of_nonneg_left -> zh, mul_add -> zm, le_of_lt -> zo, mul_assoc -> zp, mul_comm -> zq, pow_succ -> zt, one_mul -> zy, mul_nonneg -> zz, add_mul -> z8, mul_ediv_add_emod -> yb, lt_or_le -> ye, mul_left_comm -> yh, pow_zero -> yi, emod_lt_of_pos -> yk, tdiv_eq_ediv_of_nonneg -> ym, tmod_eq_emod_of_nonneg -> yn, lt_of_mul_lt_mul_left -> yo, emod_nonneg -> yp, mul_sub -> yq, mul_zero -> yu, ediv_lt_of_lt_mul -> yw, mul_one -> yx, pow_pos -> yy, fdiv_eq_ediv_of_nonneg -> yz, ediv_emod_unique -> qc, add_assoc -> qe, tdiv -> qf, ediv_nonneg -> qh, sub_mul -> qj, add_zero -> qk, zero_mul -> qp, mul_lt_mul_of_pos_left -> qu, le_refl -> qw, fdiv -> qx, tmod -> qz, ediv_eq_zero_of_lt -> q9, mul_neg -> jf
open List renaming replicate -> zj, getD_eq_getElem?_getD -> zr, take_of_length_le -> zu, append_assoc -> yd, length_take -> yg, getElem?_eq_getElem -> yr, take_append_drop -> ql, mem_cons -> qm, replicate_succ' -> qn, drop_eq_getElem_cons -> qv, length_eq_zero_iff -> qy, mem_append -> jc
open Bool renaming and_eq_true -> zn
open Go.Pe.Sh renaming int -> z7, list -> qg
open Nat renaming add -> yc, min_eq_left -> yv, add_sub_cancel -> qt
open BitVec renaming ofInt -> yj
open Option renaming getD -> qi
open Min renaming min -> qo
open Go.Pe.Ad renaming of -> je
variable {Q:Go.Pe.PV->Go.Pe.Ob->Prop}
namespace Go.Pe
open Sp
open Go.Det
section
open List Int Prod
namespace T158
def T[Srt](a b:List Int):Tr:=tree JJ false 9 158<|Ae ([qg<|z7 zl,qg<|z7 zl]) (a,b)
def L1[Srt](v0 v1:List Int)(a:Nat)(d b:Int)(c:List Int):Tr:=re ((T [] []).L.R.L.L)<|AB 137 [(0,.dat (qg<|z7 zl) v0),(1,.dat (qg<|z7 zl) v1),(6,.sl 0 1 0 a none),(7,.dat (z7 zl) d),(8,.dat i64 b)] [(0,.arr false 206 (z7 zl) c)] 1
def L2[Srt](a b:List Int)(v1:Int)(d:Nat)(c:List Int)(e f:Int)(g:List Int):Tr:=re ((T a b).L.R.R.L.L.L)<|AB 40 [(1,.dat i64 v1),(5,.sl 0 1 0 d none),(12,.dat (qg<|z7 zl) c),(13,.dat i64 e),(14,.dat i64 f)] [(0,.arr false 206 (z7 zl) g)] 1
theorem Ai[Srt](a b:List Int):T a b=let c:=(length b:Int);let b':=(length a:Int);let d:=zc .i64<|c+1;let e:=getD b (toNat<|zc .i64<|c-1) 0;.ck (B3 a&&B3 b) (.di (B6 (Aq a) (Aq b)<0) (.leaf (.tup [.nil,.dat (qg<|z7 zl) a]) [])<|.ite (c==1) (.ck (decide (0<=b')&&decide (b'=b')&&decide (8*toNat b'<=281474976710656)&&decide (b'<9223372036854775808))<|L1 a b (toNat b') 0 (zc .i64<|b'-1)<|replicate (toNat b') 0)<|.ck (decide (0<=zc .i64 (c-1))&&decide (zc .i64 (c-1)<c))<|.ck (z6 e)<|.ck (decide (0<=zc .i64 (c+1))&&decide (zc .i64 (c+1)=zc .i64 (c+1))&&decide (8*toNat d<=281474976710656)&&decide (zc .i64 (c+1)<9223372036854775808))<|L2 a b (Sp.lz e) (toNat d) b c 0<|replicate (toNat d) 0):=by kernel_rfl
theorem Ar[Srt](v0 v1:List Int)(a:Nat)(c b:Int)(d:List Int):stepT JJ (L1 v0 v1 a c b d)=let e:=getD v0 (toNat b) 0;let b':=qg<|z7 zl;.di (b>=0) (.ck (decide (0<=b)&&decide (b<(length v0:Int)))<|.cd (0<(length v1:Int))<|.ck (z6 c&&z6 e&&z6 (getD v1 0 0)&&decide (c<getD v1 0 0))<|.ck (decide (0<=b)&&decide (b<(↑a:Int)))<|.cd (toNat b<length d)<|L1 v0 v1 a (Sp.dr c e<|getD v1 0 0) (zc .i64<|b-1)<|set d (toNat b)<|Sp.dq c e<|getD v1 0 0) (.ck (decide (0+a<=length d)&&true&&CO (take a d))<|.ck (decide (1<=1)&&true&&CO [c])<|.leaf (.tup [.dat b'<|Ax<|take a d,.dat b'<|Ax [c]]) []):=by kernel_rfl
def L3[Srt](a b:List Int)(v1:Int)(g:Nat)(i:List Int)(j k:Int)(m:List Int)(l:Int)(d:Nat)(c:List Int)(e:Int)(f:Int)(o1:List Int)(h:List Int):Tr:=re ((stepT JJ<|L2 a b v1 g i j k m).R.L.L)<|AB 40 [(1,.dat i64 l),(5,.sl 1 1 0 d none),(12,.dat (qg<|z7 zl) c),(13,.dat i64 e),(14,.dat i64 f)] [(1,.arr false 206 (z7 zl) o1),(0,.arr true 206 (z7 zl) h)] 2
theorem AO[Srt](a b:List Int)(v1:Int)(d:Nat)(e:List Int)(f c:Int)(g:List Int):stepT JJ (L2 a b v1 d e f c g)=let j:=set g (toNat c)<|Zu zl (getD g (toNat c) 0)<|zc .u64<|getD e (toNat c) 0*2^qo (toNat v1) 64;let b':=(length a:Int)+1;let h:=zc .i64<|c+1;let l:=decide (0<=c)&&decide (c<(↑d:Int));let k:=decide (toNat c<length g);let i:=zc .i64 b';.di (c<f) (.ck (decide (0<=c)&&decide (c<(length e:Int)))<|.ck l<|.ck k<|.cd (0<=v1)<|.ck l<|.ck k<|.di (v1>0) (.cd (0<=zc .i64 (64-v1))<|.ck (decide (0<=zc .i64 (c+1))&&decide (zc .i64 (c+1)<(↑d:Int)))<|.cd (toNat h<length j)<|L2 a b v1 d e f h<|set j (toNat h)<|qx (getD e (toNat c) 0)<|2^qo (toNat<|zc .i64<|64-v1) 64)<|L2 a b v1 d e f h j) (.ck (decide (0+d<=length g)&&true&&CO (take d g))<|.ck (decide (0<=zc .i64 b')&&decide (zc .i64 b'=zc .i64 b')&&decide (8*toNat i<=281474976710656)&&decide (zc .i64 b'<9223372036854775808))<|L3 a b v1 d e f c g (Sp.lz<|getD b (toNat<|zc .i64<|(length b:Int)-1) 0) (toNat i) a ((length a:Int)) 0 (replicate (toNat i) 0) g):=by kernel_rfl
def L4[Srt](v9:Int)(c:List Int)(b:Nat)(d:Int)(a:Nat)(e:Int)(o1 f:List Int):Tr:=re ((stepT JJ<|L3 [] [] 0 0 [] 0 0 [] 0 0 [] 0 0 [] []).R.L)<|AB 137 [(9,.dat i64 v9),(10,.dat (qg<|z7 zl) c),(11,.sl 0 1 0 b none),(12,.dat i64 d),(13,.sl 1 1 0 a none),(14,.dat i64 e)] [(1,.arr false 206 (z7 zl) o1),(0,.arr false 206 (z7 zl) f)] 2
theorem Cr[Srt](a b:List Int)(v1:Int)(h:Nat)(i:List Int)(j k:Int)(o:List Int)(f:Int)(e:Nat)(d:List Int)(g:Int)(c:Int)(o1:List Int)(l:List Int):stepT JJ (L3 a b v1 h i j k o f e d g c o1 l)=let b':=set o1 (toNat c)<|Zu zl (getD o1 (toNat c) 0)<|zc .u64<|getD d (toNat c) 0*2^qo (toNat f) 64;let n:=zc .i64<|c+1;let s:=decide (0<=c)&&decide (c<(↑e:Int));let r:=decide (toNat c<length o1);let h':=Ax<|take h o;let q:=(↑(length h'):Int);let m:=zc .i64 ((length a:Int)-q)+1;let p:=zc .i64 m;.di (c<g) (.ck (decide (0<=c)&&decide (c<(↑(length d):Int)))<|.ck s<|.ck r<|.cd (0<=f)<|.ck s<|.ck r<|.di (f>0) (.cd (0<=zc .i64 (64-f))<|.ck (decide (0<=zc .i64 (c+1))&&decide (zc .i64 (c+1)<(↑e:Int)))<|.cd (toNat n<length b')<|L3 a b v1 h i j k o f e d g n (set b' (toNat n)<|qx (getD d (toNat c) 0)<|2^qo (toNat<|zc .i64<|64-f) 64) l)<|L3 a b v1 h i j k o f e d g n b' l) (.ck (decide (0<=zc .i64 m)&&decide (zc .i64 m=zc .i64 m)&&decide (8*toNat p<=281474976710656)&&decide (zc .i64 m<9223372036854775808))<|L4 (Sp.lz<|getD b (toNat<|zc .i64<|(length b:Int)-1) 0) h' e q (toNat p) (zc .i64<|(length a:Int)-q) (replicate (toNat p) 0) o1):=by kernel_rfl
def L5[Srt](v9:Int)(f:List Int)(b:Nat)(g:Int)(a:Nat)(i:Int)(o1 n:List Int)(d j h:Nat)(v1:List Int)(v5 m l k:Int)(c:List Int)(e:List Int):Tr:=re ((stepT JJ<|L4 v9 f b g a i o1 n).L.L.L.L.L.L.L.L.L.L)<|AB 186 [(0,.sl 0 1 d j<|Option.some h),(1,.dat (qg<|z7 zl) v1),(5,.dat i64 v5),(6,.dat (z7 zl) m),(7,.dat (z7 zl) l),(8,.dat (z7 zl) k)] [(1,.arr false 206 (z7 zl) c),(0,.arr false 206 (z7 zl) e)] 2
def L6[Srt](v9:Int)(b:Nat)(c:Int)(a:Nat)(e d:Int)(o1 f:List Int):Tr:=re ((stepT JJ<|L4 0 [] 0 0 0 0 [] []).R)<|AB 137 [(9,.dat i64 v9),(11,.sl 0 1 0 b none),(12,.dat i64 c),(13,.sl 1 1 0 a none),(96,.dat i64 e),(97,.dat i64 d)] [(1,.arr false 206 (z7 zl) o1),(0,.arr false 206 (z7 zl) f)] 2
theorem CN[Srt](v9:Int)(c:List Int)(a:Nat)(e:Int)(d:Nat)(b:Int)(o1 f:List Int):stepT JJ (L4 v9 c a e d b o1 f)=let g:=(length c:Int);let j:=yc 0<|toNat b;let p:=Nat.sub (qi none a)<|toNat b;let p':=zc .i64 (b+e)+1;let k:=toNat<|zc .i64<|g-1;let l:=zc .i64 p';let h':=yc (toNat g) j;let l':=decide (yc (toNat g) j<length f);let n':=decide (0<=zc .i64 (g-1));let b':=Nat.sub (toNat l)<|toNat b;let n:=n'&&decide (zc .i64 (g-1)<g);let i:=getD f (yc k j) 0;let h:=getD c k 0;let o':=decide (yc k j<length f);let m:=getD f h' 0;let o:=n'&&decide (zc .i64 (g-1)<(↑b':Int));let q:=decide (0<=g)&&decide (g<(↑b':Int));.di (b>=0) (.ck (decide (0<=b)&&decide (0<=zc .i64 p')&&true&&decide (toNat b<=toNat l)&&decide (toNat l<=qi none a)&&decide (qi none a<=qi none a)&&true)<|.ck q<|.ck l'<|.ck n<|.di (getD f h' 0>=getD c k 0) (.ck o<|.ck o'<|.ck n<|.ck (z6 i&&z6 h&&decide ((0:Sh.T (Bv [u64]))<=0)&&decide (0<=(1:Sh.T (Bv [u64]))))<|L5 v9 c a e d b o1 f j b' p c g 18446744073709551615 (H2 i h 0) (Pv i h 0) o1 f)<|.ck q<|.ck l'<|.ck o<|.ck o'<|.ck n<|.ck (z6 m&&z6 i&&z6 h&&decide (getD f h' 0<getD c k 0))<|L5 v9 c a e d b o1 f j b' p c g (Sp.dq m i h) (Sp.dr m i h) 0 o1 f) (L6 v9 a e d e 0 o1 f):=by kernel_rfl
def L7[Srt](v9:Int)(m:List Int)(c:Nat)(g:Int)(a:Nat)(h:Int)(o1 p:List Int)(f j n:Nat)(v1:List Int)(v5 o i:Int)(b:Int)(e d:Int)(k:List Int)(l:List Int):Tr:=re ((stepT JJ<|L5 v9 m c g a h o1 p 0 0 0 [] 0 0 0 0 [] []).L.L.L.L)<|AB 186 [(0,.sl 0 1 f j<|Option.some n),(1,.dat (qg<|z7 zl) v1),(5,.dat i64 v5),(6,.dat (z7 zl) o),(11,.dat (z7 zl) i),(12,.dat (z7 zl) b),(104,.dat i64 e),(105,.dat i64 d)] [(1,.arr false 206 (z7 zl) k),(0,.arr false 206 (z7 zl) l)] 2
theorem Fb[Srt](v9:Int)(j:List Int)(c:Nat)(g:Int)(a:Nat)(h:Int)(o1 p:List Int)(b e k:Nat)(v1:List Int)(v5 f l q:Int)(i:List Int)(d:List Int):stepT JJ (L5 v9 j c g a h o1 p b e k v1 v5 f l q i d)=let b':=toNat<|zc .i64<|v5-2;let o:=L7 v9 j c g a h o1 p b e k v1 v5 f 0 0 v5 0 i d;let n:=getD v1 (toNat<|zc .i64<|v5-1) 0;let s:=decide (0<=zc .i64 (v5-2));let r:Tr:=.ck (decide (0<=zc .i64 (v5-1))&&decide (zc .i64 (v5-1)<(length v1:Int)))<|.ck (z6 l&&z6 n&&decide ((0:Sh.T (Bv [u64]))<=0)&&decide (0<=(1:Sh.T (Bv [u64]))))<|L5 v9 j c g a h o1 p b e k v1 v5 (zc .u64<|f-1) (H2 l n 0) (Pv l n 0) i d;let m:=getD v1 b' 0;.ite (q==0) (.ck (s&&decide (zc .i64 (v5-2)<(length v1:Int)))<|.ck (z6 f&&z6 m)<|.di (Qo f m<l) o<|.ite (Qo f m==l) (.ck (s&&decide (zc .i64 (v5-2)<(↑e:Int)))<|.cd (yc b' b<length d)<|.di (H9 f m<=getD d (yc b' b) 0) o r) r) o:=by kernel_rfl
theorem Gu[Srt](v9:Int)(b:Nat)(d:Int)(c:Nat)(e a:Int)(o1 f:List Int):stepT JJ (L6 v9 b d c e a o1 f)=let g:=set f (toNat a)<|qx (getD f (toNat a) 0)<|2^qo (toNat v9) 64;let b':=decide (0<=a)&&decide (a<(↑b:Int));let h:=zc .i64<|a+1;let i:=decide (zc .i64 (a+1)<(↑b:Int));let l:=decide (toNat a<length f);let h':=qg<|z7 zl;let j:=L6 v9 b d c e h o1 g;let k:=decide (toNat a<length g);.di (a<e) (.ck b'<|.ck l<|.cd (0<=v9)<|.ck b'<|.ck l<|.di (v9>0) (.ite i (.ck b'<|.ck k<|.ck (decide (0<=zc .i64 (a+1))&&i)<|.cd (toNat h<length g)<|.cd (0<=zc .i64 (64-v9))<|.ck b'<|.ck k<|L6 v9 b d c e h o1<|set g (toNat a)<|Zu zl (getD g (toNat a) 0)<|zc .u64<|getD g (toNat h) 0*2^qo (toNat<|zc .i64<|64-v9) 64) j) j) (.ck (decide (0<=d)&&true&&decide (0<=toNat d)&&decide (toNat d<=qi none b)&&decide (qi none b<=qi none b)&&true)<|.ck (decide (0+c<=length o1)&&true&&CO (take c o1))<|.ck (decide (0+toNat d<=length f)&&true&&CO (take (toNat d) f))<|.leaf (.tup [.dat h'<|Ax<|take c o1,.dat h'<|Ax<|take (toNat d) f]) []):=by kernel_rfl
def L8[Srt](v9:Int)(l:List Int)(c:Nat)(f:Int)(a:Nat)(g:Int)(o1 o:List Int)(e h m:Nat)(v1:List Int)(v5 n i d b:Int)(j:List Int)(k:List Int):Tr:=re ((stepT JJ<|L7 v9 l c f a g o1 o 0 0 0 [] 0 0 0 0 0 0 [] []).R.L.L.L.L.L.R)<|AB 186 [(0,.sl 0 1 e h<|Option.some m),(1,.dat (qg<|z7 zl) v1),(5,.dat i64 v5),(6,.dat (z7 zl) n),(17,.dat (z7 zl) i),(156,.dat i64 d),(157,.dat i64 b)] [(1,.arr false 206 (z7 zl) j),(0,.arr false 206 (z7 zl) k)] 2
theorem ES[Srt](v9:Int)(m:List Int)(h:Nat)(l:Int)(d:Nat)(e:Int)(o1 v:List Int)(f i o:Nat)(v1:List Int)(v5 n c:Int)(b:Int)(k a:Int)(j:List Int)(g:List Int):stepT JJ (L7 v9 m h l d e o1 v f i o v1 v5 n c b k a j g)=let b':=yc (toNat v5) f;let q:=getD v1 (toNat a) 0;let w:=decide (yc (toNat a) f<length g);let x:=decide (yc (toNat v5) f<length g);let h':=decide (0<=a)&&decide (a<(↑i:Int));let p:=(0:Sh.T (Bv [u64]));let r:=(1:Sh.T (Bv [u64]));let y:=decide (0<=v5)&&decide (v5<(↑i:Int));let n':=yc (toNat a) f;let s:=H9 n q;let u:=getD g n' 0;let t:=getD g b' 0;let z:=set g b'<|Tf t b c;let l':=H2 s b 0;.di (a<k) (.ck (decide (0<=a)&&decide (a<(length v1:Int)))<|.ck (z6 n&&z6 q)<|.ck (z6 s&&z6 b&&decide (p<=0)&&decide (0<=r))<|.ck h'<|.ck w<|.ck (z6 u&&z6 l'&&decide (p<=c)&&decide (c<=r))<|.ck h'<|.ck w<|L7 v9 m h l d e o1 v f i o v1 v5 n (P9 u l' c) (zc .u64<|Qo n q+Pv s b 0) k (zc .i64<|a+1) j<|set g n'<|Tf u l' c) (.ck y<|.ck x<|.ck (z6 t&&z6 b&&decide (p<=c)&&decide (c<=r))<|.ck y<|.ck x<|.ite (P9 t b c==0) (.ck (decide (0<=e)&&decide (e<(↑d:Int)))<|.cd (toNat e<length j)<|L4 v9 m h l d (zc .i64<|e-1) (set j (toNat e) n) z)<|L8 v9 m h l d e o1 v f i o v1 v5 n 0 v5 0 j z):=by kernel_rfl
theorem H3[Srt](v9:Int)(l:List Int)(g:Nat)(k:Int)(d:Nat)(b:Int)(o1 u:List Int)(e i m:Nat)(v1:List Int)(v5 n f h a:Int)(j:List Int)(c:List Int):stepT JJ (L8 v9 l g k d b o1 u e i m v1 v5 n f h a j c)=let b':=decide (yc (toNat a) e<length c);let p:=getD v1 (toNat a) 0;let q:=decide (yc (toNat v5) e<length c);let r:=decide (0<=a)&&decide (a<(↑i:Int));let t:=decide (0<=v5)&&decide (v5<(↑i:Int));let s:=yc (toNat a) e;let h':=yc (toNat v5) e;let o:=getD c s 0;.di (a<h) (.ck r<|.ck b'<|.ck (decide (0<=a)&&decide (a<(length v1:Int)))<|.ck (z6 o&&z6 p&&decide ((0:Sh.T (Bv [u64]))<=f)&&decide (f<=(1:Sh.T (Bv [u64]))))<|.ck r<|.ck b'<|L8 v9 l g k d b o1 u e i m v1 v5 n (Pv o p f) h (zc .i64<|a+1) j<|set c s<|H2 o p f) (.ck t<|.ck q<|.ck t<|.ck q<|.ck (decide (0<=b)&&decide (b<(↑d:Int)))<|.cd (toNat b<length j)<|L4 v9 l g k d (zc .i64<|b-1) (set j (toNat b)<|zc .u64<|n-1)<|set c h'<|zc .u64<|getD c h' 0+f):=by kernel_rfl
end T158
end
namespace T158
theorem dqr{r x d:Int}(a:0<d)(b:0<=r/\r<d)(c:0<=x/\x<18446744073709551616):Sp.dq r x d*d+Sp.dr r x d=r*18446744073709551616+x/\0<=Sp.dq r x d/\Sp.dq r x d<18446744073709551616/\0<=Sp.dr r x d/\Sp.dr r x d<d:=by
 unfold Sp.dq Sp.dr;have h:=yb (r*18446744073709551616+x) d;rw[zq]at h;refine⟨h,qh ae ae,yw a ae,yp _ ae,yk _ a⟩
theorem As[Srt](a:List Int)(d:Int)(k:Aw Ao a)(g:0<d/\d<18446744073709551616)(n:a.length<=20000)(j:∀q r ob,Aw Ao q->(0<=r/\r<d)->Aq a=Aq q*d+r->Q (.tup [.dat CZ<|Ax q,.dat CZ<|Ax [r]]) ob):∀(i:Nat) (q:List Int) (r:Int),i+q.length=a.length->Aw Ao q->(0<=r/\r<d)->ze Ao (a.drop i)=ze Ao q*d+r->
  Ends JJ (L1 a [d] a.length r ((i:Int)-1)<|zj i 0++q) Q
 |0,q,r,m,b,c,f=>by
  have s:((zj 0 0++q).take a.length)=q:=by
   rw[List.replicate_zero,List.nil_append];exact zu ae
  refine zw (Ar ..) (yt (by simp) ?_);rw[s];refine zd (Ab (by simp;omega)<|Eb ae b) (zd (Ab rfl (Eb (by simp)<|fun x e=>by rw[List.mem_singleton]at e;subst e;exact⟨c.1,by show x<18446744073709551616;omega⟩))<|yf<|j q r _ b c f)
 |i+1,q,r,m,b,c,f=>by
  have p:(((i+1:Nat):Int)-1)=(i:Int):=ae
  have h:=AU k i;obtain⟨w,u,v,l,o⟩:=dqr g.1 c<|qd h;have t:a.drop i=a.getD i 0::a.drop (i+1):=by
   rw[zr,yr ae];exact qv ae
  have es:∀x,(zj (i+1) (0:Int)++q).set i x=zj i 0++(x::q):=by
   intro x;rw[qn,yd];exact Da _ _ _ _ (by simp)
  rw[p];refine zw (Ar ..) (zd (by simp) ?_);rw[zf,es,wr ((i:Int)-1) ae ae];refine zd (by simp;omega) (zd (by simp) (zd ?_ (zd (by simp;omega)<|zd (by simp;omega) ?_)))
  ·exact Ab (Ab (Ab (CA c.1 ae) h)<|CA (by show 0<=d;omega) g.2)<|w4 c.2
  ·refine As a d k g n j i _ _ (by simp;omega) (fun x e=>?_) ⟨l,o⟩ ?_
   ·rcases qm.1 e with rfl|e
    ·exact⟨u,v⟩
    ·exact b x e
   ·rw[t];show a.getD i 0+(18446744073709551616:Int)*ze Ao (a.drop<|i+1)=(Sp.dq r (a.getD i 0) d+(18446744073709551616:Int)*ze Ao q)*d+Sp.dr r (a.getD i 0) d;rw[f,z8,zm,zp];omega
end T158
end Go.Pe
namespace Go.Sp
theorem Ui{B P u0 u1 u2 a v1 v2 v' q r:Int}(f:0<P)(c:0<=v')(l:a<P)(d:0<=q)(b:q*v1+r=u0*B+u1)(h:r*B+u2<q*v2):
  ((u0*B+u1)*B+u2)*P+a<q*((v1*B+v2)*P+v'):=by
 have e:q*(v1*B+v2)=q*v1*B+q*v2:=by rw[zm,zp]
 have j:(u0*B+u1)*B=q*v1*B+r*B:=by rw[<-b,z8]
 have g:(u0*B+u1)*B+u2+1<=q*(v1*B+v2):=by rw[e,j];omega
 have i:=zg g<|zo f;have k:0<=q*v':=zz d c;rw[zm q, <-zp];rw[z8,zy]at i;omega
theorem Tz{B P u0 u1 u2 c v1 v2 v' q r:Int}(b:0<P)(g:0<=v'/\v'<P)(n:0<=c)(k:0<=q/\q<B)(a:1<=v1)(l:0<=v2)(d:q*v1+r=u0*B+u1)(h:q*v2<=r*B+u2):
  q*((v1*B+v2)*P+v')<((u0*B+u1)*B+u2)*P+c+((v1*B+v2)*P+v'):=by
 have e:q*(v1*B+v2)=q*v1*B+q*v2:=by rw[zm,zp]
 have j:(u0*B+u1)*B=q*v1*B+r*B:=by rw[<-d,z8]
 have i:q*(v1*B+v2)<=(u0*B+u1)*B+u2:=by rw[e,j];omega
 have o:=zg i<|zo b;have m:q*v'<=(B-1)*P:=Int.le_trans (zh (zo g.2) k.1) (zg ae<|zo b);have f:B<=v1*B+v2:=by
  have:=zg a (show 0<=B by omega);omega
 have p:=zg f<|zo b;rw[qj,zy]at m;rw[zm q, <-zp];omega
theorem HE(b:Int):∀(l:List Int) (i:Nat) (x:Int),i<l.length->val b (l.set i x)=val b l+b^i*(x-l.getD i 0)
 |[],i,x,h=>by simp at h
 |d::l,0,x,_=>by
  show x+b*val b l=d+b*val b l+b^0*(x-d);rw[yi,zy];omega
 |d::l,i+1,x,h=>by
  have:=HE b l i x (by simpa using h);show d+b*val b (l.set i x)=d+b*val b l+b^(i+1)*(x-l.getD i 0);rw[this,zm,zt,zq (b^i) b,zp,qe]
theorem Ha{b:Int}{l:List Int}(h:Aw b l)(i:Nat){x:Int}(c:0<=x/\x<b):Aw b (l.set i x):=by
 intro d a;rcases List.mem_or_eq_of_mem_set a with a|rfl
 ·exact h d a
 ·exact c
theorem Gr{b:Int}{l r:List Int}(c:Aw b l)(e:Aw b r):Aw b (l++r):=by
 intro d a;rcases jc.1 a with a|a
 ·exact c d a
 ·exact e d a
theorem Pj{b:Int}(c:0<b){l:List Int}(h:Aw b l)(i:Nat):0<=l.getD i 0/\l.getD i 0<b:=by
 rcases Nat.lt_or_ge i l.length with a|a
 ·have:l.getD i 0∈l:=by rw[zr,yr a];exact List.getElem_mem a
  exact h _ this
 ·rw[zr,List.getElem?_eq_none a];exact⟨qw _,c⟩
theorem Cm{l:List Int}{i:Nat}(h:i<l.length):l.drop i=l.getD i 0::l.drop (i+1):=by
 rw[zr,yr h];exact qv h
theorem GR(p r:List Int)(i j:Nat)(h:p.length=j):(p++r).getD (i+j) 0=r.getD i 0:=by
 subst h;rw[zr,zr,List.getElem?_append_right ae,qt]
theorem SG(p r:List Int)(i j:Nat)(x:Int)(h:p.length=j):(p++r).set (i+j) x=p++r.set i x:=by
 subst h;rw[List.set_append_right _ _ ae,qt]
theorem nU(b:Int)(r:List Int)(k:Nat)(c:k+3<=r.length)(d:val b (r.drop<|k+3)=0):
  val b r=((r.getD (k+2) 0*b+r.getD (k+1) 0)*b+r.getD k 0)*b^k+val b (r.take k):=by
 have a:b^(k+1)=b^k*b:=zt ..;have f:b^(k+2)=b^k*b*b:=by rw[<-a];exact zt ..
 rw[Co b r (k+3) c,d,AF,AF,AF,a,f,yu,qk];generalize b^k=P;generalize r.getD (k+2) 0=x;generalize r.getD (k+1) 0=y;generalize r.getD k 0=z;have i:P*b*b*x=x*b*b*P:=by rw[zq (P*b*b) x,zq P b,zp b P b,zq P b, <-zp, <-zp]
 have g:P*b*y=y*b*P:=by rw[zq (P*b) y,zq P b,zp]
 have h:P*z=z*P:=zq _ _;have e:((x*b+y)*b+z)*P=x*b*b*P+y*b*P+z*P:=by rw[z8,z8,z8]
 rw[e];omega
theorem mU(b:Int)(v:List Int)(k:Nat)(e:v.length=k+2):
  val b v=(v.getD (k+1) 0*b+v.getD k 0)*b^k+val b (v.take k):=by
 have h0:val b (v.drop<|k+2)=0:=by rw[List.drop_eq_nil_of_le ae];rfl
 have c:b^(k+1)=b^k*b:=zt ..;rw[Co b v (k+2) ae,h0,AF,AF,c,yu,qk];generalize b^k=P;generalize v.getD (k+1) 0=y;generalize v.getD k 0=z;have a:P*b*y=y*b*P:=by rw[zq (P*b) y,zq P b,zp]
 have d:P*z=z*P:=zq _ _;rw[a,d,z8];omega
theorem lO{b:Int}(g:2<=b){v:List Int}(c:Aw b v)(e:nz v){k:Nat}(d:b^k<=val b v)(i:val b v<b^(k+1)):v.length=k+1:=by
 have f:=Be (show 0<b by omega) k;have a:v≠[]:=by rintro rfl;simp[val]at d;omega
 have a1:=Br ae c;have a2:=C6 ae c e a;rcases Nat.lt_trichotomy v.length (k+1)with h|h|h
 ·have:=AN (show 1<=b by omega) (show v.length<=k by omega);omega
 ·exact h
 ·have:=AN (show 1<=b by omega) (show k+1<=v.length-1 by omega);omega
theorem Jk{b:Int}(d:2<=b){r:List Int}(a:Aw b r){n:Nat}(c:n<=r.length)(h:val b r<b^n):val b (r.drop n)=0:=by
 have h0:=AD (show 0<=b by omega)<|Em a n;have e:=AD (show 0<=b by omega)<|AL a n;rw[Co b r n c]at h;have f:=Be (show 0<b by omega) n;rcases ye 0 (val b<|r.drop n)with g|g
 ·have:=zh (show 1<=val b (r.drop n)by omega) (show 0<=b^n by omega);omega
 ·omega
theorem QO{b:Int}(d:2<=b){r:List Int}(c:Aw b r){n:Nat}(a:n<=r.length)(h:val b (r.drop n)=0):val b r<b^n:=by
 have:=Br (show 0<b by omega)<|AL c n;rw[yg,yv a]at this;rw[Co b r n a,h];omega
theorem fN{b c d x y X:Int}(l:0<c)(a:b=c*d):(x+b*(y+b*X))/c=(x/c+(y % c)*d)+b*((y+b*X)/c):=by
 subst a;have f:(x+c*d*(y+c*d*X))/c=x/c+d*(y+c*d*X):=by
  rw[zp c d,Int.add_mul_ediv_left _ _ ae]
 have g:(y+c*d*X)/c=y/c+d*X:=by
  rw[zp c d,Int.add_mul_ediv_left _ _ ae]
 have k:=yb y c;rw[f,g];have j:d*(y+c*d*X)=d*(c*(y/c)+y % c+c*d*X):=by rw[k]
 rw[j,zm,zm,zm<|c*d];have h:d*(c*(y/c))=c*d*(y/c):=by rw[<-zp,zq d c]
 have i:d*(y % c)=(y % c)*d:=zq _ _;have e:d*(c*d*X)=c*d*(d*X):=by rw[<-zp,zq d<|c*d,zp]
 rw[h,i,e];omega
theorem Up{b c d x k:Int}(o:0<c)(a:0<d)(j:b=c*d)(p:0<=k/\k<c)(f:0<=x/\x<b):
  (x*c) % b=(x % d)*c/\(x % d)*c+k<b/\0<=(x % d)*c/\0<=x/d/\x/d<c/\(x % d)*c+b*(x/d)=x*c:=by
 subst j;have h:=yb x d;have i:=yp x (show d≠0 by omega);have l:=yk x a;have g:0<=x/d:=qh f.1 ae;have q1:x/d<c:=yw a (by have:=f.2;omega);have p0:0<=(x % d)*c:=zz i ae;have m:(x % d)*c<=(d-1)*c:=zg ae ae;have n:(d-1)*c=c*d-c:=by rw[qj,zy,zq]
 have e:(x % d)*c+c*d*(x/d)=x*c:=by
  conv=>rhs;rw[<-h]
  rw[z8,zp c d,zq c<|d*(x/d)];omega
 refine⟨?_,by omega,p0,g,q1,e⟩;rw[<-e,Int.add_mul_emod_self_left];exact Int.emod_eq_of_lt p0 ae
theorem MO{B P u0 u1 u2 b v1 v2 v' q r:Int}(c:0<P)(k:0<B)(p:0<=q)(f:0<=v')(a:0<=v2)(m:b<P)(j:u2<B)(n:q*v1+r=u0*B+u1)(h:r<v1):
  ((u0*B+u1)*B+u2)*P+b<(q+1)*((v1*B+v2)*P+v'):=by
 have g:u0*B+u1+1<=(q+1)*v1:=by rw[z8,zy];omega
 have i:=zg g<|zo k;have l:(u0*B+u1)*B+u2+1<=(q+1)*v1*B:=by
  rw[z8,zy]at i;omega
 have d:=zg l<|zo c;rw[z8,zy]at d;have s:0<=(q+1)*(v2*P):=zz ae<|zz a<|zo c;have o:0<=(q+1)*v':=zz ae f;have e:(q+1)*((v1*B+v2)*P+v')=(q+1)*v1*B*P+(q+1)*(v2*P)+(q+1)*v':=by
  rw[z8<|v1*B,zm,zm];congr 2;rw[zp,zp,zp]
 rw[e];omega
end Go.Sp
namespace Go.Pe
open Sp
open Go.Det
theorem Uy{q x y c b:Int}(d:z6 q=true)(e:z6 x=true)(j:z6 y=true)(g:z6 c=true)(i:0<=b/\b<=1):
  z6 (H9 q x)=true/\z6 (H2 (H9 q x) c 0)=true/\zc .u64 (Qo q x+Pv (H9 q x) c 0)=(q*x+c)/18446744073709551616/\z6 ((q*x+c)/18446744073709551616)=true/\
  z6 (Tf y (H2 (H9 q x) c 0) b)=true/\(0<=P9 y (H2 (H9 q x) c 0) b/\P9 y (H2 (H9 q x) c 0) b<=1)/\
  c+b+(Tf y (H2 (H9 q x) c 0) b-y)=18446744073709551616*((q*x+c)/18446744073709551616+P9 y (H2 (H9 q x) c 0) b)-q*x:=by
 have d:=qd d;have e:=qd e;have g:=qd g;have h0:0<=q*x:=zz d.1 e.1;have k:q*x<=18446744073709551615*18446744073709551615:=by
  have a:=zh (show x<=18446744073709551615 by omega) d.1;have b:=zg (show q<=18446744073709551615 by omega) (show(0:Int)<=18446744073709551615 by omega);omega
 have f:z6 (H2 (H9 q x) c 0)=true:=by unfold H2;exact CA ae ae
 obtain⟨s1,s2,s3⟩:=Sp.G2 j f i;refine⟨?_,f,?_,?_,s1,s2,?_⟩
 ·unfold H9;exact CA ae ae
 ·unfold H9 Qo Pv;rw[KZ];generalize q*x=P at*;omega
 ·generalize q*x=P at*;exact CA ae ae
 ·generalize P9 y (H2 (H9 q x) c 0) b=h at*;generalize Tf y (H2 (H9 q x) c 0) b=l at*;unfold H2 H9 at s3;generalize q*x=P at*;omega
namespace T158
theorem gw{a r:List Int}{j:Nat}(h:a.length=j)(i:Nat):(a++r).getD (yc i j) 0=r.getD i 0:=GR a r i j h
theorem sw{a r:List Int}{j:Nat}(h:a.length=j)(i:Nat)(x:Int):(a++r).set (yc i j) x=a++r.set i x:=SG a r i j x h
theorem lw{a r:List Int}{j i:Nat}(h:a.length=j)(b:i<r.length):decide (yc i j<(a++r).length)=true:=by
 refine w4 ?_;show i+j<_;rw[List.length_append];omega
theorem Ji(r:List Int)(i n:Nat)(x:Int)(h:i<n):(r.set i x).drop n=r.drop n:=by
 rw[List.drop_set,wd h]
theorem Cd[Srt](v9:Int)(o:List Int)(f:Nat)(l:Int)(a:Nat)(o1 L:List Int)(s:Nat)(v:List Int)(n j:Nat)(p:List Int)(m:Nat)(q W:Int)(h:List Int)
  (Y:v.length=n) (H:n<=9000) (S:n+1<=m) (d:p.length=j) (I:j<a) (w:j<h.length) (M:Aw Ao v) (E:z6 q=true)
  (h0:∀r:List Int,r.length=m->Aw Ao r->ze Ao (r.drop<|n+1)=0->ze Ao r=W-q*ze Ao v->Ends JJ (L4 v9 o f l a (zc .i64<|(j:Int)-1) (h.set j q)<|p++r) Q)
  (P:∀r:List Int,r.length=m->Aw Ao r->ze Ao (r.drop<|n+1)=0->ze Ao r=W-q*ze Ao v+(Ao:Int)^(n+1)->Ends JJ (L8 v9 o f l a j o1 L j (n+1) s v n q 0 n 0 h<|p++r) Q):
  ∀(k i:Nat) (r:List Int) (b c:Int),i+k=n->r.length=m->Aw Ao r->ze Ao (r.drop<|n+1)=0->z6 c=true->(0<=b/\b<=1)->ze Ao r=W-q*ze Ao (v.take i)+(Ao:Int)^i*(c+b)->
   Ends JJ (L7 v9 o f l a j o1 L j (n+1) s v n q b c n i h<|p++r) Q
 |0,i,r,b,c,K,G,y,J,B,t,D=>by
  have K:i=n:=ae
  subst K;have A:=AU y i;obtain⟨s1,s2,s3⟩:=Sp.G2 A B t;have g:decide (yc i j<(p++r).length)=true:=lw d ae;have t1:(decide ((0:Int)<=(i:Int))&&decide ((i:Int)<((i+1:Nat):Int)))=true:=by simp;omega
  have F:v.take i=v:=zu ae;have z:∀x:Int,0<=x/\x<18446744073709551616->(r.set i x).length=m/\Aw Ao (r.set i x)/\ze Ao ((r.set i x).drop<|i+1)=0:=fun x V=>
   ⟨by simp[G],Ha y i V,by rw[Ji _ _ _ _ ae];exact J⟩
  obtain⟨N,C,R⟩:=z _<|qd s1;have ev:ze Ao (r.set i<|Tf (r.getD i 0) c b)=W-q*ze Ao v+(Ao:Int)^(i+1)*P9 (r.getD i 0) c b:=by
   rw[HE _ _ _ _ ae,D,F,Kt,qe, <-zm];congr 2;omega
  refine zw (ES ..) (yt (by simp) ?_);rw[zf,zf,gw d,sw d];refine zd t1<|zd g<|zd (Ab (Ab (Ab A B)<|w4 t.1)<|w4 t.2)<|zd t1<|zd g<|zx (fun u=>?_)<|fun u=>?_
  ·have u:P9 (r.getD i 0) c b=0:=by simpa using u
   refine zd (by simp;omega)<|zd (w4 w)<|h0 _ N C R ?_;rw[ev,u,yu,qk]
  ·have u:P9 (r.getD i 0) c b≠0:=by simpa using u
   refine P _ N C R ?_;rw[ev,show P9 (r.getD i 0) c b=1 by omega,yx]
 |k+1,i,r,b,c,K,G,y,J,B,t,D=>by
  have O:=AU M i;have A:=AU y i;obtain⟨T,m2,m3,Z,U,X,m7⟩:=Uy E O A B t;have g:decide (yc i j<(p++r).length)=true:=lw d ae;have t1:(decide ((0:Int)<=(i:Int))&&decide ((i:Int)<((n+1:Nat):Int)))=true:=by simp;omega
  have C:=wn (i:=i) ae;refine zw (ES ..) (zd (by simp;omega) ?_);rw[zf,gw d,sw d,m3,C];refine zd (by simp;omega)<|zd (Ab E O)<|zd (Ab (Ab (Ab T B) rfl) rfl)<|zd t1<|zd g<|zd (Ab (Ab (Ab A m2)<|w4 t.1)<|w4 t.2)<|zd t1<|zd g ?_;refine Cd v9 o f l a o1 L s v n j p m q W h Y H S d I w M E h0 P k (i+1) _ _ _ ae (by simp[G]) (Ha y i<|qd U) (by rw[Ji _ _ _ _ ae];exact J) Z X ?_;rw[HE _ _ _ _ ae,D,Kt,AF,zm q,yh q];have e:(Ao:Int)^i*(c+b)+(Ao:Int)^i*(Tf (r.getD i 0) (H2 (H9 q<|v.getD i 0) c 0) b-r.getD i 0)=(Ao:Int)^i*(18446744073709551616*((q*v.getD i 0+c)/18446744073709551616+P9 (r.getD i 0) (H2 (H9 q<|v.getD i 0) c 0) b))-(Ao:Int)^i*(q*v.getD i 0):=by
   rw[<-zm, <-yq,m7]
  omega
theorem Fo[Srt](v9:Int)(p:List Int)(h:Nat)(o:Int)(d:Nat)(o1 L:List Int)(t:Nat)(v:List Int)(n j:Nat)(s:List Int)(m:Nat)(q W:Int)(l:List Int)
  (S:v.length=n) (z:n<=9000) (N:n+1<=m) (a:s.length=j) (A:j<d) (u:j<l.length) (I:Aw Ao v)
  (hW:0<=W+ze Ao v)
  (h0:∀r:List Int,r.length=m->Aw Ao r->ze Ao (r.drop<|n+1)=0->ze Ao r=W+ze Ao v->Ends JJ (L4 v9 p h o d (zc .i64<|(j:Int)-1) (l.set j<|zc .u64<|q-1)<|s++r) Q):
  ∀(k i:Nat) (r:List Int) (c:Int),i+k=n->r.length=m->Aw Ao r->ze Ao (r.drop<|n+1)=0->(0<=c/\c<=1)->ze Ao r=W+(Ao:Int)^(n+1)+ze Ao (v.take i)-(Ao:Int)^i*c->
   Ends JJ (L8 v9 p h o d j o1 L j (n+1) t v n q c n i l<|s++r) Q
 |0,i,r,c,G,F,w,B,y,D=>by
  have G:i=n:=ae
  subst G;have C:=qd<|AU w i;have f:decide (yc i j<(s++r).length)=true:=lw a ae;have t1:(decide ((0:Int)<=(i:Int))&&decide ((i:Int)<((i+1:Nat):Int)))=true:=by simp;omega
  have E:v.take i=v:=zu ae;have R:0<=(r.getD i 0+c) % 18446744073709551616/\(r.getD i 0+c) % 18446744073709551616<18446744073709551616:=ae
  have P:(r.set i<|(r.getD i 0+c) % 18446744073709551616).length=m:=by simp[F]
  have x:Aw Ao (r.set i<|(r.getD i 0+c) % 18446744073709551616):=Ha w i R;have H:ze Ao ((r.set i<|(r.getD i 0+c) % 18446744073709551616).drop<|i+1)=0:=by rw[Ji _ _ _ _ ae];exact B
  have J:=QO (b:=Ao) af x (n:=i+1) ae H;refine zw (H3 ..) (yt (by simp) ?_);rw[zf,zf,gw a,sw a,KZ<|r.getD i 0+c];refine zd t1 (zd f<|zd t1<|zd f<|zd (by simp;omega)<|zd (w4 u)<|h0 _ P x H ?_);have V:=Be (b:=Ao) af i;rw[HE _ _ _ _ ae,D,E]at J ⊢;rcases show(r.getD i 0+c) % 18446744073709551616=r.getD i 0+c\/(r.getD i 0+c) % 18446744073709551616=r.getD i 0+c-18446744073709551616 by omega with g|g
  ·exfalso;rw[g,show r.getD i 0+c-r.getD i 0=c by omega]at J;omega
  ·have M:(Ao:Int)^(i+1)=(Ao:Int)^i*18446744073709551616:=zt ..;rw[g,show r.getD i 0+c-18446744073709551616-r.getD i 0=c-18446744073709551616 by omega,yq,M];omega
 |k+1,i,r,c,G,F,w,B,y,D=>by
  have K:=AU I i;have C:=AU w i;obtain⟨O,T,U⟩:=Kn C K y;have f:decide (yc i j<(s++r).length)=true:=lw a ae;have t1:(decide ((0:Int)<=(i:Int))&&decide ((i:Int)<((n+1:Nat):Int)))=true:=by simp;omega
  have x:=wn (i:=i) ae;refine zw (H3 ..) (zd (by simp;omega) ?_);rw[zf,gw a,sw a,x];refine zd t1 (zd f (zd (by simp;omega)<|zd (Ab (Ab (Ab C K)<|w4 y.1)<|w4 y.2)<|zd t1<|zd f ?_));refine Fo v9 p h o d o1 L t v n j s m q W l S z N a A u I hW h0 k (i+1) _ _ ae (by simp[F]) (Ha w i<|qd O) (by rw[Ji _ _ _ _ ae];exact B) T ?_;rw[HE _ _ _ _ ae,D,Kt,AF];have e:(Ao:Int)^i*(H2 (r.getD i 0) (v.getD i 0) c-r.getD i 0)-(Ao:Int)^i*c=(Ao:Int)^i*v.getD i 0-(Ao:Int)^i*(18446744073709551616*Pv (r.getD i 0) (v.getD i 0) c):=by
   rw[<-yq, <-yq];congr 1;omega
  omega
theorem oB[Srt](v9:Int)(l:List Int)(f:Nat)(k:Int)(e:Nat)(o1 z:List Int)(p:Nat)(v:List Int)(n j:Nat)(t:List Int)(m:Nat)(i h:List Int)
  (D:v.length=n) (u:n<=9000) (A:n+1<=m) (x:t.length=j) (w:j<e) (s:j<h.length) (y:Aw Ao v)
  (E:i.length=m) (C:Aw Ao i) (K:ze Ao (i.drop<|n+1)=0)
  (o:∀(q:Int) (r:List Int),r.length=m->Aw Ao r->(0<=q/\q<18446744073709551616)->ze Ao r<ze Ao v->ze Ao r=ze Ao i-q*ze Ao v->Ends JJ (L4 v9 l f k e (zc .i64<|(j:Int)-1) (h.set j q)<|t++r) Q)
  (q:Int) (B:z6 q=true) (L:ze Ao i<(q+1)*ze Ao v) (R:q*ze Ao v<ze Ao i+ze Ao v):
  Ends JJ (L7 v9 l f k e j o1 z j (n+1) p v n q 0 0 n 0 h<|t++i) Q:=by
 have G:=qd B;have N:=AD (b:=Ao) af C;have I:=AD (b:=Ao) af y;rw[z8,zy]at L;refine Cd v9 l f k e o1 z p v n j t m q (ze Ao i) h D u A x w s y B (fun r a b c d=>o q r a b G ae d) (fun r a b c d=>?_) n 0 i 0 0 ae E C K af af (by simp[ze]);have P:=QO (b:=Ao) af b (n:=n+1) ae c;have F:1<=q:=by
  rcases ye 0 q with g|g
  ·exact g
  ·have:q=0:=ae
   subst this;rw[qp]at d;omega
 have M:zc .u64 (q-1)=q-1:=wu _ ae ae;refine Fo v9 l f k e o1 z p v n j t m q (ze Ao i-q*ze Ao v) h D u A x w s y ae (fun H O b' S J=>?_) n 0 r 0 ae a b c af (by rw[d];simp[ze]);rw[M];refine o (q-1) H O b' ae ae ?_;rw[J,qj,zy];omega
theorem Adl(q x:Int):Qo q x*18446744073709551616+H9 q x=q*x/\0<=H9 q x/\H9 q x<18446744073709551616:=by
 unfold Qo H9;generalize q*x=P;omega
theorem Cs[Srt](v9:Int)(p:List Int)(h:Nat)(n:Int)(d:Nat)(o1 N:List Int)(s:Nat)(v:List Int)(k j:Nat)(w:List Int)(m:Nat)(e i:List Int)
  (U:v.length=k+2) (E:k+2<=9000) (Y:k+3<=m) (u:w.length=j) (F:j<d) (I:j<i.length) (C:Aw Ao v)
  (hr:e.length=m) (K:Aw Ao e) (P:ze Ao (e.drop<|k+3)=0) (J:1<=v.getD (k+1) 0)
  (z:∀(q:Int) (r:List Int),r.length=m->Aw Ao r->(0<=q/\q<18446744073709551616)->ze Ao r<ze Ao v->ze Ao r=ze Ao e-q*ze Ao v->Ends JJ (L4 v9 p h n d (zc .i64<|(j:Int)-1) (i.set j q)<|w++r) Q):
  ∀(f:Nat) (q r o:Int),0<=q->q<f->q<18446744073709551616->z6 r=true->(o=0\/o=1)->q*v.getD (k+1) 0+(r+18446744073709551616*o)=e.getD (k+2) 0*18446744073709551616+e.getD (k+1) 0->ze Ao e<(q+1)*ze Ao v->
   Ends JJ (L5 v9 p h n d j o1 N j (k+3) s v ((k+2:Nat):Int) q r o i<|w++e) Q
 |0,q,r,o,h0,hf,_,_,_,_,_=>by omega
 |f+1,q,r,o,h0,hf,hB,l,ho,he,V=>by
  have uq:z6 q=true:=CA h0 hB;have G:=AU C k;have t:=AU C<|k+1;have T:=AU K k;have R:=qd G;have gv1:=qd t;have gu2:=qd T;have gr:=qd l;have Z:=Be (b:=Ao) af k;have hW:=nU Ao e k ae P;have hV:=mU Ao v k U;have X:=AD (b:=Ao) af<|AL K k;have x:=Br (b:=Ao) af<|AL K k;have L:=AD (b:=Ao) af<|AL C k;have y:=Br (b:=Ao) af<|AL C k;rw[yg,yv ae]at x y;have exit:q*v.getD k 0<=(r+18446744073709551616*o)*18446744073709551616+e.getD k 0->Ends JJ (L7 v9 p h n d j o1 N j (k+3) s v ((k+2:Nat):Int) q 0 0 ((k+2:Nat):Int) 0 i<|w++e) Q:=by
   intro O;refine oB v9 p h n d o1 N s v (k+2) j w m e i U E Y u F I C hr K P z q uq V ?_;rw[hW,hV];exact Tz Z ⟨L,y⟩ X ⟨h0,hB⟩ J R.1 he O
  have e1:zc .i64 (((k+2:Nat):Int)-2)=(k:Int):=by rw[wr _ ae ae];omega
  have e2:zc .i64 (((k+2:Nat):Int)-1)=((k+1:Nat):Int):=by rw[wr _ ae ae];omega
  obtain⟨w1,w2,w3⟩:=Adl q<|v.getD k 0;have S:decide (yc k j<(w++e).length)=true:=lw u ae;refine zw (Fb ..)<|zx (fun c=>?_)<|fun c=>?_
  ·have c:o=0:=by simpa using c
   subst c;rw[e1,e2,zf,zf,gw u];refine zd (by simp;omega)<|zd (Ab uq G) ?_;have D:r*18446744073709551616+e.getD k 0<q*v.getD k 0->Ends JJ (L5 v9 p h n d j o1 N j (k+3) s v ((k+2:Nat):Int) (zc .u64<|q-1) (H2 r (v.getD (k+1) 0) 0) (Pv r (v.getD (k+1) 0) 0) i<|w++e) Q:=by
    intro O;obtain⟨a1,a2,a3⟩:=Kn l t (c:=0) af;have hq1:1<=q:=by
     rcases ye 0 q with g|g
     ·exact g
     ·have:q=0:=ae
      subst this;rw[qp]at O;omega
    rw[wu (q-1) ae ae];refine Cs v9 p h n d o1 N s v k j w m e i U E Y u F I C hr K P J z f (q-1) _ _ ae ae ae a1 ae ?_ ?_
    ·rw[qj,zy,a3];omega
    ·have W:q*v.getD (k+1) 0+r=e.getD (k+2) 0*18446744073709551616+e.getD (k+1) 0:=ae
     have:=Ui (B:=Ao) (u0:=e.getD (k+2) 0) (u1:=e.getD (k+1) 0) (u2:=e.getD k 0) Z L x h0 (v1:=v.getD (k+1) 0) (v2:=v.getD k 0) (r:=r) W O;rw[<-hW, <-hV]at this;rw[show q-1+1=q by omega];exact this
   refine zx (fun M=>exit ?_) (fun M=>zx (fun A=>zd (by simp;omega)<|zd S<|zx (fun H=>exit ?_)<|fun H=>zd (by simp;omega)<|zd (Ab (Ab (Ab l t) rfl) rfl)<|D ?_) (fun A=>zd (by simp;omega)<|zd (Ab (Ab (Ab l t) rfl) rfl)<|D ?_))
   ·have M:=w6 M;omega
   ·have A:Qo q (v.getD k 0)=r:=by simpa using A
    have H:=w6 H;omega
   ·have A:Qo q (v.getD k 0)=r:=by simpa using A
    have H:=w7 H;omega
   ·have M:=w7 M;have A:Qo q (v.getD k 0)≠r:=by simpa using A
    omega
  ·have c:o≠0:=by simpa using c
   refine exit ?_;have a:=zh (show v.getD k 0<=18446744073709551615 by omega) h0;omega
theorem BR[Srt](s:Int)(v:List Int)(k e:Nat)(F:v.length=k+2)(hla:e<=9000)(Y:k+2<=e)(y:Aw Ao v)(C:1<=v.getD (k+1) 0)(R:Int)
  (hq:∀u f:List Int,u.length=e+1->Aw Ao u->Aw Ao f->ze Ao u<ze Ao v->f.length=e-(k+2)+1->R=ze Ao u+ze Ao v*ze Ao f->Ends JJ (L6 s (e+1) ((k+2:Nat):Int) (e-(k+2)+1) ((k+2:Nat):Int) 0 f u) Q):
  ∀(t:Nat) (u f:List Int),t+f.length=e-(k+2)+1->u.length=e+1->Aw Ao u->Aw Ao f->ze Ao (u.drop t)<ze Ao v->R=ze Ao u+ze Ao v*((Ao:Int)^t*ze Ao f)->
   Ends JJ (L4 s v (e+1) ((k+2:Nat):Int) (e-(k+2)+1) ((t:Int)-1) (zj t 0++f) u) Q
 |0,u,f,hl,hu,P,D,E,T=>by
  refine zw (CN ..) (yt (by simp) ?_);exact hq u f hu P D E ae (by rw[T,yi,zy])
 |j+1,u,f,hl,hu,P,D,E,T=>by
  obtain⟨m,r,rfl,g⟩:∃m r:List Int,u=m++r/\m.length=j:=⟨u.take j,u.drop j,(ql j u).symm,by rw[yg];omega⟩;have H:Aw Ao m:=fun d h=>P d<|jc.2<|.inl h
  have a:Aw Ao r:=fun d h=>P d<|jc.2<|.inr h
  have N:r.length=e+1-j:=by rw[List.length_append]at hu;omega
  have n:∀z:List Int,(m++z).drop j=z:=fun z=>by rw[<-g];exact List.drop_left
  have Z:r=r.getD 0 0::r.drop 1:=by
   have:=Cm (l:=r) (i:=0) ae;rw[List.drop_zero]at this;exact this
  have U:(m++r).drop (j+1)=r.drop 1:=by rw[Nat.add_comm j 1,Nat.add_comm 1 j, <-List.drop_drop,n]
  rw[U]at E;have g0:=Pj (b:=Ao) af a 0;have hvr:ze Ao r=r.getD 0 0+18446744073709551616*ze Ao (r.drop 1):=by
   conv=>lhs;rw[Z]
   rfl
  have I:=Br (b:=Ao) af y;rw[F]at I;have g0:0<=r.getD 0 0/\r.getD 0 0<18446744073709551616:=g0;have hrV:ze Ao r<18446744073709551616*ze Ao v:=by rw[hvr];omega
  have O:ze Ao (r.drop<|k+3)=0:=by
   refine Jk (b:=Ao) af a ae ?_;have ep:(Ao:Int)^(k+3)=(Ao:Int)^(k+2)*18446744073709551616:=zt ..;rw[ep];omega
  have M:=AU a<|k+2;have p:=AU a<|k+1;have V:=AU a k;have o:=AU y<|k+1;have gu0:=qd M;have X:=qd p;have gu2:=qd V;have gv1:=qd o;have S:=qd<|AU y k;have hP:=Be (b:=Ao) af k;have hW:=nU Ao r k ae O;have hV:=mU Ao v k F;have hu':=AD (b:=Ao) af<|AL a k;have w:=Br (b:=Ao) af<|AL a k;have hv':=AD (b:=Ao) af<|AL y k;rw[yg,yv ae]at w;have hle:r.getD (k+2) 0<=v.getD (k+1) 0:=by
   have a1:=Co Ao (r.drop 1) (k+1) (by rw[List.length_drop];omega);have a2:(r.drop 1).drop (k+1)=r.getD (k+2) 0::r.drop (k+3):=by
    rw[List.drop_drop,show 1+(k+1)=k+2 by omega];exact Cm ae
   have a3:ze Ao (r.getD (k+2) 0::r.drop (k+3))=r.getD (k+2) 0:=by
    show r.getD (k+2) 0+(Ao:Int)*ze Ao (r.drop<|k+3)=_;rw[O];omega
   rw[a2,a3]at a1;have W:ze Ao v=ze Ao (v.take<|k+1)+(Ao:Int)^(k+1)*v.getD (k+1) 0:=by
    rw[<-AF,zu ae]
   have L:=Br (b:=Ao) af<|AL y<|k+1;rw[yg,yv ae]at L;have c1:=AD (b:=Ao) af<|AL (Em a 1)<|k+1;have c2:(Ao:Int)^(k+1)*r.getD (k+2) 0<(Ao:Int)^(k+1)*(v.getD (k+1) 0+1):=by
    rw[zm,yx];omega
   have:=yo c2 (zo<|Be af<|k+1);omega
  have A:∀(q:Int) (B:List Int),B.length=e+1-j->Aw Ao B->(0<=q/\q<18446744073709551616)->ze Ao B<ze Ao v->ze Ao B=ze Ao r-q*ze Ao v->Ends JJ (L4 s v (e+1) ((k+2:Nat):Int) (e-(k+2)+1) (zc .i64<|(j:Int)-1) ((zj (j+1) 0++f).set j q)<|m++B) Q:=by
   intro q B h1 h2 h3 h4 h5;have es:(zj (j+1) (0:Int)++f).set j q=zj j 0++(q::f):=by
    rw[qn,yd];exact Da _ _ _ _ (by simp)
   rw[es,wr ((j:Int)-1) ae ae];refine BR s v k e F hla Y y C R hq j (m++B) (q::f) (by simp;omega) (by simp;omega) (Gr H h2) (fun d h=>?_) (by rw[n];exact h4) ?_
   ·rcases qm.1 h with rfl|h
    ·exact h3
    ·exact D d h
   ·rw[T,CP,CP,g,h5,Kt];show ze Ao m+(Ao:Int)^j*ze Ao r+ze Ao v*((Ao:Int)^j*(18446744073709551616*ze Ao f))=ze Ao m+(Ao:Int)^j*(ze Ao r-q*ze Ao v)+ze Ao v*((Ao:Int)^j*(q+18446744073709551616*ze Ao f));have x1:ze Ao v*((Ao:Int)^j*q)=(Ao:Int)^j*(q*ze Ao v):=by
     rw[yh,zq (ze Ao v) q]
    rw[yq,zm ((Ao:Int)^j) q,zm<|ze Ao v,x1];omega
  have ez:yc 0 j=j:=Nat.zero_add j;have e0:(((j+1:Nat):Int)-1)=(j:Int):=ae
  have e1:zc .i64 (zc .i64 ((j:Int)+((k+2:Nat):Int))+1)=((j+(k+3):Nat):Int):=by
   rw[wr ((j:Int)+((k+2:Nat):Int)) ae ae,wr _ ae ae];omega
  have e2:zc .i64 (((k+2:Nat):Int)-1)=((k+1:Nat):Int):=by rw[wr _ ae ae];omega
  have e3:Nat.sub (j+(k+3)) j=k+3:=by show j+(k+3)-j=_;omega
  have K:decide (yc (k+2) j<(m++r).length)=true:=lw g ae;have G:decide (yc (k+1) j<(m++r).length)=true:=lw g ae;rw[e0];refine zw (CN ..) (zd (by simp) ?_);rw[F,e1,e2,zf,zf,zf,zf,ez,e3,gw g,gw g];have W:(decide ((0:Int)<=((k+2:Nat):Int))&&decide (((k+2:Nat):Int)<((k+3:Nat):Int)))=true:=by simp;omega
  have L:(decide ((0:Int)<=((k+1:Nat):Int))&&decide (((k+1:Nat):Int)<((k+2:Nat):Int)))=true:=by simp;omega
  have b3:(decide ((0:Int)<=((k+1:Nat):Int))&&decide (((k+1:Nat):Int)<((k+3:Nat):Int)))=true:=by simp;omega
  have J:j<(zj (j+1) (0:Int)++f).length:=by simp;omega
  refine zd (by simp;omega)<|zd W<|zd K<|zd L<|zx (fun c=>?_)<|fun c=>?_
  ·have c:=w6 c;obtain⟨a1,a2,a3⟩:=Kn p o (c:=0) af;refine zd b3<|zd G<|zd L<|zd (Ab (Ab (Ab p o) rfl) rfl) ?_;refine Cs s v (e+1) _ _ _ _ _ v k j m (e+1-j) r _ F ae ae g ae J y N a O C A 18446744073709551616 _ _ _ af af af a1 ae ?_ ?_
   ·rw[a3];omega
   ·exact hrV
  ·have c:=w7 c;obtain⟨d1,d2,d3,d4,d5⟩:=dqr (r:=r.getD (k+2) 0) (x:=r.getD (k+1) 0) (d:=v.getD (k+1) 0) ae ae X;refine zd W (zd K<|zd b3<|zd G<|zd L<|zd (Ab (Ab (Ab M p) o)<|w4 ae) ?_);refine Cs s v (e+1) _ _ _ _ _ v k j m (e+1-j) r _ F ae ae g ae J y N a O C A 18446744073709551616 _ _ _ d2 d3 d3 (CA d4 ae) (.inl rfl) ?_ ?_
   ·rw[<-d1];omega
   ·rw[hW,hV];exact MO hP af d2 hv' S.1 w gu2.2 d1 d5
end T158
theorem UQ{a b:Int}{s:Nat}(e:0<=a)(d:0<=b)(h:b<2^s)(c:a*2^s+b<18446744073709551616):Zu .u64 b (a*2^s)=a*2^s+b:=by
 have:=YR e d h c;rw[<-this];show zc .u64 (((yj 64 b|||yj 64 (a*2^s)).toNat:Nat):Int)=zc .u64 (((yj 64 (a*2^s)|||yj 64 b).toNat:Nat):Int);rw[BitVec.or_comm]
theorem XQ{s:Nat}(a:s<=63):(18446744073709551616:Int)=2^s*2^(64-s):=by rw[<-Int.pow_add,show s+(64-s)=64 by omega];rfl
namespace T158
theorem EB[Srt](s:Nat)(T:s<=63)(a n m:Nat)(hn:n<=a)(M:a<=9000)(u j:List Int)(hu:u.length=a+1)(J:Aw Ao u)(O:ze Ao (u.drop n)=0)(W:j.length=m)(D:m<=9000)(t:Aw Ao j)
  (R:∀(w:List Int) ob,Aw Ao w->ze Ao w=ze Ao u/2^s->Q (.tup [.dat CZ<|Ax j,.dat CZ<|Ax w]) ob):
  ∀(k i:Nat) (p:List Int),i+k=n->p.length=i->Aw Ao p->ze Ao p+(Ao:Int)^i*(ze Ao (u.drop i)/2^s)=ze Ao u/2^s->
   Ends JJ (L6 s (a+1) n m n i j<|p++u.drop i) Q
 |0,i,p,N,g,e,C=>by
  have N:i=n:=ae
  subst N;have ht:(p++u.drop i).take i=p:=by rw[<-g];exact List.take_left
  have H:j.take m=j:=zu ae;rw[O,Int.zero_ediv,yu,qk]at C;refine zw (Gu ..) (yt (by simp) ?_);rw[zf,ht,H];refine zd (by simp;omega) (zd (Ab (by simp;omega)<|Eb ae t)<|zd (Ab (by simp;omega)<|Eb ae e)<|yf<|R p _ e C)
 |k+1,i,p,N,g,e,C=>by
  have K:=Cm (l:=u) (i:=i) ae;have P:=Cm (l:=u) (i:=i+1) ae;have S:=qd<|AU J i;have Z:=qd<|AU J<|i+1;have g1:(p++u.drop i).getD i 0=u.getD i 0:=by rw[K];exact EC _ _ _ _ g
  have s1:∀z,(p++u.drop i).set i z=p++z::u.drop (i+1):=fun z=>by rw[K];exact Da _ _ _ _ g
  have s2:∀z x,(p++z::u.drop (i+1)).set i x=(p++[x])++u.drop (i+1):=fun z x=>by rw[Da _ _ _ _ g,yd];rfl
  have Y:∀z,(p++z::u.drop (i+1)).getD i 0=z:=fun z=>EC _ _ _ _ g
  have g3:∀z,(p++z::u.drop (i+1)).getD (i+1) 0=u.getD (i+1) 0:=fun z=>by
   rw[P,show p++z::u.getD (i+1) 0::u.drop (i+1+1)=(p++[z])++u.getD (i+1) 0::u.drop (i+1+1)by rw[yd];rfl];exact EC _ _ _ _ (by simp[g])
  have r:∀z,(p++z::u.drop (i+1)).length=a+1:=fun z=>by simp;omega
  have o:(p++u.drop i).length=a+1:=by simp;omega
  have e2:=wn (i:=i) ae;have e3:zc .i64 ((64:Int)-(s:Int))=((64-s:Nat):Int):=by rw[wr _ ae ae];omega
  have V:qo s 64=s:=ae
  have E:qo (64-s) 64=64-s:=ae
  have B:=XQ T;have q:(0:Int)<2^s:=yy af;have f:(0:Int)<2^(64-s):=yy af;have L:qx (u.getD i 0) ((2:Int)^s)=u.getD i 0/2^s:=yz _<|zo q;have a0:0<=u.getD i 0/2^s:=qh S.1<|zo q;have a1:u.getD i 0/2^s<2^(64-s):=yw q (by rw[zq, <-B];exact S.2);have U:=yp (u.getD (i+1) 0) (show(2:Int)^s≠0 by omega);have m1:=yk (u.getD (i+1) 0) q;have p0:0<=(u.getD (i+1) 0 % 2^s)*2^(64-s):=zz U<|zo f;have p1:(u.getD (i+1) 0 % 2^s)*2^(64-s)<=18446744073709551616-2^(64-s):=by
   have:=zg (show u.getD (i+1) 0 % 2^s<=2^s-1 by omega)<|zo f;rw[qj,zy, <-B]at this;exact this
  have h:0<=u.getD i 0/2^s+(u.getD (i+1) 0 % 2^s)*2^(64-s)/\u.getD i 0/2^s+(u.getD (i+1) 0 % 2^s)*2^(64-s)<18446744073709551616:=ae
  have F:zc .u64 (u.getD (i+1) 0*2^(64-s))=(u.getD (i+1) 0 % 2^s)*2^(64-s):=by
   rw[KZ];exact(Up (b:=18446744073709551616) (c:=2^(64-s)) (d:=2^s) (k:=0) f q (by rw[B,zq]) ⟨qw _,f⟩ Z).1
  have I:Zu .u64 (u.getD i 0/2^s) ((u.getD (i+1) 0 % 2^s)*2^(64-s))=u.getD i 0/2^s+(u.getD (i+1) 0 % 2^s)*2^(64-s):=by
   rw[UQ U a0 a1 ae,Int.add_comm]
  have next:∀z,z=u.getD i 0/2^s+(u.getD (i+1) 0 % 2^s)*2^(64-s)->Ends JJ (L6 s (a+1) n m n ((i+1:Nat):Int) j<|(p++[z])++u.drop (i+1)) Q:=by
   intro z v;refine EB s T a n m hn M u j hu J O W D t R k (i+1) (p++[z]) ae (by simp[g]) (DR e<|by rw[v];exact CA h.1 h.2) ?_;rw[<-C,EF,g,Kt,qe, <-zm];congr 2;have:=fN (b:=18446744073709551616) (c:=2^s) (d:=2^(64-s)) (x:=u.getD i 0) (y:=u.getD (i+1) 0) (X:=ze Ao<|u.drop<|i+1+1) q B;rw[v,K,P];exact this.symm
  have A:(decide ((0:Int)<=(i:Int))&&decide ((i:Int)<((a+1:Nat):Int)))=true:=by simp;omega
  have b2:(decide ((0:Int)<=((i+1:Nat):Int))&&decide (((i+1:Nat):Int)<((a+1:Nat):Int)))=true:=by simp;omega
  refine zw (Gu ..) (zd (by simp;omega) ?_);rw[e2,e3,zf,zf,zf,zf,V,E,g1,L,s1,Y,g3,s2,F,I,r,o];refine zd A (zd (w4 ae)<|zd (by simp)<|zd A<|zd (w4 ae)<|zx (fun c=>zd (by simp;omega)<|zd A<|zd (w4 ae)<|zd b2<|zd (w4 ae)<|zd (by simp)<|zd A<|zd (w4 ae)<|next _ rfl)<|fun c=>?_);have c:=w7 c;have G:s=0:=ae
  subst G;rw[show ∀z:Int,p++z::u.drop (i+1)=(p++[z])++u.drop (i+1)from fun z=>by rw[yd];rfl];refine next _ ?_;rw[yi,Int.emod_one,qp,qk]
theorem Su{X:AR}{F:Int->List Int->Tr}(w:List Int)(s:Nat)(t:s<=63)(A:Aw Ao w)
  (DN:∀(i:Nat) (o:List Int),i<w.length->o.length=w.length+1->Ends X (F ((i+1:Nat):Int)<|if 0<s then(o.set i<|Zu .u64 (o.getD i 0)<|zc .u64<|w.getD i 0*2^s).set (i+1) (qx (w.getD i 0)<|2^(64-s))else o.set i<|Zu .u64 (o.getD i 0)<|zc .u64<|w.getD i 0*2^s) Q->Ends X (F i o) Q)
  (a:∀o:List Int,o.length=w.length+1->Aw Ao o->ze Ao o=2^s*ze Ao w->Ends X (F w.length o) Q):
  ∀(k i:Nat) (p:List Int) (c:Int),i+k=w.length->p.length=i->Aw Ao p->(0<=c/\c<2^s)->ze Ao p+(Ao:Int)^i*c=2^s*ze Ao (w.take i)->Ends X (F i (p++c::zj k 0)) Q
 |0,i,p,c,v,e,f,h,j=>by
  have v:i=w.length:=ae
  subst v;have G:(2:Int)^s<=18446744073709551616:=by
   have:=XQ t;have E:(1:Int)<=2^(64-s):=yy af;have H:=zh E (show(0:Int)<=2^s from zo<|yy af);omega
  rw[List.take_length]at j;refine a _ (by simp[e]) (DR f<|CA h.1 ae) ?_;rw[<-j];show ze Ao (p++[c])=_;rw[EF,e]
 |k+1,i,p,c,v,e,f,h,j=>by
  have r:=qd<|AU A i;have B:=XQ t;have m:(0:Int)<2^s:=yy af;have g:(0:Int)<2^(64-s):=yy af;obtain⟨s1,s2,s3,s4,s5,s6⟩:=Up (b:=18446744073709551616) (c:=2^s) (d:=2^(64-s)) (x:=w.getD i 0) (k:=c) m g B h r;have u:qx (w.getD i 0) ((2:Int)^(64-s))=w.getD i 0/2^(64-s):=yz _<|zo g;have D:(p++c::zj (k+1) 0).getD i 0=c:=EC _ _ _ _ e;have st:∀z:Int,(p++c::zj (k+1) 0).set i z=p++z::zj (k+1) 0:=fun z=>Da _ _ _ _ e
  have l:∀z y:Int,(p++z::zj (k+1) 0).set (i+1) y=(p++[z])++y::zj k 0:=fun z y=>by
   rw[show p++z::zj (k+1) (0:Int)=(p++[z])++0::zj k 0 by rw[yd];rfl];exact Da _ _ _ _ (by simp[e])
  have q:Zu .u64 c ((w.getD i 0 % 2^(64-s))*2^s)=(w.getD i 0 % 2^(64-s))*2^s+c:=UQ (yp _ ae) h.1 h.2 s2;have go:=Su w s t A DN a k (i+1) (p++[(w.getD i 0 % 2^(64-s))*2^s+c]) (w.getD i 0/2^(64-s)) ae (by simp[e]) (DR f<|CA ae s2) ⟨s4,s5⟩ (by
   rw[EF,e,Kt,AF,zm<|2^s, <-j,qe,qe, <-zm,yh<|2^s, <-zm];congr 2;rw[zq<|2^s];omega)
  refine DN i _ ae (by simp;omega) ?_;rw[KZ,s1,u,D,q,st,l];by_cases h0:0<s
  ·rw[wd h0];exact go
  ·have n:s=0:=ae
   subst n;have C:w.getD i 0/2^(64-0)=0:=q9 r.1 r.2;rw[C]at go;rw[wc h0,show ∀z:Int,p++z::zj (k+1) (0:Int)=(p++[z])++0::zj k 0 from fun z=>by rw[yd];rfl];exact go
end T158
theorem oO[Srt]:Dn JJ:=
 Aa T206.ok (Aa T227.ok<|Aa T201.ok<|Aa T255.ok<|Aa T256.ok<|Aa iJ<|Aa T228.ok AP)
theorem Kf{w:List Int}(c:Aw Ao w)(a:Sp.nz w){k:Nat}(b:w.length=k+1):0<w.getD k 0/\w.getD k 0<18446744073709551616:=by
 have g:=qd<|AU c k;refine⟨?_,g.2⟩;have e:w.getLast?=some (w.getD k 0):=by
  rw[List.getLast?_eq_getElem?,b,qt,zr,yr ae];rfl
 unfold Sp.nz at a;rw[e]at a;have:w.getD k 0≠0:=fun h=>a (by rw[h])
 omega
namespace T158
set_option maxHeartbeats 1000000 in
theorem ok[Srt]:Af A9 158 Ga:=by
 refine BM oO<|fun(i:List Int×List Int) C=>?_;obtain⟨a,b⟩:=i;have C:(B3 a&&B3 b&&decide (a.length<=9000)&&decide (b.length<=9000)&&decide (0<Aq b))=true:=C;rw[zn,zn,zn,zn,w5,w5,w5]at C;obtain⟨⟨⟨⟨na,nb⟩,la9⟩,lb9⟩,n⟩:=C;obtain⟨_,da,za⟩:=EM na;obtain⟨_,db,zb⟩:=EM nb;have n:0<ze Ao b:=n;have M:=AD (b:=Ao) af da;have hg:∀q r ob,q=BD (Aq a/Aq b)->r=BD (Aq a % Aq b)->Ad Ga (a,b) (PV.tup [PV.dat CZ q,PV.dat CZ r]) ob:=fun q r ob R L=>je rfl rfl (Prod.ext R L)
 have fin:∀(q r:List Int) ob,Aw Ao q->Aw Ao r->ze Ao a=ze Ao q*ze Ao b+ze Ao r->ze Ao r<ze Ao b->Ad Ga (a,b) (PV.tup [PV.dat CZ<|Ax q,PV.dat CZ<|Ax r]) ob:=by
  intro q r ob dq dr N hr;have hr0:=AD (b:=Ao) af dr;obtain⟨u1,u2⟩:=(qc (a:=ze Ao a) (b:=ze Ao b) (r:=ze Ao r) (q:=ze Ao q) n).2 ⟨by rw[zq<|ze Ao b];omega,hr0,hr⟩;refine hg _ _ ob ?_ ?_
  ·rw[KT dq];show BD (ze Ao q)=BD (ze Ao a/ze Ao b);rw[u1]
  ·rw[KT dr];show BD (ze Ao r)=BD (ze Ao a % ze Ao b);rw[u2]
 have m:b≠[]:=by rintro rfl;simp[ze]at n
 have S:b.length≠0:=fun h=>m<|qy.1 h
 refine qq (Ai a b) (zd (by rw[na,nb];rfl)<|zx (fun c=>?_)<|fun c=>?_)
 ·have c:=w6 c;have p:ze Ao a<ze Ao b:=by
   unfold B6 at c;have c:(if ze Ao a<ze Ao b then(-1:Int)else if ze Ao a>ze Ao b then 1 else 0)<0:=c;split at c
   ·assumption
   ·split at c<;>omega
  refine yf<|je rfl rfl ?_;show([],a)=(BD<|ze Ao a/ze Ao b,BD<|ze Ao a % ze Ao b);rw[q9 M p,Int.emod_eq_of_lt M p];exact Prod.ext rfl (Iw af da za)
 ·have c:=w7 c;have hge:ze Ao b<=ze Ao a:=by
   rcases ye (ze Ao a) (ze Ao b)with g|g
   ·have:B6 (Aq a) (Aq b)= -1:=wd g;omega
   ·exact g
  have hll:b.length<=a.length:=by
   rcases Nat.lt_or_ge a.length b.length with g|g
   ·have:=En (b:=Ao) af da db zb g;omega
   ·exact g
  refine zx (fun A=>?_)<|fun A=>?_
  ·have A:b.length=1:=by
    have:(b.length:Int)=1:=by simpa using A
    omega
   obtain⟨d,rfl⟩:=List.length_eq_one_iff.1 A;have hd:0<d/\d<18446744073709551616:=Kf (k:=0) db zb rfl;have R:zc .i64 ((a.length:Int)-1)=(a.length:Int)-1:=wr _ ae ae;rw[R,zf];refine zd (by simp;omega) ?_;have:=As (Q:=Ad Ga (a,[d])) a d da hd ae (fun q r ob dq dr N=>by
    refine fin q [r] ob dq (fun x j=>by rw[List.mem_singleton]at j;subst j;exact⟨dr.1,by show x<18446744073709551616;omega⟩) ?_ ?_
    ·rw[val_one,val_one];exact N
    ·rw[val_one,val_one];exact dr.2) a.length [] 0 (by simp) (fun x j=>by cases j) ⟨qw _,hd.1⟩ (by rw[List.drop_length];simp[ze])
   rw[List.append_nil]at this;exact this
  ·have A:b.length≠1:=by
    have:(b.length:Int)≠1:=by simpa using A
    omega
   obtain⟨k,y⟩:∃k,b.length=k+2:=⟨b.length-2,by omega⟩;obtain⟨y0,y1⟩:=Kf (k:=k+1) db zb y;obtain⟨s,hs,hs63,p,_⟩:=Tx y0 y1;have hB:=XQ hs63;have f:(0:Int)<2^s:=yy af;have h2d:(0:Int)<2^(64-s):=yy af;have hyd:b.getD (k+1) 0<2^(64-s):=by
    rw[hB,zq<|b.getD (k+1) 0]at p;exact yo p<|zo f
   have W:(Ao:Int)^(k+1)<=2^s*ze Ao b:=by
    have a1:=C6 (b:=Ao) af db zb m;rw[y,show k+2-1=k+1 by omega]at a1;have a2:=zg (show(1:Int)<=2^s by omega)<|zo n;omega
   have Y:2^s*ze Ao b<(Ao:Int)^(k+2):=by
    have B:ze Ao b=ze Ao (b.take<|k+1)+(Ao:Int)^(k+1)*b.getD (k+1) 0:=by
     rw[<-AF,zu ae]
    have b2:=Br (b:=Ao) af<|AL db<|k+1;rw[yg,yv ae]at b2;have hp:=Be (b:=Ao) af<|k+1;have b3:ze Ao b<(Ao:Int)^(k+1)*2^(64-s):=by
     have:=zh (show b.getD (k+1) 0+1<=2^(64-s)by omega)<|zo hp;rw[zm,yx]at this;omega
    have b4:=qu b3 f;have b5:(2:Int)^s*((Ao:Int)^(k+1)*2^(64-s))=(Ao:Int)^(k+2):=by
     rw[yh, <-hB];exact(zt ..).symm
    rw[b5]at b4;exact b4
   have hls:∀o:List Int,Aw Ao o->ze Ao o=2^s*ze Ao b->Aw Ao (Ax o)/\(Ax o).length=k+2/\ze Ao (Ax o)=2^s*ze Ao b/\1<=(Ax o).getD (k+1) 0:=by
    intro o X hv;have v:=Hl X;have z:ze Ao (Ax o)=2^s*ze Ao b:=by rw[Jc,hv]
    have I:=lO (b:=Ao) af v (Lm o) (k:=k+1) (by rw[z];exact W) (by rw[z];exact Y);have:=(Kf v (Lm o) I).1;exact⟨v,I,z,by omega⟩
   have L:zc .i64 (((k+2:Nat):Int)-1)=((k+1:Nat):Int):=by rw[wr _ ae ae];omega
   have e3:zc .i64 (((k+2:Nat):Int)+1)=((k+3:Nat):Int):=by rw[wr _ ae ae];omega
   have e4:zc .i64 ((a.length:Int)+1)=((a.length+1:Nat):Int):=by rw[wr _ ae ae];omega
   have e5:zc .i64 ((a.length:Int)-((k+2:Nat):Int))=((a.length-(k+2):Nat):Int):=by rw[wr _ ae ae];omega
   have e6:zc .i64 (((a.length-(k+2):Nat):Int)+1)=((a.length-(k+2)+1:Nat):Int):=by rw[wr _ ae ae];omega
   have e7:zc .i64 ((64:Int)-(s:Int))=((64-s:Nat):Int):=by rw[wr _ ae ae];omega
   have em:qo s 64=s:=ae
   have J:qo (64-s) 64=64-s:=ae
   rw[y,L,e3,zf,zf,hs];refine zd (by simp;omega) (zd (CA ae y1) (zd (by simp;omega) ?_));refine Su (F:=fun i o=>L2 a b s (k+3) b ((k+2:Nat):Int) i o) b s hs63 db (fun i o C X h=>?_) (fun o hol H U=>?_) (k+2) 0 [] 0 ae rfl (fun x j=>by cases j) ⟨qw _,f⟩ (by simp[ze])
   ·have T:=wn (i:=i) ae;have B:(decide ((0:Int)<=(i:Int))&&decide ((i:Int)<((k+3:Nat):Int)))=true:=by simp;omega
    refine zw (AO ..) (zd (by simp;omega) ?_);rw[T,e7,zf,zf,zf,zf,em,J];refine zd (by simp;omega) (zd B<|zd (w4 ae)<|zd (by simp)<|zd B<|zd (w4 ae)<|zx (fun c=>zd (by simp)<|zd (by simp;omega)<|zd (by simp;omega) ?_)<|fun c=>?_)
    ·have c:=w6 c;rw[wd ae]at h;exact h
    ·have c:=w7 c;rw[wc ae]at h;exact h
   obtain⟨vd,vl,O,v1⟩:=hls o H U;have eo:o.take (k+3)=o:=zu ae;rw[y];refine zw (AO ..) (yt (by simp) ?_);rw[eo,e4,zf,y,L,zf,hs];refine zd (Ab (by simp;omega)<|Eb ae H) (zd (by simp;omega) ?_);refine Su (F:=fun i o'=>L3 a b s (k+3) b ((k+2:Nat):Int) ((k+2:Nat):Int) o s (a.length+1) a a.length i o' o) a s hs63 da (fun i o' C X h=>?_) (fun u hul D huv=>?_) a.length 0 [] 0 ae rfl (fun x j=>by cases j) ⟨qw _,f⟩ (by simp[ze])
   ·have T:=wn (i:=i) ae;have B:(decide ((0:Int)<=(i:Int))&&decide ((i:Int)<((a.length+1:Nat):Int)))=true:=by simp;omega
    refine zw (Cr ..) (zd (by simp;omega) ?_);rw[T,e7,zf,zf,zf,zf,em,J];refine zd (by simp;omega) (zd B<|zd (w4 ae)<|zd (by simp)<|zd B (zd (w4 ae)<|zx (fun c=>zd (by simp)<|zd (by simp;omega)<|zd (by simp;omega) ?_)<|fun c=>?_))
    ·have c:=w6 c;rw[wd ae]at h;exact h
    ·have c:=w7 c;rw[wc ae]at h;exact h
   refine zw (Cr ..) (yt (by simp) ?_);rw[eo,vl,e5,e6,zf,y,L,zf,hs];refine zd (by simp;omega) ?_;have K:=Be (b:=Ao) af<|a.length-(k+2)+1;have start:ze Ao (u.drop<|a.length-(k+2)+1)<ze Ao (Ax o):=by
    have a1:=Co Ao u (a.length-(k+2)+1) ae;have a2:=AD (b:=Ao) af<|AL D<|a.length-(k+2)+1;have a3:=Br (b:=Ao) af da;have a4:=qu a3 f;have a5:(Ao:Int)^a.length=(Ao:Int)^(a.length-(k+2)+1)*(Ao:Int)^(k+1):=by rw[<-Int.pow_add];congr 1;omega
    have a6:=C6 (b:=Ao) af db zb m;rw[y,show k+2-1=k+1 by omega]at a6;have a7:=zh a6<|zo f;have a8:=zh a7<|zo K;rw[a5,yh]at a4;rw[O];refine yo (a:=(Ao:Int)^(a.length-(k+2)+1)) ?_<|zo K;omega
   have go:=BR (Q:=Ad Ga (a,b)) s (Ax o) k a.length vl la9 ae vd v1 (2^s*ze Ao a) (fun u' P G t E l Z N=>by
    have hz:ze Ao (u'.drop<|k+2)=0:=Jk (b:=Ao) af t ae (by rw[O]at l;omega);refine EB s hs63 a.length (k+2) (a.length-(k+2)+1) ae la9 u' P G t hz Z ae E (fun w ob hw V=>?_) (k+2) 0 [] ae rfl (fun x j=>by cases j) (by simp[ze]);have e:ze Ao u'=2^s*(ze Ao a-ze Ao P*ze Ao b):=by
     rw[O,zp,zq<|ze Ao b]at N;rw[yq];omega
    have ew:ze Ao w=ze Ao a-ze Ao P*ze Ao b:=by
     rw[V,e];exact Int.mul_ediv_cancel_left _ ae
    refine fin P w ob E hw ae ?_;rw[O,e]at l;have:=yo l<|zo f;omega) (a.length-(k+2)+1) u [] (by simp) hul D (fun x j=>by cases j) start (by rw[huv];simp[ze])
   rw[List.append_nil,show((a.length-(k+2)+1:Nat):Int)-1=((a.length-(k+2):Nat):Int)by omega]at go;exact go
end T158
theorem QP[Srt]:Af A9 158 Ga:=T158.ok
theorem sM[Srt]:Dn XF0:=fun g sp h=>by cases h
theorem T136n.ok[Srt]:Af A9 136 Uz:=by
 refine BM sM<|fun(n:Int) _=>?_;refine qq (T136n.Ai n)<|yf<|je rfl rfl ?_;show(n,[])=(n,Ct n);rw[Fe]
theorem nI[Srt]:Dn XF1:=
 Aa T136n.ok (Aa QP<|Aa (T157.ok Gg)<|Aa (T203.ok Gg)<|Aa T212.ok<|Aa T139.ok<|Aa T199.ok AP)
theorem Wl{m D:Int}(c:0<D):(m % D=0->(-m)/D= -(m/D)/\(-m) % D=0)/\(m % D≠0->(-m)/D= -(m/D)-1/\(-m) % D=D-m % D):=by
 have e:=yb m D;have d:=yp m (show D≠0 by omega);have r1:=yk m c;refine⟨fun h=>?_,fun h=>?_⟩
 ·exact(qc (a:= -m) (b:=D) (r:=0) (q:= -(m/D)) c).2 ⟨by rw[jf];omega,by omega,by omega⟩
 ·exact(qc (a:= -m) (b:=D) (r:=D-m % D) (q:= -(m/D)-1) c).2 ⟨by rw[yq,jf,yx];omega,by omega,by omega⟩
theorem sK{m D:Int}(a:0<=m)(d:0<D):(0<=m/D/\m/D<=m)/\(0<=m % D/\m % D<=m/\m % D<D):=by
 have e:=yb m D;have b:0<=m/D:=qh a ae;have q1:m/D<=m:=Int.ediv_le_self _ a;have c:=yp m (show D≠0 by omega);have r1:=yk m d;have:=zz (show 0<=D by omega) b;exact⟨⟨b,q1⟩,c,by omega,r1⟩
theorem X4(n:Bool){v:Int}(h:0<=v):Ag (jg n v)=v:=by
 rw[Dm,Ah];split<;>omega
theorem DA{n:Int}(h:Ag n<(Ao:Int)^9000):Bd (CJ n)=true:=by
 have:=No h ae;unfold Bd;exact Ab this.1<|w4 this.2
theorem jW{a b:AH}(h:0<zk a+zk b):Ee a b=CJ (zk a+zk b):=by
 unfold Ee;split
 ·next c=>
  have:=EA c.2.2;rw[Bu c.1,Bu c.2.1]at h ⊢;exact(B7 ae).symm
 ·rfl
theorem Np:((1:Int),Ct (1:Int))=CJ 1:=by rw[Fe];rfl
namespace T211
theorem Q4{a b:AH}(q:Int)(h: -9223372036854775808<q/\q<9223372036854775808)(c:FJ a b=CJ q\/(-9223372036854775808<q/\FJ a b=Nb (CJ<|q+1) (1,[])/\q+1<9223372036854775808)):FJ a b=(q,[]):=by
 rcases c with c|⟨d,c,e⟩
 ·rw[c,B7 h]
 ·rw[c,B7 ae];unfold Nb CY;rw[wd ⟨rfl,by decide⟩];unfold Ee;rw[wd ⟨rfl,rfl,Et (by show _<=q+1+ -1;omega)<|by show q+1+ -1<_;omega⟩];show(q+1+ -1,[])=(q,[]);rw[show q+1+ -1=q by omega]
set_option maxHeartbeats 1000000 in
theorem ok[Srt]:Af A9 211 G6:=by
 refine BM nI<|fun(i:(Int×List Int)×(Int×List Int)) x=>?_;obtain⟨a,b⟩:=i;have x:(Bd a&&Bd b&&decide (0<zk b))=true:=x;rw[zn,zn,w5]at x;obtain⟨⟨ha,hb⟩,hD⟩:=x;obtain⟨oa,_,na,_,va,ba⟩:=words ha;obtain⟨ob,_,nb,_,vb,bb⟩:=words hb;have H:Ag (zk b)=zk b:=by rw[Ah];omega
 have E:=AK<|zk a;have e:Ag (zk a)=if zk a<0 then -zk a else zk a:=rfl
 obtain⟨⟨t,q1⟩,w,r1,r2⟩:=sK (D:=zk b) E hD;obtain⟨z1,z2⟩:=Wl (m:=Ag<|zk a) hD;have j:S6 (BD<|Ag<|zk a) (BD<|Ag<|zk b)=true:=by
  unfold S6;exact Ab (Ab (Ab (Ab na nb)<|w4<|Kj E ba)<|w4<|Kj (AK _) bb) (w4<|by rw[vb,H];exact hD)
 have fin:∀(q r:AH) v ob,MN G6.outs v ob=some (true,(q,r))->q=FJ a b->r=CJ (zk a % zk b)->Ad G6 (a,b) v ob:=fun q r v ob h I S=>je h rfl (by rw[I,S];rfl)
 have l:Ends XF1 (L1 (decide (zk a<0)) (BD<|Aq (BD<|Ag<|zk a)/Aq (BD<|Ag<|zk b)) (BD<|Aq (BD<|Ag<|zk a) % Aq (BD<|Ag<|zk b)) 0 0 b.1 b.2) (Ad G6 (a,b)):=by
  rw[va,vb,H];obtain⟨N,_,L⟩:=CT (n:=Ag (zk a)/zk b) (k:=9000) t ae ae;obtain⟨nr,_,vr⟩:=CT (n:=Ag (zk a) % zk b) (k:=9000) w ae ae;have F:Bd (CJ<|jg (decide (zk a<0))<|Ag (zk a) % zk b)=true:=DA (by rw[X4 _ w];omega);have K:Bd (CJ<|jg (decide (zk a<0))<|Ag (zk a)/zk b)=true:=DA (by rw[X4 _ t];omega);have M:Bd ((1:Int),Ct (1:Int))=true:=by rw[Np];decide
  have es:ID (CF<|jg (decide (zk a<0))<|Ag (zk a) % zk b,CD<|jg (decide (zk a<0))<|Ag (zk a) % zk b)=Ul (jg (decide (zk a<0))<|Ag (zk a) % zk b):=by
   show Ul (zk<|CJ _)=_;rw[Ci]
  refine zw (Ar ..)<|zd N<|zd nr ?_;rw[L,vr];refine zw (AO ..)<|zd (BZ F).1 ?_;rw[es];refine zx (fun c=>?_)<|fun c=>?_
  ·have c:=w6 c;have p:jg (decide (zk a<0)) (Ag (zk a) % zk b)<0:=by
    rw[Kr]at c;split at c
    ·assumption
    ·split at c<;>omega
   have f:zk a<0:=by
    rcases ye (zk a) 0 with g|g
    ·exact g
    ·rw[Dm,wc<|by simp;omega]at p;omega
   have d:Ag (zk a) % zk b≠0:=by
    rw[Dm,wd<|w4 f]at p;omega
   obtain⟨z3,z4⟩:=z2 d;refine zd rfl (zd (Ab K M)<|zd (Ab F hb)<|yf<|fin (Nb (CJ<|jg (decide (zk a<0))<|Ag (zk a)/zk b) (1,Ct 1)) (Ee (CJ<|jg (decide (zk a<0))<|Ag (zk a) % zk b) b) _ _ rfl ?_ ?_)
   ·unfold FJ;rw[wd ⟨f,d⟩,Fe,Dm,wd<|w4 f]
   ·have ev:zk a= -Ag (zk a):=by rw[e,wd f];omega
    have B:zk (CJ<|jg (decide (zk a<0))<|Ag (zk a) % zk b)= -(Ag (zk a) % zk b):=by rw[Ci,Dm,wd<|w4 f]
    have O:zk a % zk b=zk b-Ag (zk a) % zk b:=by rw[<-z4, <-ev]
    rw[jW (by rw[B];omega),B,O];congr 1;omega
  ·have c:=w7 c;have p:¬(zk a<0/\Ag (zk a) % zk b≠0):=by
    rintro⟨f,d⟩;rw[Dm,wd<|w4 f,Kr,wd ae]at c;omega
   refine yf<|fin (CJ<|jg (decide (zk a<0))<|Ag (zk a)/zk b) (CJ<|jg (decide (zk a<0))<|Ag (zk a) % zk b) _ _ rfl ?_ ?_
   ·unfold FJ;rw[wc p]
   ·congr 1;rcases ye (zk a) 0 with g|g
    ·have d:Ag (zk a) % zk b=0:=by
      rcases ye 0 (Ag (zk a) % zk b)with g2|g2
      ·exact wh ⟨g,by omega⟩ p
      ·omega
     have ev:zk a= -Ag (zk a):=by rw[e,wd g];omega
     have:=(z1 d).2;rw[<-ev]at this;rw[this,d,Dm];split<;>rfl
    ·rw[Dm,wc (by simp;omega),e,wc ae]
 refine qq (Ai a b)<|zx (fun G=>zx (fun p=>zx (fun y=>?_)<|fun y=>?_)<|fun p=>?_)<|fun G=>?_
 ·have a2:=OS G;have J:=OS p;have y:a.1≠ -9223372036854775808:=by simpa using y
  have V:=EA (n:=a.1) (by
   have:=oa;unfold Dx at this;rw[zn]at this;exact this.1)
  have T:=EA (n:=b.1) (by
   have:=ob;unfold Dx at this;rw[zn]at this;exact this.1)
  have o:=Bu a2;have s:=Bu J;rw[o]at e;rw[s]at hD r2;rw[o,s]at t q1 w r1 z1 z2;rw[o]at r2;have u:qf a.1 b.1=if a.1<0 then -(Ag a.1/b.1)else Ag a.1/b.1:=by
   rw[e];split
   ·have:=Int.neg_tdiv (-a.1) b.1;rw[Int.neg_neg]at this;rw[this,ym ae]
   ·exact ym ae
  have d:qz a.1 b.1=if a.1<0 then -(Ag a.1 % b.1)else Ag a.1 % b.1:=by
   rw[e];split
   ·have:=Int.neg_tmod (-a.1) b.1;rw[Int.neg_neg]at this;rw[this,yn ae]
   ·exact yn ae
  refine zd (w4 ae) (zd (w4 ae)<|zx (fun c=>?_)<|fun c=>?_)
  ·have c:=w6 c;rw[d]at c;have f:a.1<0:=by split at c<;>omega
   rw[wd f]at c u d;rw[wd f]at e;obtain⟨z3,z4⟩:=z2 ae;have ev:a.1= -Ag a.1:=ae
   have P:Ag a.1/b.1<9223372036854775807:=by
    rcases ye (Ag a.1/b.1) 9223372036854775807 with g|g
    ·exact g
    ·have:=yb (Ag a.1) b.1;have:=zg (show 1<=b.1 by omega) t;omega
   refine yf<|fin (zc .i64<|zc .i64 (qf a.1 b.1)-1,[]) (zc .i64<|qz a.1 b.1+b.1,[]) _ _ rfl ?_ ?_
   ·rw[u,wr (-(Ag a.1/b.1)) ae ae,wr _ ae ae];refine(Q4 _ ae<|.inr ⟨by omega,?_,by omega⟩).symm;unfold FJ;rw[o,s,wd ⟨f,by omega⟩,show -(Ag a.1/b.1)-1+1= -(Ag a.1/b.1)by omega]
   ·rw[d,wr _ ae ae];have:a.1 % b.1=b.1-Ag a.1 % b.1:=by rw[<-z4, <-ev]
    rw[o,s,this,B7 ae];congr 1;omega
  ·have c:=w7 c;rw[d]at c;refine yf<|fin (zc .i64<|qf a.1 b.1,[]) (qz a.1 b.1,[]) _ _ rfl ?_ ?_
   ·have z:FJ a b=CJ (qf a.1 b.1):=by
     unfold FJ;rw[o,s,u,wc (by rintro⟨R,U⟩;rw[wd R]at c;omega),Dm];by_cases h:a.1<0
     ·rw[wd<|w4 h,wd h]
     ·rw[wc (by simp;omega),wc h]
    have A: -9223372036854775808<qf a.1 b.1/\qf a.1 b.1<9223372036854775808:=by
     rw[u,e]at*;split<;>split at q1<;>split at t<;>omega
    rw[wr _ ae ae];exact(Q4 _ A<|.inl z).symm
   ·rw[d];by_cases h:a.1<0
    ·rw[wd h]at c ⊢;have C:Ag a.1 % b.1=0:=ae
     rw[wd h]at e;have ev:a.1= -Ag a.1:=ae
     have:=(z1 C).2;rw[<-ev]at this;rw[o,s,this,C];rfl
    ·rw[wc h]at c ⊢;rw[wc h]at e;rw[o,s,e,B7<|by rw[e]at w r1;omega]
 ·exact zd oa<|zd ob<|zd j l
 ·exact zd oa<|zd ob<|zd j l
 ·exact zd oa<|zd ob<|zd j l
end T211
theorem oM[Srt]:Dn XF2:=
 Aa T211.ok (Aa T210.ok<|Aa T199.ok AP)
theorem nZ{a:AH}(h:Dx a=true):UL a=CJ (Ag<|zk a):=by
 have m:=rT h;obtain⟨j,e⟩:=DK h;unfold UL;by_cases h0:a.1<0
 ·rw[wd h0,Ah];unfold CY;have b:=m.1 h0;split
  ·next c=>rw[Bu c.1]at b ⊢;rw[B7 ae];congr 1;omega
  ·congr 1;omega
 ·rw[wc h0];obtain⟨s,w⟩:=a;have h0:¬s<0:=h0;rcases e with e|⟨l,i,f⟩
  ·have e:w=[]:=e;subst e;have j: -9223372036854775808<=s/\s<9223372036854775808:=j;rw[E5,Ah,B7 ae];congr 1;omega
  ·obtain⟨_,d,z⟩:=EM l;have i:s=1\/s= -1:=i;have f:9223372036854775808<=Aq w:=f;have g:w≠[]:=by rintro rfl;exact wh f af
   have k:s=1:=ae
   subst k;rw[VR g,wc af,Ah];have:=RI (w:=w) false d z f;rw[wc af,wc af]at this;rw[show((Aq w).natAbs:Int)=Aq w by omega,this]
theorem gD(n:Int):ID (CF n,CD n)=Ul n:=by
 show Ul (zk<|CJ _)=_;rw[Ci]
theorem Lj(n:Int):zk (CF n,CD n)=n:=Ci n
theorem XU(m n:Int):eB (CF m,CD m) (CF n,CD n)=CF (m % n)/\dY (CF m,CD m) (CF n,CD n)=CD (m % n):=by
 constructor
 ·show CF (zk (CJ _) % zk (CJ _))=_;rw[Ci,Ci]
 ·show CD (zk (CJ _) % zk (CJ _))=_;rw[Ci,Ci]
theorem FC{n:Int}(h:Bd (CJ n)=true):Bd (CF n,CD n)=true:=h
theorem Ns{a:AH}(h:Dx a=true):OE a=CF (Ag<|zk a)/\Ph a=CD (Ag<|zk a):=by
 unfold OE Ph;rw[nZ h];exact⟨rfl,rfl⟩
theorem UK(x y:Nat):((x:Int) % (y:Int))=((x % y:Nat):Int):=rfl
theorem qY(a b:AH)(n:Int)(h:n=Sp.gI (zk a) (zk b)):(CF n,CD n)=(MV a b,MQ a b):=by subst h;rfl
namespace T143
theorem nM(n:Nat)(h:(n:Int)<(Ao:Int)^9000):Bd (CJ (n:Int))=true:=DA (by rw[Ah,Int.natAbs_natCast];exact h)
theorem As[Srt](g:Nat)(e L:Int)(b:∀n:Nat,(n:Int)<L->Bd (CJ (n:Int))=true)(d:∀ob,Q (.agg [.dat i64<|CF (g:Int),.dat (.nlist u64)<|CD (g:Int)]) ob):∀(f x y:Nat),y<f->Nat.gcd x y=g->(x:Int)<L->(y:Int)<L->
  Ends XF2 (L1 e (CF (y:Int)) (CD (y:Int)) (CF (x:Int))<|CD (x:Int)) Q
 |0,x,y,h,_,_,_=>by omega
 |f+1,x,y,m,c,k,a=>by
  have j:Bd (CJ (x:Int))=true:=b x k;have i:Bd (CJ (y:Int))=true:=b y a
  refine zw (Ar ..)<|zd (BZ<|FC i).1 ?_;rw[gD,(XU _ _).1,(XU _ _).2,Lj,UK];by_cases h0:y=0
  ·subst h0;rw[Nat.gcd_zero_right]at c;subst c;exact yt rfl (yf<|d _)
  ·have l:x % y<y:=Nat.mod_lt _ ae;refine zd ?_ (zd (Ab (Ab (FC j)<|FC i)<|w4 ae) ?_)
   ·rw[Kr,wc ae,wd ae];rfl
   ·exact As g e L b d f y (x % y) ae (by rw[Nat.gcd_comm, <-Nat.gcd_rec,Nat.gcd_comm];exact c) a ae
set_option maxRecDepth 10000 in
theorem ok[Srt]:Af A9 143 X2:=by
 refine BM oM<|fun(i:(Int×List Int)×(Int×List Int)) c=>?_;obtain⟨a,b⟩:=i;have c:(Bd a&&Bd b)=true:=c;rw[zn]at c;obtain⟨ha,hb⟩:=c;have d:=(BZ ha).1;have ob:=(BZ hb).1;have f:=bounds ha;have e:=bounds hb;rw[Ah]at f e;refine qq (Ai a b)<|zd d<|zd ob ?_;show Ends XF2 (L1 0 (OE b) (Ph b) (OE a)<|Ph a) _;rw[(Ns d).1,(Ns d).2,(Ns ob).1,(Ns ob).2,Ah,Ah];refine As (Nat.gcd (zk a).natAbs (zk b).natAbs) 0 _ nM (fun ob=>je rfl rfl (qY a b _ ?_)) ((zk b).natAbs+1) _ _ (Nat.lt_succ_self _) rfl f e;rw[Gx];rfl
end T143
theorem Aco(n:Nat)(h:n<9223372036854775808):HR .i64 (n:Int) 1=((n % 2:Nat):Int):=by
 have e:(yj 64 (n:Int)&&&yj 64 1).toNat=n % 2:=by
  rw[BitVec.toNat_and];have a:(yj 64 (n:Int)).toNat=n:=by rw[BitVec.ofInt_natCast,BitVec.toNat_ofNat];exact Nat.mod_eq_of_lt ae
  have b:(yj 64 1).toNat=2^1-1:=af
  rw[a,b,Nat.and_two_pow_sub_one_eq_mod]
 show zc .i64 (((yj 64 (n:Int)&&&yj 64 1).toNat:Nat):Int)=_;rw[e];exact wr _ ae ae
namespace T197
theorem TD{c:Int}(h:c≠0):1<=Ag c:=by rw[Ah];omega
theorem YO(c:Int):∀k:Nat,Ag (c^k)=Ag c^k
 |0=>by rw[yi,yi];rfl
 |k+1=>by rw[zt,zt,Jg,YO c k]
theorem one_le_pow{c:Int}(h:1<=c):∀k:Nat,1<=c^k
 |0=>by rw[yi];decide
 |k+1=>by
  rw[zt];have:=zg (one_le_pow h k) (show 0<=c by omega);omega
theorem Aa7{p c L:Int}{k:Nat}(n:1<L)(h:Ag (p*c^k)<L)(g:c=0->Ag p<=1)(i:c≠0->p≠0):Ag p<L/\(1<=k->Ag c<L)/\(2<=k->Ag (c*c)<L)/\(1<=k->Ag (p*c)<L):=by
 by_cases b:c=0
 ·subst b;have:=g rfl;have e:Ag 0=0:=rfl;exact⟨by omega,fun _=>by rw[e];omega,fun _=>by rw[yu,e];omega,fun _=>by rw[yu,e];omega⟩
 ·have l:=TD<|i b;have a:=TD b;rw[Jg,YO]at h;rw[Jg,Jg];generalize Ag p=P at*;generalize Ag c=C at*;have m:1<=C^k:=one_le_pow a k;have a1:P<=P*C^k:=by
   have:=zh m (show 0<=P by omega);omega
  have d:C^k<=P*C^k:=by
   have:=zg l (show 0<=C^k by omega);omega
  refine⟨by omega,fun f=>?_,fun f=>?_,fun f=>?_⟩
  ·obtain⟨j,rfl⟩:∃j,k=j+1:=⟨k-1,by omega⟩;rw[zt]at d h;have:=zg (one_le_pow a j) (show 0<=C by omega);omega
  ·obtain⟨j,rfl⟩:∃j,k=j+2:=⟨k-2,by omega⟩;have e:C^(j+2)=C^j*(C*C):=by rw[zt,zt,zp]
   rw[e]at d h;have:=zg (one_le_pow a j) (zz (show 0<=C by omega) (show 0<=C by omega));omega
  ·obtain⟨j,rfl⟩:∃j,k=j+1:=⟨k-1,by omega⟩;have e:P*C^(j+1)=C^j*(P*C):=by rw[zt,yh]
   rw[e]at h;have:=zg (one_le_pow a j) (zz (show 0<=P by omega) (show 0<=C by omega));omega
theorem Zm{p c:Int}{k j:Nat}(h:k=2*j):p*(c*c)^j=p*c^k:=by
 subst h;rw[Int.pow_mul,zt,zt,yi,zy]
theorem bR{p c:Int}{k j:Nat}(h:k=2*j+1):p*c*(c*c)^j=p*c^k:=by
 subst h;rw[zt,Int.pow_mul,show c^2=c*c by rw[zt,zt,yi,zy],zp,zq c]
theorem Abx{x:Int}(h:x<(18446744073709551616:Int)^(4000:Nat)):x<(Ao:Int)^9000:=
 Int.lt_of_lt_of_le h (AN (b:=Ao) af ae)
theorem As[Srt](o1 R:Int)(hR:Ag R<(18446744073709551616:Int)^(4000:Nat))(l:∀ob,Q (.agg [.dat i64<|CF R,.dat (.nlist u64)<|CD R]) ob):
  ∀(f k:Nat) (p:Int) (a:AH),k<f->k<=100000->(1<=k->Bd a=true)->p*zk a^k=R->(zk a=0->Ag p<=1)->(zk a≠0->p≠0)->
   Ends XF3 (L1 (k:Int) (CF p) (CD p) o1 a.1 a.2) Q
 |0,k,p,a,h,_,_,_,_,_=>by omega
 |f+1,k,p,a,D,B,y,i,u,m=>by
  have w:(1:Int)<(18446744073709551616:Int)^(4000:Nat):=Int.lt_of_lt_of_le (show(1:Int)<18446744073709551616^(1:Nat)by decide) (AN (b:=18446744073709551616) af ae);rw[<-i]at hR;obtain⟨s1,s2,s3,s4⟩:=Aa7 w hR u m;by_cases h0:k=0
  ·subst h0;rw[yi,yx]at i;subst i;exact zw (Ar ..) (yt (by simp)<|yf<|l _)
  ·have v:Bd (CF p,CD p)=true:=DA<|Abx s1;have j:Bd a=true:=y ae;have A:qx (k:Int) ((2:Int)^(1:Nat))=((k/2:Nat):Int):=by
    rw[yz _ af];rfl
   have s:(EH (CF p,CD p) a,ET (CF p,CD p) a)=CJ (p*zk a):=by
    show CJ (zk (CJ p)*zk a)=_;rw[Ci]
   have o:EH (CF p,CD p) (a.1,a.2)=CF (p*zk a):=wi Prod.fst s;have r:ET (CF p,CD p) (a.1,a.2)=CD (p*zk a):=wi Prod.snd s;have n:zk (EV a a)=zk a*zk a:=Dp a a;have t:∀q:Int,1<k->q*(zk a*zk a)^(k/2)=p*zk a^k->(zk a=0->Ag q<=1)->(zk a≠0->q≠0)->Ends XF3 (L1 ((k/2:Nat):Int) (CF q) (CD q) o1 (EH (a.1,a.2) (a.1,a.2))<|ET (a.1,a.2) (a.1,a.2)) Q:=by
    intro q e g C x;refine As o1 R (by rw[i]at hR;exact hR) l f (k/2) q (EV a a) ae ae (fun _=>DA<|Abx<|s3 ae) (by rw[n,g,i]) (fun z=>C ?_)<|fun z=>x ?_
    ·rw[n]at z;rcases Int.mul_eq_zero.1 z with z|z<;>exact z
    ·rintro z2;rw[n,z2]at z;exact z rfl
   have st:∀q:Int,k=1->q=R->Ends XF3 (L1 ((k/2:Nat):Int) (CF q) (CD q) o1 a.1 a.2) Q:=by
    intro q e g;subst e g;exact zw (Ar ..) (yt (by simp)<|yf<|l _)
   refine zw (Ar ..) (zd (w4 ae) ?_);rw[Aco k ae,A,o,r];refine zx (fun c=>?_)<|fun c=>?_
   ·have c:((k % 2:Nat):Int)=1:=by simpa using c
    refine zd (Ab v j)<|zx (fun d=>zd (Ab j j)<|zd rfl ?_)<|fun d=>zd rfl ?_
    ·have d:=w6 d;refine t _ ae (bR ae) (fun z=>by rw[z,yu];decide)<|fun z=>?_;exact Int.mul_ne_zero (m z) z
    ·have d:=w7 d;have e:k=1:=ae
     refine st _ e ?_;rw[<-i,e,zt,yi,zy]
   ·have c:((k % 2:Nat):Int)≠1:=by simpa using c
    refine zx (fun d=>zd (Ab j j)<|zd rfl ?_)<|fun d=>?_
    ·have d:=w6 d;exact t _ ae (Zm ae) u m
    ·have d:=w7 d;omega
theorem nA[Srt]:Dn XF3:=Aa T136n.ok<|Aa T135.ok AP
theorem ok[Srt]:Af A9 197 cA:=by
 refine BM nA<|fun(i:(Int×List Int)×Int) b=>?_;obtain⟨a,k⟩:=i;have b:(Bd a&&(decide (0<=k)&&decide (k<=100000)&&decide (Ag (Sp.pI (zk a) k)<(18446744073709551616:Int)^(4000:Nat))))=true:=b;rw[zn,zn,zn,w5,w5,w5,WU]at b;obtain⟨ha,⟨k0,k1⟩,hR⟩:=b;obtain⟨n,rfl⟩:=Int.eq_ofNat_of_zero_le k0;have c:Ct 1=CD 1:=by rw[Fe];rfl
 refine qq (Ai a n)<|zd rfl ?_;rw[c];refine As (Q:=Ad cA (a,(n:Int))) 0 (zk a^n) hR (fun ob=>je rfl rfl ?_) (n+1) n 1 a ae ae (fun _=>ha) (zy _) (fun _=>by decide) (fun _=>by decide);show CJ _=CJ (Sp.pI (zk a) (n:Int));rw[WU];rfl
end T197
end Go.Pe
namespace Go.Sp
theorem Pn{l:List Int}(h:JY l=true):l.length<=20000/\Aw B9 l:=by
 unfold JY at h;rw[zn,w5,List.all_eq_true]at h;exact⟨h.1,fun d a=>by
  grind⟩
theorem KY{l:List Int}(a:l.length<=20000)(b:Aw B9 l):JY l=true:=by
 unfold JY;rw[zn,w5,List.all_eq_true];exact⟨a,fun d c=>by
  have:=b d c;grind⟩
theorem vE{l:List Int}(h:hR l=true):l.length<=9000/\Aw B9 l:=by
 unfold hR at h;grind [Pn]
theorem Xt{l:List Int}(b:l.length<=9000)(a:Aw B9 l):hR l=true:=by
 unfold hR;rw[KY ae a,Bool.true_and];grind
theorem Bp{l:List Int}(h:A0 l=true):l.length<=20000/\Aw B9 l/\nz l:=by
 unfold A0 at h;rw[zn]at h;have:=Pn h.1;exact⟨this.1,this.2,by
  have:=h.2;unfold vO at this;have:l.getLast?≠some 0:=ah;exact this⟩
theorem gV{l:List Int}(b:l.length<=20000)(c:Aw B9 l)(a:nz l):A0 l=true:=by
 unfold A0 vO;rw[KY b c,Bool.true_and];exact w4 a
theorem GI{l:List Int}(h:Aw B9 l)(i:Nat):0<=l.getD i 0/\l.getD i 0<1000000000:=Pj af h i
theorem E6{l:List Int}{x:Int}(h:Aw B9 l)(a:0<=x/\x<1000000000):Aw B9 (l++[x]):=(by grind [Aw])
theorem B5(l:List Int)(x:Int):val B9 (l++[x])=val B9 l+(B9:Int)^l.length*x:=by
 grind [CP,val]
theorem Lg(i:Nat)(c:Int):(B9:Int)^(i+1)*c=(B9:Int)^i*(1000000000*c):=by
 grind
theorem FR{l:List Int}(h:Aw B9 l):Ax l=BG (Aj l):=Yp af h
theorem Ny{n:Int}{k:Nat}(_:0<=n)(h:n<(B9:Int)^k):(BG n).length<=k:=by
 refine SP B9 af k n.toNat n.toNat ?_;grind
theorem Ft{n:Int}{k:Nat}(h0:0<=n)(h:n<(B9:Int)^k)(a:k<=9000):A0 (BG n)=true/\hR (BG n)=true/\Aj (BG n)=n/\(BG n).length<=k:=by
 have d:=Ny h0 h;have c:=HQ (b:=B9) af n;grind [gV,Yc,CU,A0,BG,hR,Aj]
end Go.Sp
namespace Go.Pe
open Sp
open Go.Det
theorem RG[Srt]:Dn mL:=fun g sp h=>by cases h
namespace T239
theorem As[Srt]{Q:PV->Ob->Prop}:∀(n:Nat) (w:List Int),w.length=n->n<=20000->(∀ob,Q (.dat li<|Ax w) ob)->Ends mL (L1 w) Q
 |0,w,d,_,b=>by
  have:w=[]:=ah;subst this;exact zw (Ar ..) (yt (by simp)<|yf<|b _)
 |n+1,w,d,h,b=>by
  obtain⟨p,x,rfl⟩:∃p x,w=p++[x]:=by
   have a:w≠[]:=ah
   exact⟨w.dropLast,w.getLast a,(List.dropLast_concat_getLast a).symm⟩
  have e:p.length=n:=ah
  have f:zc .i64 (((p++[x]).length:Int)-1)=(n:Int):=by grind [wr]
  have g:(p++[x]).getD n 0=x:=ah;have t1:(p++[x]).take n=p:=ah
  refine zw (Ar ..) (zd (by simp) ?_);rw[f,zf,g,t1];refine zd ah (zx (fun c=>zd ah ?_)<|fun c=>?_)
  ·have c:x=0:=ah
   subst c;rw[Ie]at b;exact As n p e ae b
  grind [IU,Xk,yf]
theorem ok[Srt]:Af A9 239 Rv:=by
 refine BM RG<|fun(w:List Int) a=>?_;have a:w.length<=20000:=w6 a;exact qq (Ai w)<|As w.length w rfl a (fun ob=>je rfl rfl rfl)
end T239
theorem RR[Srt]:Dn aV:=Aa T239.ok AP
theorem T164.ok[Srt]:Af A9 164 GU:=by
 refine BM RR<|fun(i:Bool×List Int) hi=>?_;obtain⟨n,w⟩:=i;refine qq (T164.Ai n w)<|zd hi<|zx (fun c=>yf<|je rfl rfl ?_)<|fun c=>yf<|je rfl rfl ?_
 ·show(decide (((Ax w).length:Int)>0),Ax w)=(Cu n w,Ax w);unfold Cu;congr 1;grind [qy]
 grind [Cu,GU]
namespace T237
theorem As[Srt]{Q:PV->Ob->Prop}(a b:List Int)(g:Aw zi a)(f:Aw zi b)(k:a.length=b.length)(l:b.length<=20000)(m:∀ob,Q (.dat i64<|B6 (Aj a)<|Aj b) ob):∀(i:Nat),i<=a.length->a.drop i=b.drop i->Ends mL (L1 a b<|(i:Int)-1) Q
 |0,n,j=>by
  simp_all [B6,zw,Ar]
 |i+1,n,j=>by
  have o:(((i+1:Nat):Int)-1)=(i:Int):=ae
  have h:a.drop i=a.getD i 0::a.drop (i+1):=Cm ae;have db:b.drop i=b.getD i 0::a.drop (i+1):=by grind [Cm]
  rw[o];refine zw (Ar ..) (zd (by simp) ?_);refine zd ah (zd ah (zx (fun d=>?_)<|fun d=>zd ah<|zd ah<|zx (fun c=>?_)<|fun c=>?_))
  ·have d:=w6 d;have:=Jt (b:=zi) af g f h db d;simp_all [B6,Aj]
  ·have c:=w6 c;have:=Jt (b:=zi) af f g db h c;have e:B6 (Aj a) (Aj b)=1:=by unfold B6 Aj;omega
   simp_all
  ·rw[wr ((i:Int)-1) ae ae];exact As a b g f k l m i ae ah
theorem ok[Srt]:Af A9 237 YN:=by
 refine BM RG<|fun(i:List Int×List Int) f=>?_;obtain⟨a,b⟩:=i;have f:(A0 a&&A0 b)=true:=f;rw[zn]at f;obtain⟨a1,a2,a3⟩:=Bp f.1;obtain⟨b1,b2,b3⟩:=Bp f.2;have g:∀ob,Ad YN (a,b) (.dat i64<|B6 (Aj a)<|Aj b) ob:=fun ob=>je rfl rfl rfl
 refine qq (Ai a b)<|zx (fun c=>zx (fun d=>?_)<|fun d=>?_)<|fun c=>?_
 ·simp_all [B6,Aj,En]
 ·have d:=w7 d;have c:(a.length:Int)≠b.length:=ah
  have:=En (b:=zi) af b2 a2 a3 ae;have e:B6 (Aj a) (Aj b)=1:=by
   unfold B6 Aj;omega
  simp_all
 grind [wr,As]
end T237
theorem Z6{x y o c:Int}(b:0<=x/\x<1000000000)(d:0<=y/\y<1000000000)(f:0<=o/\o<1000000000)(g:0<=c/\c<1000000000):
  zc .i64 (zc .i64 (o+zc .i64 (x*y))+c)=o+x*y+c/\qz (o+x*y+c) 1000000000=(o+x*y+c) % 1000000000/\zc .i64 (qf (o+x*y+c) 1000000000)=(o+x*y+c)/1000000000/\
  (0<=(o+x*y+c)/1000000000/\(o+x*y+c)/1000000000<1000000000)/\(0<=(o+x*y+c) % 1000000000/\(o+x*y+c) % 1000000000<1000000000):=by
 have h0:0<=x*y:=zz b.1 d.1;have e:x*y<=999999999*999999999:=by
  have a:=zh (show y<=999999999 by omega) b.1;omega
 grind [wr]
namespace T169
theorem A1[Srt](x y:List Int)(n i:Nat)(N:i<x.length)(K:n=x.length+y.length)(g:x.length<=9000)(l:y.length<=9000)(s:Aw zi x)(o:Aw zi y)(p:List Int)(M:p.length=i+y.length)(a:Aw zi p)
  (r:∀q c,q.length=i+y.length->Aw zi q->(0<=c/\c<1000000000)->ze zi q+(zi:Int)^(i+y.length)*c=ze zi p+(zi:Int)^i*(x.getD i 0*ze zi y)->Ends aV (L1 x y n ((i+1:Nat):Int)<|(q++[c])++zj (n-(i+y.length+1)) 0) Q):∀(k j:Nat) (q:List Int) (c:Int),j+k=y.length->q.length=i+j->Aw zi q->(0<=c/\c<1000000000)->ze zi q+(zi:Int)^(i+j)*c=ze zi (p.take<|i+j)+(zi:Int)^i*(x.getD i 0*ze zi (y.take j))->
  Ends aV (L2 x y n i c j<|q++(p.drop (i+j)++zj (n-(i+y.length)) 0)) Q
 |0,j,q,c,e,b,f,m,E=>by
  have e:j=y.length:=ae
  subst e;have d:zc .i64 ((i:Int)+(y.length:Int))=((i+y.length:Nat):Int):=by rw[wr _ ae ae];omega
  have h:zc .i64 ((i:Int)+1)=((i+1:Nat):Int):=by grind [wr]
  have I:p.drop (i+y.length)=[]:=ah;have F:(q++zj (n-(i+y.length)) (0:Int)).getD (i+y.length) 0=0:=by
   have:n-(i+y.length)=(n-(i+y.length+1))+1:=ae
   simp_all
  refine zw (AO ..) (yt (by simp) ?_);rw[d,h,zf,I,List.nil_append,F,Int.zero_add,wr c ae ae,I5 q n _ c b ae];refine zd (by simp;omega) (zd (by simp;omega)<|zd (by simp;omega)<|zd (by simp;omega)<|r q c b f m ?_);grind
 |k+1,j,q,c,e,b,f,m,E=>by
  have J:=GI s i;have B:=GI o j;have v:=GI a<|i+j;have O:p.drop (i+j)=p.getD (i+j) 0::p.drop (i+j+1):=Cm ae;have d:zc .i64 ((i:Int)+(j:Int))=((i+j:Nat):Int):=by rw[wr _ ae ae];omega
  have h:=wn (i:=j) ae;have D:(q++(p.drop (i+j)++zj (n-(i+y.length)) (0:Int))).getD (i+j) 0=p.getD (i+j) 0:=by
   grind [EC]
  have s1:∀z,(q++(p.drop (i+j)++zj (n-(i+y.length)) (0:Int))).set (i+j) z=(q++[z])++(p.drop (i+(j+1))++zj (n-(i+y.length)) 0):=by
   grind [Da]
  obtain⟨t,L,C,w,u⟩:=Z6 J B v m;refine zw (AO ..) (zd ah ?_);rw[d,h,zf,zf,zf,D,t,L,C,s1];have t1:(decide ((0:Int)<=((i+j:Nat):Int))&&decide (((i+j:Nat):Int)<(n:Int)))=true:=by simp;omega
  refine zd t1 (zd ah<|zd ah<|zd (by simp;omega)<|zd rfl (zd t1<|zd ah<|zd rfl ?_));refine A1 x y n i N K g l s o p M a r k (j+1) _ _ ae (by simp;omega) (E6 f u) w ?_;have A:i+(j+1)=(i+j)+1:=ae
  have G:(zi:Int)^i*(x.getD i 0*((zi:Int)^j*y.getD j 0))=(zi:Int)^(i+j)*(x.getD i 0*y.getD j 0):=by
   grind
  have H:(p.getD (i+j) 0+x.getD i 0*y.getD j 0+c) % 1000000000+1000000000*((p.getD (i+j) 0+x.getD i 0*y.getD j 0+c)/1000000000)=x.getD i 0*y.getD j 0+p.getD (i+j) 0+c:=by
   omega
  rw[A,B5,b,Lg,qe, <-zm,H,AF _ p<|i+j,AF _ y j,zm,zm,zm<|x.getD i 0,zm,G];omega
theorem As[Srt](x y:List Int)(n:Nat)(g:n=x.length+y.length)(b:x.length<=9000)(a:y.length<=9000)(m:Aw zi x)(l:Aw zi y)(r:∀ob,Q (.dat li<|BG<|Aj x*Aj y) ob):∀(k i:Nat) (p:List Int),i+k=x.length->p.length=i+y.length->Aw zi p->ze zi p=ze zi (x.take i)*ze zi y->
  Ends aV (L1 x y n i<|p++zj (n-(i+y.length)) 0) Q
 |0,i,p,j,h,f,d=>by
  subst j;have o:Aj p=Aj x*Aj y:=by
   rw[List.take_length]at d;exact d
  refine zw (Ar ..) (yt (by simp) ?_);grind [zd,yf,FR]
 |k+1,i,p,j,h,f,d=>by
  refine zw (Ar ..) (zd ah ?_);have:=A1 (Q:=Q) x y n i ae g b a m l p h f (fun q c t e s o=>by
   have:=As x y n g b a m l r k (i+1) (q++[c]) ae ah (E6 e s) (by
    grind [B5,AF])
   grind) y.length 0 (p.take i) 0 ae ah (AL f i) af (by simp[ze])
  rw[Nat.add_zero, <-yd,ql]at this;omega
theorem ok[Srt]:Af A9 169 Xj:=by
 refine BM RR<|fun(i:List Int×List Int) a=>?_;obtain⟨x,y⟩:=i;have a:(Sp.hR x&&Sp.hR y)=true:=a;rw[zn]at a;obtain⟨x1,x2⟩:=vE a.1;obtain⟨y1,y2⟩:=vE a.2;have b:zc .i64 ((x.length:Int)+(y.length:Int))=((x.length+y.length:Nat):Int):=by grind [wr]
 refine qq (Ai x y) ?_;conv=>zeta
 rw[b,zf];refine zd (by simp;omega) ?_;have:=As (Q:=Ad Xj (x,y)) x y (x.length+y.length) rfl x1 y1 x2 y2 (fun ob=>je rfl rfl rfl) x.length 0 (zj y.length 0) ae (by simp) (fun d c=>by grind) (by grind [Mt,ze]);rw[Nat.zero_add,List.replicate_append_replicate,show y.length+(x.length+y.length-y.length)=x.length+y.length by omega]at this;omega
end T169
theorem Zb{r x d:Int}(a:0<d/\d<1000000000)(c:0<=r/\r<d)(e:0<=x/\x<1000000000):
  zc .i64 (zc .i64 (r*1000000000)+x)=r*1000000000+x/\zc .i64 (qf (r*1000000000+x) d)=(r*1000000000+x)/d/\qz (r*1000000000+x) d=(r*1000000000+x) % d/\
  (0<=(r*1000000000+x)/d/\(r*1000000000+x)/d<1000000000)/\(0<=(r*1000000000+x) % d/\(r*1000000000+x) % d<d)/\(r*1000000000+x)/d*d+(r*1000000000+x) % d=r*1000000000+x:=by
 have h:=yb (r*1000000000+x) d;rw[zq]at h;have b:0<=(r*1000000000+x)/d:=qh ae ae;have q1:(r*1000000000+x)/d<1000000000:=yw a.1 ae;refine⟨?_,?_,ah,⟨b,q1⟩,⟨yp _ ae,yk _ a.1⟩,h⟩
 ·grind [wr]
 grind [wr]
namespace T240
theorem As[Srt](a:List Int)(d:Int)(g:Aw zi a)(f:0<d/\d<1000000000)(m:a.length<=20000)(n:∀q r ob,Aw zi q->(0<=r/\r<d)->Aj a=Aj q*d+r->Q (.tup [.dat li<|Ax q,.dat i64 r]) ob):∀(i:Nat) (q:List Int) (r:Int),i+q.length=a.length->Aw zi q->(0<=r/\r<d)->ze zi (a.drop i)=ze zi q*d+r->
  Ends aV (L1 a d a.length r ((i:Int)-1)<|zj i 0++q) Q
 |0,q,r,l,b,e,j=>by
  refine zw (Ar ..) (yt (by simp) ?_);grind [zd,yf,Aj]
 |i+1,q,r,l,b,e,j=>by
  have p:(((i+1:Nat):Int)-1)=(i:Int):=ae
  have h:=GI g i;obtain⟨v,t,u,k,o,w⟩:=Zb f e h;have s:a.drop i=a.getD i 0::a.drop (i+1):=Cm ae;have es:∀x,(zj (i+1) (0:Int)++q).set i x=zj i 0++(x::q):=by
   grind [qn,Da]
  rw[p];refine zw (Ar ..) (zd (by simp) ?_);rw[zf,es,wr ((i:Int)-1) ae ae,v,t,u];refine zd ah (zd ah (zd ah (zd ah<|zd ah ?_)));refine As a d g f m n i _ _ ah (fun x c=>?_) o ?_
  ·rcases qm.1 c with rfl|c
   ·exact k
   ·exact b x c
  ·rw[s];show a.getD i 0+(1000000000:Int)*ze zi (a.drop<|i+1)=((r*1000000000+a.getD i 0)/d+(1000000000:Int)*ze zi q)*d+(r*1000000000+a.getD i 0) % d;grind
theorem ok[Srt]:Af A9 240 WT:=by
 refine BM RR<|fun(i:List Int×Int) c=>?_;obtain⟨a,d⟩:=i;have c:(JY a&&decide (0<d)&&decide (d<1000000000))=true:=c;rw[zn,zn,w5,w5]at c;obtain⟨⟨ha,d0⟩,d1⟩:=c;obtain⟨hl,hda⟩:=Pn ha;refine qq (Ai a d) ?_;conv=>zeta
 rw[zf,wr ((a.length:Int)-1) ae ae];refine zd (by simp;omega) ?_;have:=As (Q:=Ad WT (a,d)) a d hda ⟨d0,d1⟩ hl (fun q r ob g h f=>?_) a.length [] 0 (by simp) (fun x e=>by cases e) ae (by grind [ze])
 ·grind
 ·refine je rfl rfl ?_;show(Ax q,r)=(BG<|Aj a/d,Aj a % d);obtain⟨u1,u2⟩:=(qc (a:=Aj a) (b:=d) (r:=r) (q:=Aj q) d0).2 ah;grind [FR]
end T240
theorem qO[Srt]:Dn LV:=
 Aa T237.ok (Aa T239.ok<|Aa T240.ok<|Aa T169.ok AP)
theorem Rt{t x y w:Int}(c:0<=t/\t<1000000000)(f:0<=x/\x<1000000000)(i:0<=y/\y<1000000000)(h:0<=w/\w<=1000000000):
  zc .i64 (zc .i64 (t*x)+w)=t*x+w/\qz (t*x+w) 1000000000=(t*x+w) % 1000000000/\zc .i64 (qf (t*x+w) 1000000000)=(t*x+w)/1000000000/\
  zc .i64 ((t*x+w)/1000000000+1)=(t*x+w)/1000000000+1/\zc .i64 (y-(t*x+w) % 1000000000)=y-(t*x+w) % 1000000000/\(0<=(t*x+w)/1000000000/\(t*x+w)/1000000000<1000000000)/\(0<=(t*x+w) % 1000000000/\(t*x+w) % 1000000000<1000000000):=by
 have h0:0<=t*x:=zz c.1 f.1;have g:t*x<=999999999*999999999:=by
  have a:=zh (show x<=999999999 by omega) c.1;have b:=zg (show t<=999999999 by omega) (show(0:Int)<=999999999 by omega);omega
 generalize t*x=P at*;have e:zc .i64 P=P:=wr _ ae ae;have d:qf (P+w) 1000000000=(P+w)/1000000000:=ym ae;refine⟨?_,yn ae,?_,wr _ ae ae,wr _ ae ae,by omega,by omega⟩
 ·rw[e];exact wr _ ae ae
 ·rw[d];exact wr _ ae ae
theorem ZN(w r:List Int)(i:Nat)(h:i<w.length):(w++r).getD i 0=w.getD i 0:=by
 rw[zr,zr,List.getElem?_append_left h]
namespace T168
theorem gW{b w z:List Int}{h:Int}{j i:Nat}(a:b.length=j)(c:i<w.length):(b++(w++h::z)).getD (i+j) 0=w.getD i 0:=by
 rw[GR _ _ _ _ a,ZN _ _ _ c]
theorem sW{b w z:List Int}{h:Int}{j i:Nat}(x:Int)(a:b.length=j)(c:i<w.length):(b++(w++h::z)).set (i+j) x=b++(w.set i x++h::z):=by
 rw[SG _ _ _ _ _ a,List.set_append_left _ _ c]
theorem gH{b w z:List Int}{h:Int}{j n:Nat}(a:b.length=j)(c:w.length=n):(b++(w++h::z)).getD (n+j) 0=h:=by
 rw[GR _ _ _ _ a];exact EC _ _ _ _ c
theorem sH{b w z:List Int}{h:Int}{j n:Nat}(x:Int)(a:b.length=j)(c:w.length=n):(b++(w++h::z)).set (n+j) x=b++(w++x::z):=by
 rw[SG _ _ _ _ _ a];congr 1;exact Da _ _ _ _ c
theorem NA(w z:List Int)(h:Int)(a:ze zi z=0):ze zi (w++h::z)=ze zi w+(zi:Int)^w.length*h:=by
 rw[CP];show _+_*(h+(zi:Int)*ze zi z)=_;rw[a,yu,qk]
theorem Cs[Srt](p a e:Nat)(B J v q z:List Int)(n j:Nat)(t h' X:Int)(S:v.length=n)(E:n<=9000)(l:q.length=j)(P:j<=9000)(G:n+j<a)(F:j<e)(x:j<B.length)(L:Aw zi v)(M:ze zi z=0)(y:Aw zi z)(O: -2000000000<=h'/\h'<=2000000000)
  (V:0<=X/\X<(zi:Int)^n) (A:a=j+n+1+z.length)
  (m:∀r:List Int,r.length=n+1+z.length->Aw zi r->ze zi r=X->Ends LV (L2 p v n a e (zc .i64<|(j:Int)-1) (B.set j t) (q++r) J) Q):
  ∀(k i:Nat) (w:List Int) (c:Int),i+k=n->w.length=n->Aw zi w->(0<=c/\c<=1)->ze zi w+(zi:Int)^n*h'=X-ze zi v+ze zi (v.take i)-(zi:Int)^i*c->
   Ends LV (L5 p v n a e j t c i B (q++(w++h'::z)) J) Q
 |0,i,w,c,I,u,s,W,K=>by
  have I:i=n:=ae
  subst I;have H:zc .i64 ((j:Int)+(i:Int))=((i+j:Nat):Int):=by rw[wr _ ae ae];omega
  have D:v.take i=v:=zu ae;rw[D]at K;have a1:=AD (b:=zi) af s;have a2:=Br (b:=zi) af s;rw[u]at a2;have N:=Be (b:=zi) af i;have C:ze zi w+(zi:Int)^i*(h'+c)=X:=by rw[zm];omega
  have h:h'+c=0:=by
   rcases Int.lt_trichotomy (h'+c) 0 with g|g|g
   ·have:=zh (show h'+c<= -1 by omega)<|zo N;rw[jf,yx]at this;omega
   ·exact g
   ·have:=zh (show 1<=h'+c by omega)<|zo N;rw[yx]at this;omega
  have f:i+j<(q++(w++h'::z)).length:=by simp;omega
  refine zw (Fb ..) (yt (by simp) ?_);rw[H,zf,zf,gH l u,sH _ l u,wr (h'+c) ae ae,h];have t1:(decide ((0:Int)<=((i+j:Nat):Int))&&decide (((i+j:Nat):Int)<(a:Int)))=true:=by simp;omega
  refine zd t1 (zd (w4 f)<|zd t1<|zd (w4 f)<|zd (by simp;omega)<|zd (w4 x)<|m _ (by simp;omega) (Gr s<|fun d o=>?_) ?_)
  ·rcases qm.1 o with rfl|o
   ·decide
   ·exact y d o
  ·rw[NA _ _ _ M,u, <-C,h]
 |k+1,i,w,c,I,u,s,W,K=>by
  have Z:=GI L i;have gy:=GI s i;have H:zc .i64 ((i:Int)+(j:Int))=((i+j:Nat):Int):=by rw[wr _ ae ae];omega
  have T:=wn (i:=i) ae;have U:zc .i64 (zc .i64 (w.getD i 0+v.getD i 0)+c)=w.getD i 0+v.getD i 0+c:=by
   rw[wr (w.getD i 0+v.getD i 0) ae ae];exact wr _ ae ae
  have R:qz (w.getD i 0+v.getD i 0+c) 1000000000=(w.getD i 0+v.getD i 0+c) % 1000000000:=yn ae;have C:zc .i64 (qf (w.getD i 0+v.getD i 0+c) 1000000000)=(w.getD i 0+v.getD i 0+c)/1000000000:=by
   rw[ym ae];exact wr _ ae ae
  have f:i+j<(q++(w++h'::z)).length:=by simp;omega
  refine zw (Fb ..) (zd (by simp;omega) ?_);rw[H,T,zf,zf,gW l ae,sW _ l ae,U,R,C];have t1:(decide ((0:Int)<=((i+j:Nat):Int))&&decide (((i+j:Nat):Int)<(a:Int)))=true:=by simp;omega
  refine zd t1 (zd (w4 f)<|zd (by simp;omega)<|zd rfl (zd t1<|zd (w4 f)<|zd rfl ?_));refine Cs p a e B J v q z n j t h' X S E l P G F x L M y O V A m k (i+1) _ _ ae (by simp[u]) (Ha s i<|by show 0<=_/\_<(1000000000:Int);omega) ae ?_;rw[HE _ _ _ _ ae,Lg,AF];have Y:(zi:Int)^i*((w.getD i 0+v.getD i 0+c) % 1000000000-w.getD i 0)=(zi:Int)^i*v.getD i 0+(zi:Int)^i*c-(zi:Int)^i*(1000000000*((w.getD i 0+v.getD i 0+c)/1000000000)):=by
   rw[<-zm, <-yq];congr 1;omega
  omega
theorem BR[Srt](g a b:Nat)(o y v l z:List Int)(n j:Nat)(t h W:Int)(X:v.length=n)(B:n<=9000)(e:l.length=j)(T:j<=9000)(D:n+j<a)(C:j<b)(q:j<o.length)(J:Aw zi v)(S:0<=h/\h<1000000000)(u:a=j+n+1+z.length)(L:0<=t/\t<1000000000)
  (h0:∀(w:List Int) (h':Int),w.length=n->Aw zi w->0<=h'->ze zi w+(zi:Int)^n*h'=W-t*ze zi v->Ends LV (L2 g v n a b (zc .i64<|(j:Int)-1) (o.set j t) (l++(w++h'::z)) y) Q)
  (M:∀(w:List Int) (h':Int),w.length=n->Aw zi w->h'<0-> -2000000000<=h'->ze zi w+(zi:Int)^n*h'=W-t*ze zi v->Ends LV (L5 g v n a b j (zc .i64<|t-1) 0 0 o (l++(w++h'::z)) y) Q):
  ∀(k i:Nat) (w:List Int) (c:Int),i+k=n->w.length=n->Aw zi w->(0<=c/\c<=1000000000)->ze zi w+(zi:Int)^n*h=W-t*ze zi (v.take i)+(zi:Int)^i*c->
   Ends LV (L4 g v n a b j t c i o (l++(w++h::z)) y) Q
 |0,i,w,c,H,m,s,N,I=>by
  have H:i=n:=ae
  subst H;have F:zc .i64 ((j:Int)+(i:Int))=((i+j:Nat):Int):=by rw[wr _ ae ae];omega
  have A:v.take i=v:=zu ae;rw[A]at I;have f:i+j<(l++(w++h::z)).length:=by simp;omega
  have r:i+j<(l++(w++(h-c)::z)).length:=by simp;omega
  have K:ze zi w+(zi:Int)^i*(h-c)=W-t*ze zi v:=by rw[yq];omega
  refine zw (CN ..) (yt (by simp) ?_);rw[F,zf,zf,gH e m,wr (h-c) ae ae,sH _ e m,gH e m];have t1:(decide ((0:Int)<=((i+j:Nat):Int))&&decide (((i+j:Nat):Int)<(a:Int)))=true:=by simp;omega
  refine zd t1<|zd (w4 f)<|zd t1<|zd (w4 f)<|zd t1<|zd (w4 r)<|zx (fun d=>?_)<|fun d=>?_
  ·have d:=w6 d;exact M w (h-c) m s d ae K
  ·have d:=w7 d;exact zd (by simp;omega) (zd (w4 q)<|h0 w (h-c) m s ae K)
 |k+1,i,w,c,H,m,s,N,I=>by
  have V:=GI J i;have Z:=GI s i;obtain⟨O,m2,m3,Y,R,m6,m7⟩:=Rt L V Z N;have F:zc .i64 ((i:Int)+(j:Int))=((i+j:Nat):Int):=by rw[wr _ ae ae];omega
  have e2:=wn (i:=i) ae;have f:i+j<(l++(w++h::z)).length:=by simp;omega
  have t1:(decide ((0:Int)<=((i+j:Nat):Int))&&decide (((i+j:Nat):Int)<(a:Int)))=true:=by simp;omega
  have go:∀(x p:Int),(0<=x/\x<1000000000)->(0<=p/\p<=1000000000)->c+(x-w.getD i 0)=1000000000*p-t*v.getD i 0->Ends LV (L4 g v n a b j t p ((i+1:Nat):Int) o (l++(w.set i x++h::z)) y) Q:=by
   intro x p U E G;refine BR g a b o y v l z n j t h W X B e T D C q J S u L h0 M k (i+1) _ _ ae (by simp[m]) (Ha s i U) E ?_;rw[HE _ _ _ _ ae,Lg,AF,zm t,yh t];have e6:(zi:Int)^i*c+(zi:Int)^i*(x-w.getD i 0)=(zi:Int)^i*(1000000000*p)-(zi:Int)^i*(t*v.getD i 0):=by
    rw[<-zm, <-yq,G]
   omega
  refine zw (CN ..) (zd (by simp;omega) ?_);rw[F,e2,zf,zf,gW e ae,O,m2,m3,Y,R,sW _ e ae,sW _ e ae];refine zd (by simp;omega)<|zd t1<|zd (w4 f)<|zd rfl (zd rfl (zx (fun d=>?_)<|fun d=>?_))
  ·have d:=w6 d;rw[wr (w.getD i 0-(t*v.getD i 0+c) % 1000000000+1000000000) ae ae];refine zd t1 (zd (w4 f) (go _ _ ae ae ?_));generalize t*v.getD i 0=P at*;omega
  ·have d:=w7 d;refine zd t1 (zd (w4 f)<|go _ _ ae ae ?_);generalize t*v.getD i 0=P at*;omega
theorem oD[Srt](i f h:Nat)(p F v t e:List Int)(n j:Nat)(I:v.length=n)(u:n<=9000)(A:t.length=j)(L:j<=9000)(X:n+1<=e.length)(M:f=j+e.length)(y:j<h)(o:j<p.length)(C:Aw zi v)(D:Aw zi e)(E:ze zi (e.drop<|n+1)=0)
  (l:∀(q:Int) (r:List Int),r.length=e.length->Aw zi r->(0<=q/\q<1000000000)->ze zi r<ze zi v->ze zi r=ze zi e-q*ze zi v->Ends LV (L2 i v n f h (zc .i64<|(j:Int)-1) (p.set j q) (t++r) F) Q)
  (q:Int) (K:0<=q/\q<1000000000) (U:ze zi e<(q+1)*ze zi v) (Y:q*ze zi v<ze zi e+ze zi v):
  Ends LV (L4 i v n f h j q 0 0 p (t++e) F) Q:=by
 have k:e=e.take n++e.getD n 0::e.drop (n+1):=by
  rw[<-Cm ae];exact(ql n e).symm
 have gh:=GI D n;have G:=AL D n;have z:=Em D<|n+1;have B:(e.take n).length=n:=by rw[yg];omega
 have P:(e.drop<|n+1).length=e.length-(n+1):=List.length_drop ..;have hW:ze zi e=ze zi (e.take n)+(zi:Int)^n*e.getD n 0:=by
  conv=>lhs;rw[k]
  rw[NA _ _ _ E,B]
 have s:=Br (b:=zi) af C;rw[I]at s;have S:=AD (b:=zi) af C;have V:=AD (b:=zi) af D;have N:=Be (b:=zi) af n;rw[z8,zy]at U;rw[k];refine BR i f h p F v t (e.drop<|n+1) n j q (e.getD n 0) (ze zi e) I u A L ae y o C gh ae K (fun w h' a b c d=>?_) (fun w h' a b c W d=>?_) n 0 (e.take n) 0 ae B G af (by rw[<-hW];simp[ze])
 ·have O:=AD (b:=zi) af b;have J:h'=0:=by
   rcases ye 0 h' with g|g
   ·have:=zh (show 1<=h' by omega)<|zo N;omega
   ·omega
  refine l q _ (by simp;omega) (Gr b<|fun x H=>?_) K ?_ ?_
  ·rcases qm.1 H with rfl|H
   ·rw[J];decide
   ·exact z x H
  ·rw[NA _ _ _ E,a,d];omega
  ·rw[NA _ _ _ E,a,d]
 ·have O:=Br (b:=zi) af b;rw[a]at O;have m:ze zi e-q*ze zi v<0:=by
   have:=zh (show h'<= -1 by omega)<|zo N;rw[jf,yx]at this;omega
  have R:1<=q:=by
   rcases ye 0 q with g|g
   ·exact g
   ·have:q=0:=ae
    subst this;rw[qp]at m;omega
  rw[wr (q-1) ae ae];refine Cs i f h p F v t (e.drop<|n+1) n j (q-1) h' (ze zi e-q*ze zi v+ze zi v) I u A L ae y o C E z ae ae ae (fun r Z b' T=>?_) n 0 w 0 ae a b af (by rw[d];simp[ze]<;>omega);refine l (q-1) r ae b' ae ae ?_;rw[T,qj,zy];omega
theorem CW[Srt](l e i:Nat)(n A v m h:List Int)(a2 a1 a0:List Int)(k j:Nat)(T:v.length=k+2)(D:k+2<=9000)(z:m.length=j)(Y:j<=9000)(hr:k+3<=h.length)(t:e=j+h.length)(E:j<i)(F:j<n.length)(x:Aw zi v)(y:Aw zi h)(L:ze zi (h.drop<|k+3)=0)(G:1<=v.getD (k+1) 0)
  (J:h.getD (k+2) 0<=v.getD (k+1) 0) (N:ze zi h<1000000000*ze zi v)
  (u:∀(q:Int) (r:List Int),r.length=h.length->Aw zi r->(0<=q/\q<1000000000)->ze zi r<ze zi v->ze zi r=ze zi h-q*ze zi v->Ends LV (L2 l v ((k+2:Nat):Int) e i (zc .i64<|(j:Int)-1) (n.set j q) (m++r) A) Q):
  ∀(f:Nat) (q r:Int),0<=q->q<f->q<=2000000000000000000->(0<=r/\r<1000000000)->q*v.getD (k+1) 0+r=h.getD (k+2) 0*1000000000+h.getD (k+1) 0->ze zi h<(q+1)*ze zi v->
   Ends LV (L3 l v ((k+2:Nat):Int) e i j a2 a1 a0 e v j ((k+2:Nat):Int) q r n (m++h) A) Q
 |0,q,r,h0,hf,_,_,_,_=>by omega
 |f+1,q,r,h0,hf,hmax,hr1,Z,U=>by
  have w:=GI x k;have gv1:=GI x<|k+1;have gu2:=GI y k;have gu1:=GI y<|k+1;have X:=Be (b:=zi) af k;have hW:=nU zi h k ae L;have hV:=mU zi v k T;have V:=AD (b:=zi) af<|AL y k;have o:=Br (b:=zi) af<|AL y k;have H:=AD (b:=zi) af<|AL x k;have s:=Br (b:=zi) af<|AL x k;have S:=AD (b:=zi) af x;rw[yg,yv ae]at o s;have exit:∀q R:Int,0<=q->q<1000000000->q*v.getD (k+1) 0+R=h.getD (k+2) 0*1000000000+h.getD (k+1) 0->ze zi h<(q+1)*ze zi v->q*v.getD k 0<=R*1000000000+h.getD k 0->Ends LV (L4 l v ((k+2:Nat):Int) e i j q 0 0 n (m++h) A) Q:=by
   intro q R q0 q1 P O K;refine oD l e i n A v m h (k+2) j T D z Y hr t E F x y L u q ⟨q0,q1⟩ O ?_;rw[hW,hV];exact Tz X ⟨H,s⟩ V ⟨q0,q1⟩ G w.1 P K
  have e1:zc .i64 (((k+2:Nat):Int)-2)=(k:Int):=by rw[wr _ ae ae];omega
  have e2:zc .i64 (((k+2:Nat):Int)-1)=((k+1:Nat):Int):=by rw[wr _ ae ae];omega
  have e3:zc .i64 (zc .i64 ((j:Int)+((k+2:Nat):Int))-2)=((k+j:Nat):Int):=by
   rw[wr ((j:Int)+((k+2:Nat):Int)) ae ae,wr _ ae ae];omega
  have g3:(m++h).getD (k+j) 0=h.getD k 0:=GR _ _ _ _ z;have W:(decide ((0:Int)<=((k+1:Nat):Int))&&decide (((k+1:Nat):Int)<(v.length:Int)))=true:=by simp;omega
  have C:ze zi h<q*ze zi v->Ends LV (.ite (decide (zc .i64 (r+v.getD (k+1) 0)>=(1000000000:Int))) (L4 l v ((k+2:Nat):Int) e i j (zc .i64<|q-1) 0 0 n (m++h) A)<|L3 l v ((k+2:Nat):Int) e i j a2 a1 a0 e v j ((k+2:Nat):Int) (zc .i64<|q-1) (zc .i64<|r+v.getD (k+1) 0) n (m++h) A) Q:=by
   intro K;have hW0:=AD (b:=zi) af y;have hq1:1<=q:=by
    rcases ye 0 q with g|g
    ·exact g
    ·have:q=0:=ae
     subst this;rw[qp]at K;omega
   have I:(q-1)*v.getD (k+1) 0+(r+v.getD (k+1) 0)=h.getD (k+2) 0*1000000000+h.getD (k+1) 0:=by rw[qj,zy];omega
   have p:ze zi h<(q-1+1)*ze zi v:=by rw[show q-1+1=q by omega];exact K
   rw[wr (q-1) ae ae,wr (r+v.getD (k+1) 0) ae ae];refine zx (fun c=>?_)<|fun c=>?_
   ·have c:=w6 c;have M:q-1<1000000000:=by
     rcases ye (q-1) 1000000000 with g|g
     ·exact g
     ·have a:=zg g (show 0<=v.getD (k+1) 0 by omega);have b:=zg J (show(0:Int)<=1000000000 by omega);omega
    refine exit (q-1) _ ae M I p ?_;have a:=zh (show v.getD k 0<=999999999 by omega) (show 0<=q-1 by omega);omega
   ·have c:=w7 c;exact CW l e i n A v m h a2 a1 a0 k j T D z Y hr t E F x y L G J N u f (q-1) _ ae ae ae ae I p
  refine zw (Cr ..) ?_;conv=>zeta
  rw[e1,e2,e3,zf,zf,zf,g3];refine zx (fun c=>zd W<|C ?_) (fun c=>zd (by simp;omega) (zd (by simp;omega)<|zd (by simp;omega)<|zx (fun d=>zd W<|C ?_)<|fun d=>?_))
  ·have c:=w6 c;have:=zg c S;omega
  ·have c:=w7 c;have d:=w6 d;have a:=zh (show v.getD k 0<=999999999 by omega) h0;have b:=zz h0 w.1;rw[wr (q*v.getD k 0) ae ae,wr (r*1000000000) ae ae,wr _ ae ae]at d;have:=Ui (B:=zi) (u0:=h.getD (k+2) 0) (u1:=h.getD (k+1) 0) (u2:=h.getD k 0) X H o h0 (v1:=v.getD (k+1) 0) (v2:=v.getD k 0) (r:=r) Z d;rw[<-hW, <-hV]at this;exact this
  ·have c:=w7 c;have d:=w7 d;have a:=zh (show v.getD k 0<=999999999 by omega) h0;have b:=zz h0 w.1;rw[wr (q*v.getD k 0) ae ae,wr (r*1000000000) ae ae,wr _ ae ae]at d;exact exit q r h0 ae Z U ae
end T168
end Go.Pe
