import Derived.Test.YtipkapecgjpnlaaGreatDoorX10
import Derived.Lib.ItoaMem
/- A part of a proof; no law is stated here. -/
noncomputable section
open Go.IntKind renaming wrap -> zc, u64 -> zd, u8 -> zy, i64 -> yf
open UInt8 renaming toNat -> ze
open Go.Pe.Sh renaming str -> zf, list -> zg, bool -> zi, int -> zj
open Int renaming mul_le_mul_of_nonneg_right -> zh, eq_ofNat_of_zero_le -> zm, fdiv -> zn, mul_assoc -> zo, add_mul -> zp, tdiv -> zq, mul_nonneg -> zr, toNat_natCast -> zt, mul_comm -> zu, tmod -> z6, one_mul -> z7, le_of_lt -> z8, fdiv_eq_ediv_of_nonneg -> yb, natCast_pow -> yd, tdiv_eq_ediv_of_nonneg -> yi, zero_add -> ym, natCast_mul -> yo, ediv_nonneg -> yp
open Go.Pe.Ends renaming tt -> zk, leaf -> zx, ite -> zz
open Go.Pe.PV renaming agg -> zl
open Nat renaming sub -> zw, add -> yh, two_pow_pos -> yn, pow_add -> yr
open Bool renaming and_eq_true -> yc
open List renaming length -> ye, map -> yg
open Min renaming min -> yj
open BitVec renaming ofInt -> yk
open Go.Sp renaming vI -> yq, first -> yt
open Go.Pe.Ad renaming of -> yu
namespace Go.Pe
open Go.Det
section
open List Int Prod
namespace T192
def T[Srt](x:Int):Tr:=tree eI false 9 192<|Ae ([zj zd]) x
theorem Ai[Srt](x:Int):T x=let b:=([0,1,2,2,3,3,3,3,4,4,4,4,4,4,4,4,5,5,5,5,5,5,5,5,5,5,5,5,5,5,5,5,6,6,6,6,6,6,6,6,6,6,6,6,6,6,6,6,6,6,6,6,6,6,6,6,6,6,6,6,6,6,6,6,7,7,7,7,7,7,7,7,7,7,7,7,7,7,7,7,7,7,7,7,7,7,7,7,7,7,7,7,7,7,7,7,7,7,7,7,7,7,7,7,7,7,7,7,7,7,7,7,7,7,7,7,7,7,7,7,7,7,7,7,7,7,7,7,8,8,8,8,8,8,8,8,8,8,8,8,8,8,8,8,8,8,8,8,8,8,8,8,8,8,8,8,8,8,8,8,8,8,8,8,8,8,8,8,8,8,8,8,8,8,8,8,8,8,8,8,8,8,8,8,8,8,8,8,8,8,8,8,8,8,8,8,8,8,8,8,8,8,8,8,8,8,8,8,8,8,8,8,8,8,8,8,8,8,8,8,8,8,8,8,8,8,8,8,8,8,8,8,8,8,8,8,8,8,8,8,8,8,8,8,8,8,8,8,8,8,8,8,8,8,8,8]:Z);let b':=zn x<|2^32;let a:=(0:Sh.T (zj zy));let d:=zn x<|2^16;let f:=zn x<|2^8;let c:=zn b'<|2^16;let g:=zn b'<|2^8;let h':=zn d<|2^8;let e:=zn c<|2^8;.di (x>=4294967296) (.ck true<|.di (zn x (2^32)>=65536) (.ck true<|.di (zn b' (2^16)>=256) (.ck true<|.ck (decide (a<=zc .u8 e)&&decide (zc .u8 e<(↑256:Int)))<|.leaf (.dat i64<|zc .i64<|zc .i64 (zc .i64 (32+16)+8)+zc .i64 (↑(ze<|getD b (toNat<|zc .u8 e) (0:UInt8)):Int)) [])<|.ck (decide (a<=zc .u8 c)&&decide (zc .u8 c<(↑256:Int)))<|.leaf (.dat i64<|zc .i64<|zc .i64 (32+16)+zc .i64 (↑(ze<|getD b (toNat<|zc .u8 c) (0:UInt8)):Int)) [])<|.di (zn x (2^32)>=256) (.ck true<|.ck (decide (a<=zc .u8 g)&&decide (zc .u8 g<(↑256:Int)))<|.leaf (.dat i64<|zc .i64<|zc .i64 (32+8)+zc .i64 (↑(ze<|getD b (toNat<|zc .u8 g) (0:UInt8)):Int)) [])<|.ck (decide (a<=zc .u8 b')&&decide (zc .u8 b'<(↑256:Int)))<|.leaf (.dat i64<|zc .i64<|32+zc .i64 (↑(ze<|getD b (toNat<|zc .u8 b') (0:UInt8)):Int)) []) (.di (x>=65536) (.ck true<|.di (zn x (2^16)>=256) (.ck true<|.ck (decide (a<=zc .u8 h')&&decide (zc .u8 h'<(↑256:Int)))<|.leaf (.dat i64<|zc .i64<|zc .i64 (zc .i64 (0+16)+8)+zc .i64 (↑(ze<|getD b (toNat<|zc .u8 h') (0:UInt8)):Int)) [])<|.ck (decide (a<=zc .u8 d)&&decide (zc .u8 d<(↑256:Int)))<|.leaf (.dat i64<|zc .i64<|zc .i64 (0+16)+zc .i64 (↑(ze<|getD b (toNat<|zc .u8 d) (0:UInt8)):Int)) [])<|.di (x>=256) (.ck true<|.ck (decide (a<=zc .u8 f)&&decide (zc .u8 f<(↑256:Int)))<|.leaf (.dat i64<|zc .i64<|zc .i64 (0+8)+zc .i64 (↑(ze<|getD b (toNat<|zc .u8 f) (0:UInt8)):Int)) [])<|.ck (decide (a<=zc .u8 x)&&decide (zc .u8 x<(↑256:Int)))<|.leaf (.dat i64<|zc .i64<|0+zc .i64 (↑(ze<|getD b (toNat<|zc .u8 x) (0:UInt8)):Int)) []):=by kernel_rfl
end T192
namespace T228
def T[Srt](x:Int):Tr:=tree XD1 false 9 228<|Ae ([zj zd]) x
theorem Ai[Srt](x:Int):T x=.ck (Sp.u64 x) (.leaf (.dat i64<|zc .i64<|64-Sp.GC x) []):=by kernel_rfl
end T228
namespace T226
def T[Srt](b a y:Int):Tr:=tree lL false 9 226<|Ae ([zj zd,zj zd,zj zd]) (b,a,y)
def L1[Srt](v2 g v9 b e c d f a:Int):Tr:=re ((T 0 0 0).R.R.R.L.L.L.L.L.L.L.L)<|AB 135 [(2,.dat (zj zd) v2),(8,.dat (zj zd) g),(9,.dat (zj zd) v9),(10,.dat (zj zd) b),(11,.dat (zj zd) e),(13,.dat (zj zd) c),(14,.dat (zj zd) d),(15,.dat (zj zd) f),(16,.dat (zj zd) a)] [] 0
theorem Ai[Srt](c b y:Int):T c b y=let d:=decide (0<=zc .u64 (Sp.lz y));let g:=64-zc .u64 (Sp.lz y);let i:=zc .u64<|Sp.lz y;let e:=toNat i;let h:=zn b<|2^yj (toNat<|zc .u64 g) 64;let a:=zc .u64<|y*2^yj e 64;let f:=zc .u64<|b*2^yj e 64;let j:=zc .u64<|c*2^yj e 64;let b':=Zu zd j h;let h':=zn a<|2^32;.ite (y==0) .fail (.di (y<=c) .fail<|.ite (c==0) (.cd (y≠0)<|.cd (y≠0)<|.leaf (.tup [.dat (zj zd)<|zc .u64<|zq b y,.dat (zj zd)<|z6 b y]) [])<|.ck (Sp.u64 y)<|.ck d<|.ck true<|.ck d<|.cd (0<=zc .u64 g)<|.ck d<|.ck true<|.cd (zn a (2^32)≠0)<|L1 a i h' (HR zd a 4294967295) b' (zn f<|2^32) (HR zd f 4294967295) (zc .u64<|zq b' h')<|zc .u64<|Zu zd j h-zc .u64 (zc .u64 (zq b' h')*zn a (2^32))):=by kernel_rfl
def L2[Srt](v2 g v9 d e f a b c:Int):Tr:=re ((stepT lL<|L1 0 0 0 0 0 0 0 0 0).L.L.L)<|AB 135 [(2,.dat (zj zd) v2),(8,.dat (zj zd) g),(9,.dat (zj zd) v9),(10,.dat (zj zd) d),(14,.dat (zj zd) e),(15,.dat (zj zd) f),(16,.dat (zj zd) a),(17,.dat (zj zd) b),(18,.dat (zj zd) c)] [] 0
theorem Ar[Srt](v2 g v9 b f d e a c:Int):stepT lL (L1 v2 g v9 b f d e a c)=let j:=zc .u64 (f*4294967296)+d;let l:=zc .u64<|a-1;let b':=zc .u64 j-zc .u64 (zc .u64 (a-1)*v2);let k:=zc .u64 j-zc .u64 (a*v2);let h:=zc .u64 k;let i:=zc .u64 b';let m:Tr:=.di (zc .u64 (c+v9)>=4294967296) (.cd (v9≠0)<|L2 v2 g v9 b e l (zc .u64<|zc .u64 b'-zc .u64 (zc .u64 (zq i v9)*v9)) i<|zc .u64<|zq i v9)<|L1 v2 g v9 b f d e l<|zc .u64<|c+v9;.di (a>=4294967296) m (.di (zc .u64 (a*b)>zc .u64 (zc .u64 (4294967296*c)+d)) m<|.cd (v9≠0)<|L2 v2 g v9 b e a (zc .u64<|zc .u64 k-zc .u64 (zc .u64 (zq h v9)*v9)) h<|zc .u64<|zq h v9):=by kernel_rfl
theorem AO[Srt](v2 g v9 f c d b e a:Int):stepT lL (L2 v2 g v9 f c d b e a)=let b':=zj zd;let i:=zc .u64 (e*4294967296)+c;let h:=2^yj (toNat g) 64;let j:Tr:=.di (zc .u64 (b+v9)>=4294967296) (.cd (0<=g)<|.leaf (.tup [.dat b'<|zc .u64<|zc .u64 (d*4294967296)+zc .u64 (a-1),.dat b'<|zn (zc .u64<|zc .u64 i-zc .u64 (zc .u64 (a-1)*v2)) h]) [])<|L2 v2 g v9 f c d (zc .u64<|b+v9) e<|zc .u64<|a-1;.di (a>=4294967296) j (.di (zc .u64 (a*f)>zc .u64 (zc .u64 (4294967296*b)+c)) j<|.cd (0<=g)<|.leaf (.tup [.dat b'<|zc .u64<|zc .u64 (d*4294967296)+a,.dat b'<|zn (zc .u64<|zc .u64 i-zc .u64 (a*v2)) h]) []):=by kernel_rfl
end T226
end
namespace T226
variable {Q:PV->Ob->Prop}
def Exact(Y u w q:Int):Prop:=q*Y<=u*4294967296+w/\u*4294967296+w<(q+1)*Y
theorem Xz{Y a b u w q r:Int}(c:Y=a*4294967296+b)(d:q*a+r=u)(h:q*b>4294967296*r+w):u*4294967296+w<q*Y:=by
 subst c;rw[Int.mul_add, <-zo];generalize q*a=A at*;generalize q*b=C at*;omega
theorem KL{Y a b u w q r:Int}(c:Y=a*4294967296+b)(d:q*a+r=u)(h:q*b<=4294967296*r+w):q*Y<=u*4294967296+w:=by
 subst c;rw[Int.mul_add, <-zo];generalize q*a=A at*;generalize q*b=C at*;omega
theorem TM{Y u w q:Int}(c:u<Y)(b:0<=Y)(d:w<4294967296)(a:4294967296<=q):u*4294967296+w<q*Y:=by
 have:=zh a b;omega
theorem Ts{b c u w r:Int}{n:Nat}{Y:Int}(f:Y=b*4294967296+c)(e:0<=b)(h0:0<=c/\c<4294967296)(g:u<Y)(k:0<=w)(d:(n:Int)*b+r=u)(j:4294967296<=r):(n:Int)*Y<=u*4294967296+w:=by
 have i:(n:Int)<4294967296:=by
  rcases Int.lt_or_le (n:Int) 4294967296 with h|h
  ·exact h
  ·have:=zh h e;omega
 refine KL f d ?_;have a:=zh (show(n:Int)<=4294967295 by omega) h0.1;omega
theorem As[Srt](Y s f g u w z:Int)(v:Y=f*4294967296+g)(H:0<f/\f<4294967296)(h0:0<=g/\g<4294967296)(A:u<Y)(B:0<=w/\w<4294967296)
  (t:∀q:Int,0<=q->Exact Y u w q->Ends lL (L2 Y s f g z q (zc zd<|zc zd (zc zd (zc zd (u*(4294967296:Int))+w)-zc zd (q*Y))-zc zd (zc zd (zq (zc zd<|zc zd (zc zd (u*(4294967296:Int))+w)-zc zd (q*Y)) f)*f)) (zc zd<|zc zd (zc zd (u*(4294967296:Int))+w)-zc zd (q*Y))<|zc zd<|zq (zc zd<|zc zd (zc zd (u*(4294967296:Int))+w)-zc zd (q*Y)) f) Q):
  ∀(n:Nat) (r:Int),(n:Int)<18446744073709551616->(n:Int)*f+r=u->0<=r->r<4294967296->u*4294967296+w<((n:Int)+1)*Y->Ends lL (L1 Y s f g u w z n r) Q:=by
 intro n;induction n with
 |zero=>
  intro r E k D r1 j;have m:decide (f≠0)=true:=w4 ae;refine Ends.An (Ar ..) (Ends.ff (by simp)<|Ends.ff (w8 ?_)<|zk m<|t _ ae ⟨?_,j⟩)
  ·rw[show((0:Nat):Int)*g=0 by simp,wu 0 ae ae,wu (4294967296*r) ae ae,wu _ ae ae];omega
  ·exact KL v k (by rw[show((0:Nat):Int)*g=0 by simp];omega)
 |succ n F=>
  intro r E k D r1 j;have m:decide (f≠0)=true:=w4 ae;have C:zc .u64 (((n+1:Nat):Int)-1)=(n:Int):=by rw[wu _ ae ae];omega
  have G:zc .u64 (r+f)=r+f:=wu _ ae ae;have x:0<=Y:=ae
  have p:(n:Int)*f+(r+f)=u:=by
   rw[show((n+1:Nat):Int)=(n:Int)+1 by omega,zp,z7]at k;omega
  have y:((n+1:Nat):Int)=(n:Int)+1:=ae
  have l:u*4294967296+w<((n:Int)+1)*Y->r+f<4294967296->Ends lL (L1 Y s f g u w z n<|r+f) Q:=fun h i=>
   F (r+f) ae p ae i h
  have cut:u*4294967296+w<((n:Int)+1)*Y->4294967296<=r+f->Exact Y u w n:=fun h i=>
   ⟨Ts v ae h0 A B.1 p i,h⟩
  refine Ends.An (Ar ..) ?_;conv=>zeta
  rw[C,G];refine zz (fun c=>?_)<|fun c=>zz (fun d=>?_)<|fun d=>?_
  ·have c:=w6 c;have o:u*4294967296+w<((n:Int)+1)*Y:=by rw[<-y];exact TM A x B.2 c
   exact zz (fun e=>zk m<|t _ ae<|cut o<|w6 e) (fun e=>l o (by have:=w7 e;omega))
  ·have c:=w7 c;have d:=w6 d;have a:=zh (show((n+1:Nat):Int)<=4294967295 by omega) h0.1;have b:=zr (show 0<=((n+1:Nat):Int)by omega) h0.1;rw[wu (((n+1:Nat):Int)*g) ae ae,wu (4294967296*r) ae ae,wu _ ae ae]at d;have o:u*4294967296+w<((n:Int)+1)*Y:=by rw[<-y];exact Xz v k d
   exact zz (fun e=>zk m<|t _ ae<|cut o<|w6 e) (fun e=>l o (by have:=w7 e;omega))
  ·have c:=w7 c;have d:=w7 d;have a:=zh (show((n+1:Nat):Int)<=4294967295 by omega) h0.1;have b:=zr (show 0<=((n+1:Nat):Int)by omega) h0.1;rw[wu (((n+1:Nat):Int)*g) ae ae,wu (4294967296*r) ae ae,wu _ ae ae]at d;exact zk m (t _ ae ⟨KL v k ae,j⟩)
theorem A1[Srt](Y s f g u w p:Int)(v:Y=f*4294967296+g)(I:0<f/\f<4294967296)(h0:0<=g/\g<4294967296)(A:u<Y)(C:0<=w/\w<4294967296)(B:0<=s)
  (x:∀q:Int,0<=q->Exact Y u w q->∀ob,Q (PV.tup [PV.dat (zj zd)<|zc zd<|zc zd (p*(4294967296:Int))+q,PV.dat (zj zd)<|zn (zc zd<|zc zd (zc zd (u*(4294967296:Int))+w)-zc zd (q*Y))<|(2:Int)^yj (Int.toNat s) (64:Nat)]) ob):
  ∀(n:Nat) (r:Int),(n:Int)<18446744073709551616->(n:Int)*f+r=u->0<=r->r<4294967296->u*4294967296+w<((n:Int)+1)*Y->Ends lL (L2 Y s f g w p r u n) Q:=by
 intro n;induction n with
 |zero=>
  intro r G m F r1 j;have l:decide (0<=s)=true:=w4 B;refine Ends.An (AO ..) (Ends.ff (by simp) (Ends.ff (w8 ?_)<|zk l<|zx<|x _ ae ⟨?_,j⟩ _))
  ·rw[show((0:Nat):Int)*g=0 by simp,wu 0 ae ae,wu (4294967296*r) ae ae,wu _ ae ae];omega
  ·exact KL v m (by rw[show((0:Nat):Int)*g=0 by simp];omega)
 |succ n E=>
  intro r G m F r1 j;have l:decide (0<=s)=true:=w4 B;have D:zc .u64 (((n+1:Nat):Int)-1)=(n:Int):=by rw[wu _ ae ae];omega
  have H:zc .u64 (r+f)=r+f:=wu _ ae ae;have y:0<=Y:=ae
  have t:(n:Int)*f+(r+f)=u:=by
   rw[show((n+1:Nat):Int)=(n:Int)+1 by omega,zp,z7]at m;omega
  have z:((n+1:Nat):Int)=(n:Int)+1:=ae
  have k:u*4294967296+w<((n:Int)+1)*Y->r+f<4294967296->Ends lL (L2 Y s f g w p (r+f) u n) Q:=fun i h=>
   E (r+f) ae t ae h i
  have cut:u*4294967296+w<((n:Int)+1)*Y->4294967296<=r+f->Exact Y u w n:=fun i h=>
   ⟨Ts v ae h0 A C.1 t h,i⟩
  refine Ends.An (AO ..) ?_;conv=>zeta
  rw[D,H];refine zz (fun c=>?_)<|fun c=>zz (fun d=>?_)<|fun d=>?_
  ·have c:=w6 c;have o:u*4294967296+w<((n:Int)+1)*Y:=by rw[<-z];exact TM A y C.2 c
   exact zz (fun e=>zk l<|zx<|x _ ae (cut o<|w6 e) _) (fun e=>k o (by have:=w7 e;omega))
  ·have c:=w7 c;have d:=w6 d;have a:=zh (show((n+1:Nat):Int)<=4294967295 by omega) h0.1;have b:=zr (show 0<=((n+1:Nat):Int)by omega) h0.1;rw[wu (((n+1:Nat):Int)*g) ae ae,wu (4294967296*r) ae ae,wu _ ae ae]at d;have o:u*4294967296+w<((n:Int)+1)*Y:=by rw[<-z];exact Xz v m d
   exact zz (fun e=>zk l<|zx<|x _ ae (cut o<|w6 e) _) (fun e=>k o (by have:=w7 e;omega))
  ·have c:=w7 c;have d:=w7 d;have a:=zh (show((n+1:Nat):Int)<=4294967295 by omega) h0.1;have b:=zr (show 0<=((n+1:Nat):Int)by omega) h0.1;rw[wu (((n+1:Nat):Int)*g) ae ae,wu (4294967296*r) ae ae,wu _ ae ae]at d;exact zk l (zx<|x _ ae ⟨KL v m ae,j⟩ _)
end T226
theorem Tx{y:Int}(d:0<y)(h:y<18446744073709551616):∃s:Nat,Sp.lz y=(s:Int)/\s<=63/\y*2^s<18446744073709551616/\9223372036854775808<=y*2^s:=by
 obtain⟨n,rfl⟩:=zm<|z8 d;have c:n≠0:=ae
 have j:n.log2<64:=(Nat.log2_lt c).2 ae;have a:=Nat.log2_self_le c;have b:=Nat.lt_log2_self (n:=n);have f:2^n.log2*2^(63-n.log2)=2^63:=by rw[<-yr];congr 1;omega
 have e:2^(n.log2+1)*2^(63-n.log2)=2^64:=by rw[<-yr];congr 1;omega
 have i:2^63<=n*2^(63-n.log2):=by rw[<-f];exact Nat.mul_le_mul_right _ a
 have g:n*2^(63-n.log2)<2^64:=by rw[<-e];exact Nat.mul_lt_mul_of_pos_right b<|yn _
 refine⟨63-n.log2,?_,by omega,?_,?_⟩
 ·unfold Sp.lz Sp.GC;rw[wc ae,zt];omega
 ·have:((n*2^(63-n.log2):Nat):Int)<18446744073709551616:=ae
  rw[yo,yd]at this;exact this
 ·have:(9223372036854775808:Int)<=((n*2^(63-n.log2):Nat):Int):=ae
  rw[yo,yd]at this;exact this
theorem YR{a b:Int}{s:Nat}(i:0<=a)(c:0<=b)(h:b<2^s)(f:a*2^s+b<18446744073709551616):Zu .u64 (a*2^s) b=a*2^s+b:=by
 obtain⟨m,rfl⟩:=zm i;obtain⟨k,rfl⟩:=zm c;have d:((m:Int)*2^s)=((m*2^s:Nat):Int):=by rw[yo,yd];rfl
 have g:k<2^s:=by
  have e:((2:Int)^s)=((2^s:Nat):Int):=by rw[yd];rfl
  rw[e]at h;omega
 rw[d]at f ⊢;have e:(yk 64 ((m*2^s:Nat):Int)|||yk 64 (k:Int)).toNat=m*2^s+k:=by
  rw[BitVec.toNat_or,BitVec.ofInt_natCast,BitVec.ofInt_natCast,BitVec.toNat_ofNat,BitVec.toNat_ofNat,Nat.mod_eq_of_lt ae,Nat.mod_eq_of_lt ae,Nat.mul_comm m,Nat.two_pow_add_eq_or_of_lt g]
 show zc .u64 (((yk 64 ((m*2^s:Nat):Int)|||yk 64 (k:Int)).toNat:Nat):Int)=_;rw[e,kF _ ae];omega
namespace T226
theorem start{u c d Y w:Int}(i:Y=c*4294967296+d)(k:0<c/\c<4294967296)(h0:0<=d)(f:0<=u/\u<18446744073709551616)(l:w<4294967296):
  ∃(n:Nat) (r:Int),zc .u64 (zq u c)=(n:Int)/\zc .u64 (u-zc .u64 ((n:Int)*c))=r/\(n:Int)<18446744073709551616/\(n:Int)*c+r=u/\0<=r/\r<4294967296/\u*4294967296+w<((n:Int)+1)*Y:=by
 have h:0<=u/c:=yp f.1 ae;have q1:u/c<=u:=Int.ediv_le_self _ f.1;have e:=Int.mul_ediv_add_emod u c;have j:=Int.emod_nonneg u (show c≠0 by omega);have r1:=Int.emod_lt_of_pos u k.1;rw[zu]at e;obtain⟨n,g⟩:=zm h;have m:0<=(n:Int)*c:=zr ae ae;rw[g]at e;refine⟨n,u % c,?_,?_,by omega,e,j,by omega,?_⟩
 ·rw[yi f.1,g,wu _ ae ae]
 ·rw[wu ((n:Int)*c) ae ae,wu _ ae ae];omega
 ·subst i;have a:((n:Int)+1)*(c*4294967296+d)=((n:Int)*c+c)*4294967296+((n:Int)+1)*d:=by
   rw[Int.mul_add, <-zo,zp,z7]
  have b:0<=((n:Int)+1)*d:=zr ae h0;rw[a];omega
theorem Q0{u w q Y:Int}(c:Exact Y u w q)(d:Y<18446744073709551616):zc .u64 (zc .u64 (zc .u64 (u*(4294967296:Int))+w)-zc .u64 (q*Y))=u*4294967296+w-q*Y:=by
 obtain⟨a,b⟩:=c;rw[zp,z7]at b;rw[KZ,KZ,KZ,KZ];generalize q*Y=A at*;omega
theorem qI[Srt](h:Af A9 228 cLZ):Dn lL:=Aa h AP
set_option maxHeartbeats 1000000 in
theorem ok[Srt](V:Af A9 228 cLZ):Af A9 226 Rp:=by
 refine Lq (X:=lL) rfl (qI V) (d:=9) ag ag ag (fun(i:Int×Int×Int) F=>?_) (Bn ag);obtain⟨e,f,y⟩:=i;have F:(Sp.u64 e&&Sp.u64 f&&Sp.u64 y&&decide (e<y))=true:=F;rw[yc,yc,yc,w5]at F;obtain⟨⟨⟨E,g⟩,A⟩,h4⟩:=F;have uy:=A;have E:=Sp.A3 E;have g:=Sp.A3 g;have A:=Sp.A3 A;have hg:∀q r ob,q=Sp.dq e f y->r=Sp.dr e f y->Ad Rp (e,f,y) (PV.tup [PV.dat (zj zd) q,PV.dat (zj zd) r]) ob:=fun q r ob I e2=>yu rfl rfl (Prod.ext I e2)
 refine Ends.eq (Ai e f y) (Ends.ff (by simp;omega)<|Ends.ff (w8 ae)<|zz (fun c=>?_)<|fun c=>?_)
 ·have c:e=0:=by simpa using c
  subst c;have q0:0<=f/y:=yp g.1 ae;have q1:f/y<=f:=Int.ediv_le_self _ g.1;refine zk (w4 ae) (zk (w4 ae)<|zx<|hg _ _ _ ?_ ?_)
  ·unfold Sp.dq;rw[yi g.1,wu _ ae ae,Int.zero_mul,ym]
  ·unfold Sp.dr;rw[Int.tmod_eq_emod_of_nonneg g.1,Int.zero_mul,ym]
 ·have c:e≠0:=by simpa using c
  obtain⟨s,hs,hs63,P,Z⟩:=Tx (y:=y) ae A.2;have es:zc .u64 (s:Int)=(s:Int):=kF s ae;have em:yj s 64=s:=ae
  have N:zc .u64 ((64:Int)-(s:Int))=((64-s:Nat):Int):=by rw[wu _ ae ae];omega
  have O:yj (64-s) 64=64-s:=ae
  have j:(2:Int)^s*2^(64-s)=18446744073709551616:=by rw[<-Int.pow_add,show s+(64-s)=64 by omega];rfl
  have h:(0:Int)<2^s:=Int.pow_pos af;have hR:(0:Int)<2^(64-s):=Int.pow_pos af;have a0:0<=f/2^(64-s):=yp g.1 ae;have led:=Int.mul_ediv_add_emod f<|2^(64-s);have c0:=Int.emod_nonneg f (show(2:Int)^(64-s)≠0 by omega);have c1:=Int.emod_lt_of_pos f hR;have aP:f/2^(64-s)<2^s:=Int.ediv_lt_of_lt_mul hR (by rw[j];exact g.2);have hiP:e*2^s+2^s<=y*2^s:=by
   have:=zh (show e+1<=y by omega)<|z8 h;rw[zp,z7]at this;exact this
  have L:0<=e*2^s:=zr E.1<|z8 h;have efd:zn f ((2:Int)^(64-s))=f/2^(64-s):=yb _ ae;have W:Zu .u64 (e*2^s) (f/2^(64-s))=e*2^s+f/2^(64-s):=YR E.1 a0 aP ae;have G:0<=(f % 2^(64-s))*2^s:=zr c0<|z8 h;have K:(f % 2^(64-s))*2^s<18446744073709551616:=by
   have:=Int.mul_lt_mul_of_pos_right c1 h;rw[zu<|2^(64-s),j]at this;exact this
  have k:f*2^s=(f/2^(64-s))*18446744073709551616+(f % 2^(64-s))*2^s:=by
   conv=>lhs;rw[<-led]
   rw[zp, <-j,zu (2^(64-s))<|f/2^(64-s),zo,zu (2^(64-s))<|2^s]
  have S:zc .u64 (f*2^s)=(f % 2^(64-s))*2^s:=by rw[k,KZ];omega
  have hN:(e*2^s+f/2^(64-s))*18446744073709551616+(f % 2^(64-s))*2^s=(e*18446744073709551616+f)*2^s:=by
   rw[zp (e*18446744073709551616) f<|2^s,k,zo e 18446744073709551616<|2^s,zu 18446744073709551616<|(2:Int)^s, <-zo];omega
  have R:zc .u64 (y*2^s)=y*2^s:=wu _ ae ae;have J:zc .u64 (e*2^s)=e*2^s:=wu _ L ae;have z0:decide ((0:Int)<=(s:Int))=true:=w4 ae;have fin:∀q:Int,q*(y*2^s)<=(e*18446744073709551616+f)*2^s->(e*18446744073709551616+f)*2^s<(q+1)*(y*2^s)->q=Sp.dq e f y/\zn ((e*18446744073709551616+f)*2^s-q*(y*2^s)) (2^s)=Sp.dr e f y:=by
   intro q B v;unfold Sp.dq Sp.dr;generalize e*18446744073709551616+f=M at*;rw[<-zo]at B v;have g1:q*y<=M:=Int.le_of_mul_le_mul_right B h;have g2:M<(q+1)*y:=Int.lt_of_mul_lt_mul_right v<|z8 h;rw[zp,z7]at g2;obtain⟨u1,u2⟩:=(Int.ediv_emod_unique (a:=M) (b:=y) (r:=M-q*y) (q:=q) ae).2 ⟨by rw[zu y q];omega,by omega,by omega⟩;refine⟨u1.symm,?_⟩;rw[u2, <-zo, <-Int.sub_mul,yb _<|z8 h];exact Int.mul_ediv_cancel _ ae
  obtain⟨Y,eY⟩:=zm (show 0<=y*2^s by omega);obtain⟨C,eC⟩:=zm G;have hU0:0<=e*2^s+f/2^(64-s):=ae
  have l:e*2^s+f/2^(64-s)<y*2^s:=ae
  rw[hs,es,N,zt,zt,em,O,R,J,efd,W,S];rw[eC]at hN K ⊢;rw[eY]at P Z l fin ⊢;generalize hU:e*2^s+f/2^(64-s)=U at*;generalize hM:(e*18446744073709551616+f)*2^s=M at*;rw[Zl,Zl,NS Y ae,NS C ae];have x:(Y:Int)=((Y/4294967296:Nat):Int)*4294967296+((Y % 4294967296:Nat):Int):=ae
  have o:0<((Y/4294967296:Nat):Int)/\((Y/4294967296:Nat):Int)<4294967296:=ae
  have D:0<=((Y % 4294967296:Nat):Int)/\((Y % 4294967296:Nat):Int)<4294967296:=ae
  have w1:0<=((C/4294967296:Nat):Int)/\((C/4294967296:Nat):Int)<4294967296:=ae
  have w0:0<=((C % 4294967296:Nat):Int)/\((C % 4294967296:Nat):Int)<4294967296:=ae
  have hC:(C:Int)=((C/4294967296:Nat):Int)*4294967296+((C % 4294967296:Nat):Int):=ae
  generalize ((Y/4294967296:Nat):Int)=y1 at*;generalize ((Y % 4294967296:Nat):Int)=y0 at*;generalize ((C/4294967296:Nat):Int)=w at*;generalize ((C % 4294967296:Nat):Int)=z at*;refine zk uy (zk z0<|zk rfl (zk z0<|zk (w4 ae)<|zk z0<|zk rfl (zk (w4 ae) ?_)));obtain⟨n,r,I,e2,n1,n2,n3,n4,n5⟩:=start (u:=U) (w:=w) x o D.1 ae w1.2;rw[I,e2];refine As (Y:Int) s y1 y0 U w z x o D l w1 (fun p p0 hp=>?_) n r n1 n2 n3 n4 n5;have er:=Q0 hp ae;rw[er];have hp1:=hp.1;have H:=hp.2;rw[zp,z7]at H;obtain⟨m,t,k1,k2,m1,m2,m3,m4,m5⟩:=start (u:=U*4294967296+w-p*Y) (w:=z) x o D.1 ae w0.2;rw[k1,k2];refine A1 (Y:Int) s y1 y0 _ z p x o D ae w0 ae (fun q q0 hq ob=>?_) m t m1 m2 m3 m4 m5;rw[Q0 hq ae,zt,em];obtain⟨hq1,hq2⟩:=hq;have T:(p*4294967296+q)*(Y:Int)=p*Y*4294967296+q*Y:=by
   rw[zp,zo,zu 4294967296 (Y:Int), <-zo]
  have ez1:(p*4294967296+q+1)*(Y:Int)=p*Y*4294967296+q*Y+Y:=by
   rw[zp,T,z7]
  rw[zp,z7]at hq2;obtain⟨B,v⟩:=fin (p*4294967296+q) (by rw[T];omega) (by rw[ez1];omega);refine hg _ _ _ ?_ ?_
  ·have hb:Sp.dq e f y<18446744073709551616:=by
    unfold Sp.dq;refine Int.ediv_lt_of_lt_mul ae ?_;have:=Int.mul_le_mul_of_nonneg_left (show e+1<=y by omega) (show(0:Int)<=18446744073709551616 by decide);omega
   rw[<-B]at hb ⊢;rw[KZ,KZ];omega
  ·rw[<-v,T];congr 1;omega
end T226
open Sp
theorem fX(x k:Nat)(h:2^k<=x):x.log2=k+(x/2^k).log2:=by
 have d:=yn k;have e:x/2^k≠0:=by
  have:=Nat.div_pos h d;omega
 have f:x≠0:=ae
 refine(Nat.log2_eq_iff f).2 ⟨?_,?_⟩
 ·rw[yr];exact Nat.le_trans (Nat.mul_le_mul_left _<|Nat.log2_self_le e)<|Nat.mul_div_le x<|2^k
 ·rw[Nat.add_assoc,yr];have a:x/2^k+1<=2^((x/2^k).log2+1):=Nat.lt_log2_self;have b:=Nat.mul_le_mul_left (2^k) a;have c:=Nat.lt_mul_div_succ x d;exact Nat.lt_of_lt_of_le c b
theorem P5(x k:Nat)(h:2^k<=x):GC (x:Int)=(k:Int)+GC ((x/2^k:Nat):Int):=by
 have a:=yn k;have b:=Nat.div_pos h a;have e:=fX x k h;unfold GC;rw[wc ae,wc ae,zt,zt,e];omega
theorem xD(n k:Nat):zn (n:Int) ((2:Int)^k)=((n/2^k:Nat):Int):=by
 have:(0:Int)<2^k:=Int.pow_pos af;rw[yb _ ae,Int.natCast_ediv,yd];rfl
def vS:Z:=[(0:UInt8),1,2,2,3,3,3,3,4,4,4,4,4,4,4,4,5,5,5,5,5,5,5,5,5,5,5,5,5,5,5,5,6,6,6,6,6,6,6,6,6,6,6,6,6,6,6,6,6,6,6,6,6,6,6,6,6,6,6,6,6,6,6,6,7,7,7,7,7,7,7,7,7,7,7,7,7,7,7,7,7,7,7,7,7,7,7,7,7,7,7,7,7,7,7,7,7,7,7,7,7,7,7,7,7,7,7,7,7,7,7,7,7,7,7,7,7,7,7,7,7,7,7,7,7,7,7,7,8,8,8,8,8,8,8,8,8,8,8,8,8,8,8,8,8,8,8,8,8,8,8,8,8,8,8,8,8,8,8,8,8,8,8,8,8,8,8,8,8,8,8,8,8,8,8,8,8,8,8,8,8,8,8,8,8,8,8,8,8,8,8,8,8,8,8,8,8,8,8,8,8,8,8,8,8,8,8,8,8,8,8,8,8,8,8,8,8,8,8,8,8,8,8,8,8,8,8,8,8,8,8,8,8,8,8,8,8,8,8,8,8,8,8,8,8,8,8,8,8,8,8,8,8,8,8,8]
theorem XF:∀m:Fin 256,((ze (vS.getD m.val 0):Nat):Int)=GC (m.val:Int)/\zc .u8 (m.val:Int)=(m.val:Int)/\GC (m.val:Int)<=8/\0<=GC (m.val:Int):=by decide+kernel
theorem MS{b:Int}(a z x:Nat)(i:b=a)(j:a<=64)(g:z<256)(h:GC (x:Int)=(a:Int)+GC (z:Int)):zc .i64 (b+zc .i64 ((ze (vS.getD (Int.toNat<|zc .u8 (z:Int)) 0):Nat):Int))=GC x:=by
 obtain⟨c,d,f,e⟩:=XF ⟨z,g⟩;have c:((ze (vS.getD z 0):Nat):Int)=GC (z:Int):=c;have d:zc .u8 (z:Int)=(z:Int):=d;have f:GC (z:Int)<=8:=f;have e:0<=GC (z:Int):=e;rw[d,zt,c,i,h,wr (GC (z:Int)) ae ae,wr _ ae ae]
theorem uS(z:Nat)(b:z<256):(decide ((0:Sh.T (zj zy))<=zc zy (z:Int))&&decide (zc zy (z:Int)<(↑(256:Nat):Int)))=true:=by
 obtain⟨_,a,_,_⟩:=XF ⟨z,b⟩;have a:zc .u8 (z:Int)=(z:Int):=a;rw[a];exact Ab (w4<|show(0:Int)<=(z:Int)by omega) (w4 ae)
namespace T192
set_option maxHeartbeats 1000000 in
set_option maxRecDepth 100000 in
theorem ok[Srt]:Af A9 192 bY:=by
 refine BM Ju<|fun(x:Int) f=>?_;have f:=Sp.A3 (n:=x) f;obtain⟨x,rfl⟩:=zm f.1;refine Ends.eq (Ai (x:Int)) ?_;conv=>zeta
 conv=>zeta
 rw[xD x 32,xD x 16,xD x 8,xD (x/2^32) 16,xD (x/2^32) 8,xD (x/2^32/2^16) 8,xD (x/2^16) 8];have j:=P5 x 32;have i:=P5 x 16;have k:=P5 x 8;have e:=P5 (x/2^32) 16;have h:=P5 (x/2^32) 8;have d:=P5 (x/2^32/2^16) 8;have g:=P5 (x/2^16) 8;refine zz (fun c=>zk rfl (zz (fun b=>zk rfl (zz (fun a=>zk rfl (zk (uS _ ?_)<|zx<|yu rfl rfl (MS 56 _ x (by decide+kernel) af ?_ ?_)))<|fun a=>zk (uS _ ?_)<|zx<|yu rfl rfl (MS 48 _ x (by decide+kernel) af ?_ ?_)))<|fun b=>zz (fun a=>zk rfl (zk (uS _ ?_)<|zx<|yu rfl rfl (MS 40 _ x (by decide+kernel) af ?_ ?_)))<|fun a=>zk (uS _ ?_)<|zx<|yu rfl rfl (MS 32 _ x rfl af ?_ ?_))) (fun c=>zz (fun b=>zk rfl (zz (fun a=>zk rfl (zk (uS _ ?_)<|zx<|yu rfl rfl (MS 24 _ x (by decide+kernel) af ?_ ?_)))<|fun a=>zk (uS _ ?_)<|zx<|yu rfl rfl (MS 16 _ x (by decide+kernel) af ?_ ?_)))<|fun b=>zz (fun a=>zk rfl (zk (uS _ ?_)<|zx<|yu rfl rfl (MS 8 _ x (by decide+kernel) af ?_ ?_)))<|fun a=>zk (uS _ ?_)<|zx<|yu rfl rfl (MS 0 _ x rfl af ?_ ?_));all_goals
  first
   |replace c:=w6 c
   |replace c:=w7 c
  first
   |replace b:=w6 b
   |replace b:=w7 b
  first
   |replace a:=w6 a
   |replace a:=w7 a
  omega
end T192
theorem sI[Srt]:Dn XD1:=Aa T192.ok AP
theorem sG{n:Int}(a:0<=n)(b:n<18446744073709551616):0<=Sp.GC n/\Sp.GC n<=64:=by
 unfold Sp.GC;split
 ·omega
 ·have:n.toNat.log2<64:=(Nat.log2_lt ae).2 ae;omega
namespace T228
theorem ok[Srt]:Af A9 228 cLZ:=by
 refine BM sI<|fun(x:Int) hx=>?_;have h:=Sp.A3 (n:=x) hx;have a:=sG h.1 h.2;refine Ends.eq (Ai x)<|zk hx<|zx<|yu rfl rfl ?_;show zc .i64 (64-Sp.GC x)=Sp.lz x;unfold Sp.lz;exact wr _ ae ae
end T228
theorem iJ[Srt]:Af A9 226 Rp:=T226.ok T228.ok
end Go.Pe
namespace Go.Sp
def S6(a b:List Int):Bool:=B3 a&&B3 b&&decide (a.length<=9000)&&decide (b.length<=9000)&&decide (0<Aq b)
end Go.Sp
namespace Go.Pe
open Sp
open Go.Det
def Ga:Ap:=⟨[CZ,CZ],fun i=>S6 i.1 i.2,[CZ,CZ],fun i=>(BD<|Aq i.1/Aq i.2,BD<|Aq i.1 % Aq i.2),false⟩
def JJ[Srt]:AR:=X7 [(206,XZ),(227,VD),(201,Sf),(255,Vo),(256,WX),(226,Rp),(228,cLZ)]
end Go.Pe
namespace Go.Sp
def J3(c:UInt8):Int:=(c.toNat:Int)-48
def BI(c:UInt8):Bool:=decide (48<=c.toNat)&&decide (c.toNat<=57)
def AE(n:Int):Z->Int
 |[]=>n
 |c::r=>AE (10*n+J3 c) r
def Ak(s:Z):Bool:=s.all BI
theorem CL:∀(n:Int) (a b:Z),AE n (a++b)=AE (AE n a) b
 |_,[],_=>rfl
 |n,c::a,b=>by rw[List.cons_append,AE,AE,CL]
theorem Er:∀(s:Z) (n:Int),AE n s=n*10^s.length+AE 0 s
 |[],n=>by simp[AE]
 |c::s,n=>by
  rw[AE,AE,Er s<|10*n+J3 c,Er s<|10*0+J3 c,List.length_cons,Int.pow_succ,zp,Int.mul_zero,ym,zu 10 n,zo,zu 10<|10^s.length,Int.add_assoc]
theorem EE{c:UInt8}(h:BI c=true):0<=J3 c/\J3 c<=9:=by
 unfold BI at h;rw[yc,w5,w5]at h;unfold J3;omega
theorem Bg:∀ {s:Z},Ak s=true->0<=AE 0 s/\AE 0 s<10^s.length
 |[],_=>by simp[AE]
 |c::s,h=>by
  unfold Ak at h;rw[List.all_cons,yc]at h;have a:=EE h.1;have b:=Bg (s:=s) h.2;have d:=Be (show(0:Int)<10 by decide) s.length;have f:=zr a.1<|z8 d;have e:=zh a.2<|z8 d;rw[AE,Er,List.length_cons,Int.pow_succ,Int.mul_zero,ym,zu (10^s.length) 10];omega
theorem Bf{s:Z}(h:Ak s=true)(i:Nat):Ak (s.take i)=true:=by
 grind [Ak]
theorem BS{s:Z}(h:Ak s=true)(i:Nat):Ak (s.drop i)=true:=by
 grind [Ak]
def AW(s:Z):Bool:=decide (s≠[])&&Ak s&&(decide (s.getD 0 0≠48)||decide (s=[48]))
def FJ(a b:AH):AH:=if vI a<0/\Ag (vI a) % vI b≠0 then Nb (CJ<| -(Ag (vI a)/vI b)) (1,[])else CJ<|sg (decide (vI a<0))<|Ag (vI a)/vI b
def XX(a b:AH):Int:=(FJ a b).1
def XI(a b:AH):List Int:=(FJ a b).2
def eB(a b:AH):Int:=CF<|vI a % vI b
def dY(a b:AH):List Int:=CD<|vI a % vI b
def gI(a b:Int):Int:=if a<0 then -(-(Int.gcd a b:Int))else(Int.gcd a b:Int)
theorem Gx(a b:Int):gI a b=(Int.gcd a b:Int):=by unfold gI;split<;>omega
def MV(a b:AH):Int:=CF<|gI (vI a)<|vI b
def MQ(a b:AH):List Int:=CD<|gI (vI a)<|vI b
def pI(a k:Int):Int:=if k<0 then -(-(a^k.toNat))else a^k.toNat
theorem WU(a k:Int):pI a k=a^k.toNat:=by unfold pI;split<;>omega
def pB(a k:Int):Bool:=decide (0<=k)&&decide (k<=100000)&&decide (Ag (pI a k)<(18446744073709551616:Int)^(4000:Nat))
def Tp(a:AH)(k:Int):Int:=CF<|pI (vI a) k
def TC(a:AH)(k:Int):List Int:=CD<|pI (vI a) k
def Ct(n:Int):List Int:=if n<0 then[]else[]
theorem Fe(n:Int):Ct n=[]:=by unfold Ct;split<;>rfl
def Cf(s:Z):Int:=if s.getD 0 0=45 then -AE 0 (s.drop 1)else AE 0 s
def D7(s:Z):Bool:=decide (s.length<=5999)&&(if s.getD 0 0=45 then Ak (s.drop 1)else Ak s)
def C3(s:Z):Int:=CF<|Cf s
def C4(s:Z):List Int:=CD<|Cf s
end Go.Sp
namespace Go.Pe
open Sp
open Go.Det
def G6:Ap:=⟨[AY,AY],fun i=>Bd i.1&&Bd i.2&&decide (0<yq i.2),[AY,AY],fun i=>((XX i.1 i.2,XI i.1 i.2),(eB i.1 i.2,dY i.1 i.2)),false⟩
def X2:Ap:=⟨[AY,AY],fun i=>Bd i.1&&Bd i.2,[AY],fun i=>(MV i.1 i.2,MQ i.1 i.2),false⟩
def cA:Ap:=⟨[AY,i64],fun i=>Bd i.1&&pB (yq i.1) i.2,[AY],fun i=>(Tp i.1 i.2,TC i.1 i.2),false⟩
def On:Ap:=⟨[.str],fun s=>D7 s,[AY],fun s=>(C3 s,C4 s),false⟩
def Uz:Ap:=⟨[i64],fun _=>true,[AY],fun n=>(n,Ct n),false⟩
def XF1[Srt]:AR:=cD [(211,[9,10])] [] [(211,[(9,[3,4,5,8,12,13]),(10,[3,4,5,14,15])])] [(136,Uz),(158,Ga),(157,Sd),(203,lM),(212,gQ),(139,Oy),(199,LJ)]
def XF0[Srt]:AR:=X7 []
def XF2[Srt]:AR:=X7 [(211,G6),(210,tL),(199,LJ)]
def XF3[Srt]:AR:=X7 [(136,Uz),(135,Qw)]
end Go.Pe
namespace Go.Sp
abbrev B9:Nat:=1000000000
def JY(l:List Int):Bool:=decide (l.length<=20000)&&l.all fun d=>decide (0<=d)&&decide (d<1000000000)
def hR(l:List Int):Bool:=JY l&&decide (l.length<=9000)
def A0(l:List Int):Bool:=JY l&&vO l
def Aj(l:List Int):Int:=val B9 l
def BG(n:Int):List Int:=dg B9 n
def rN(n:Int):Bool:=decide (n<0)
def rW(n:Int):List Int:=BG<|Ag n
def Cu(neg:Bool)(w:List Int):Bool:=neg&&decide (Ax w≠[])
def DG(s:Z):Bool:=decide (s.length<=18)&&Ak s
def BJ(s:Z):Int:=AE 0 s
def Hy(s:Z):Bool:=rN<|Cf s
def HC(s:Z):List Int:=rW<|Cf s
def Cc(a b:List Int):List Int:=BG<|gI (Aj a)<|Aj b
end Go.Sp
namespace Go.Pe
open Sp
open Go.Det
abbrev li:Sh:=.list i64
abbrev Hm:Sh:=.pair .bool li
def Rv:Ap:=⟨[li],fun l=>decide (ye (α:=Int) l<=20000),[li],fun l=>Ax l,false⟩
def GU:Ap:=⟨[.bool,li],fun i=>decide (ye (α:=Int) i.2<=20000),[Hm],fun i=>(Cu i.1 i.2,Ax i.2),false⟩
def YN:Ap:=⟨[li,li],fun i=>A0 i.1&&A0 i.2,[i64],fun i=>B6 (Aj i.1)<|Aj i.2,false⟩
def Xj:Ap:=⟨[li,li],fun i=>Sp.hR i.1&&Sp.hR i.2,[li],fun i=>BG<|Aj i.1*Aj i.2,false⟩
def WT:Ap:=⟨[li,i64],fun i=>JY i.1&&decide (0<(i.2:Int))&&decide ((i.2:Int)<1000000000),[li,i64],fun i=>(BG<|Aj i.1/i.2,Aj i.1 % i.2),false⟩
def QX:Ap:=⟨[li,li],fun i=>A0 i.1&&A0 i.2&&decide (ye (α:=Int) i.1<=9000)&&decide (ye (α:=Int) i.2<=9000)&&decide (0<Aj i.2),[li,li],fun i=>(BG<|Aj i.1/Aj i.2,BG<|Aj i.1 % Aj i.2),false⟩
def Ln:Ap:=⟨[li,li],fun i=>A0 i.1&&A0 i.2&&decide (ye (α:=Int) i.1<=9000)&&decide (ye (α:=Int) i.2<=9000),[li],fun i=>Cc i.1 i.2,false⟩
def Sm:Ap:=⟨[.str],fun s=>DG s,[i64],fun s=>BJ s,false⟩
def RJ:Ap:=⟨[.str],fun s=>D7 s,[Hm],fun s=>(Hy s,HC s),false⟩
def mL[Srt]:AR:=X7 []
def aV[Srt]:AR:=X7 [(239,Rv)]
def LV[Srt]:AR:=X7 [(237,YN),(239,Rv),(240,WT),(169,Xj)]
def XG3[Srt]:AR:=X7 [(168,QX)]
def aW[Srt]:AR:=X7 [(165,Sm),(164,GU)]
end Go.Pe
namespace Go.Sp
def Dc:Z:=[48,49,50,51,52,53,54,55,56,57]
def uL(o:List Bool):List Bool:=(List.range 256).map fun j=>o.getD j false
def tT:List Bool:=List.replicate 256 false
def Pu(s:Z):Z:=((s.reverse.dropWhile BI).reverse).dropWhile BI
def OM(s:Z)(c:Int):Int:=match s.findIdx? (fun x=>x==c.toNat.toUInt8)with
 |some i=>(i:Int)
 |none=> -1
def AG(s:Z):Z:=match s.findIdx? (fun x=>x==47)with
 |some i=>s.take i
 |none=>s
def AT(s:Z):Z:=match s.findIdx? (fun x=>x==47)with
 |some i=>s.drop<|i+1
 |none=>[]
def BE(s:Z):Bool:=s.any<|fun x=>x==47
def Bk(s:Z):Z:=if s.getD 0 0=45 then s.drop 1 else s
def preB(s:Z):Bool:=decide (s.getD 0 0=45)
def tK(s t:Z):Bool:=decide (t=Dc)&&decide (s.length<=1000000)
def vQ(s t:Z):Bool:=decide (t=[47])&&decide (s.length<=1000000)
def dX(s t:Z):Bool:=decide (t=[45])&&decide (s.length<=1000000)
end Go.Sp
namespace Go.Pe
open Sp
open Go.Det
def VW:Ap:=⟨[.str,.str],fun i=>tK i.1 i.2,[.str],fun i=>Pu i.1,false⟩
def uR:Ap:=⟨[.str,.int .u8],fun i=>decide (0<=(i.2:Int))&&decide ((i.2:Int)<256),[i64],fun i=>OM i.1 i.2,false⟩
def gF:Ap:=⟨[.str,.str],fun i=>vQ i.1 i.2,[.str,.str,.bool],fun i=>(AG i.1,Sp.AT i.1,BE i.1),false⟩
def uY:Ap:=⟨[.str,.str],fun i=>dX i.1 i.2,[.str,.bool],fun i=>(Bk i.1,Sp.preB i.1),false⟩
def Wo:Ap:=⟨[.str],fun s=>decide (s.length<=1000000),[.bool],fun s=>AW s,false⟩
def NZ[Srt]:AR:=X7 []
def aU[Srt]:AR:=X7 [(262,⟨[.str,.str],fun _=>false,[.str],fun i=>i.1,false⟩),(263,⟨[.str,.str],fun _=>false,[.str],fun i=>i.1,false⟩),(257,⟨[.str,.int .u8],fun _=>false,[.str],fun i=>i.1,false⟩),(258,⟨[.str,.int .u8],fun _=>false,[.str],fun i=>i.1,false⟩)]
def XH1[Srt]:AR:=X7 [(209,VW)]
def XH2[Srt]:AR:=X7 [(314,uR)]
def Qg[Srt]:AR:=X7 [(136,Uz),(197,cA),(135,Qw),(139,Oy),(198,UN),(295,⟨[.str,i64,i64],fun _=>false,[i64],fun _=>(0:Int),false⟩),(254,⟨[.str],fun _=>false,[i64],fun _=>(0:Int),false⟩)]
end Go.Pe
namespace Go.Sp
def HY(a:Z):Bool:=AW (AG<|Bk a)&&(!preB a||decide (AG (Bk a)≠[48]))&&(!BE (Bk a)||(AW (AT<|Bk a)&&decide (AT (Bk a)≠[48])&&decide (AT (Bk a)≠[49])))
def zE(a:Z):Int:=AE 0<|AG<|Bk a
def xR(a:Z):Int:=AE 0<|AT<|Bk a
def BK(a:Z):Int:=if HY a=false then 1 else if 600<(AG<|Bk a).length\/600<(AT<|Bk a).length then 4 else if BE (Bk a)=true/\gI (zE a) (xR a)≠1 then 1 else 0
def Bc(s:Z):Int:=((AG s).length:Int)
def JK(a:Z):Bool:=D7 (AG a)&&D7 (AT a)&&decide (a.length<=5999)
def Bh(a:Z):Int:=Cf<|AG a
def AS(a:Z):Int:=if BE a=true then Cf (AT a)else 1
def BH(a:Z):Bool:=rN<|Bh a
def BA(a:Z):List Int:=rW<|Bh a
def Bm(a:Z):Bool:=rN<|AS a
def Bi(a:Z):List Int:=rW<|AS a
end Go.Sp
namespace Go.Pe
open Sp
open Go.Det
def Jq:Ap:=⟨[.str],fun s=>decide (s.length<=1000000),[i64],fun s=>BK s,false⟩
def RX:Ap:=⟨[.str],fun s=>decide (s.length<=1000000),[i64],fun s=>Bc s,false⟩
def Xf:Ap:=⟨[.str],fun s=>decide (s.length<=9223372036854775807),[i64],fun s=>Bc s,false⟩
def Rm:Ap:=⟨[.str],fun s=>decide (s.length<=9223372036854775807),[.bool],fun s=>AW s,false⟩
def Jr:Ap:=⟨[i64],fun n=>Ca n,[Hm],fun n=>(Sp.rN n,Sp.rW n),false⟩
def Nt:Ap:=⟨[.str],fun s=>JK s,[Hm,Hm],fun s=>((BH s,BA s),(Bm s,Bi s)),false⟩
def Lw[Srt]:AR:=cD [(86,[4,6,7,9,10])] [] [(86,[(4,[5,6,7,8]),(6,[5,6,7,8]),(7,[5,6,7,9]),(9,[5,6,7]),(10,[10])])] [(110,FE),(111,Ks),(141,uY),(131,gF),(142,Wo),(143,X2),(133,On),(144,cN),(136,Uz)]
def uG[Srt]:AR:=X7 [(164,GU)]
def XK3[Srt]:AR:=X7 [(151,RX),(166,RJ),(101,Jr)]
def Ut[Srt]:AR:=cD [(93,[4,7,9,11,13,14])] [] [(93,[(4,[0,3]),(7,[3,4]),(9,[3,4]),(11,[3,4]),(13,[5,6]),(14,[7])])] [(151,Xf),(152,Rm),(103,Nt),(153,Ln)]
end Go.Pe
namespace Go.Sp
abbrev Al:=(Int×List Int)×(Int×List Int)
def Nf(a:AH):Bool:=Dx a&&decide (a.2.length<=4000)
def Fc(a:Al):Bool:=Nf a.1&&Nf a.2
def PI(a b:Al):Int:=B6 (vI a.1*vI b.2)<|vI b.1*vI a.2
def fU(a:Z):Int:=CF<|Bh a
def cS(a:Z):List Int:=CD<|Bh a
def Xd(a:Z):Int:=CF<|AS a
def V1(a:Z):List Int:=CD<|AS a
def iQ(a b:AH):AH:=if vI b<0 then FJ (CY a) (CY b)else FJ a b
def iQS(a b:AH):Int:=(iQ a b).1
def iQW(a b:AH):List Int:=(iQ a b).2
def CM(d:AH):Bool:=decide (d.2=[])&&decide (d.1=1)
def gR(n d:AH):AH:=(MV n d,MQ n d)
def M6(n d:AH):Al:=if CM d=true then(n,d)else(iQ n<|gR n d,iQ d<|gR n d)
def WH(n d:AH):Al:=if vI d<0 then M6 (CY n) (CY d)else M6 n d
def fWh(n:AH):Al:=(n,(1,Ct 1))
def JF(a b:Al):Al:=if CM a.2=true/\CM b.2=true then fWh (Ee a.1 b.1)else WH (Ee (EV a.1 b.2)<|EV b.1 a.2)<|EV a.2 b.2
def Hw(a b:Al):Al:=WH (EV a.1 b.1)<|EV a.2 b.2
def zI(a:Al):Al:=(CY a.1,a.2)
def Sj(a b:Al):Al:=JF a<|zI b
def Uo(a:Al):Al:=WH a.2 a.1
def J5(a b:Al):Al:=Hw a<|Uo b
def nS(f:Al):Int:=f.1.1
def nW(f:Al):List Int:=f.1.2
def dS(f:Al):Int:=f.2.1
def dW(f:Al):List Int:=f.2.2
def cG(n d:AH):Int:=nS<|WH n d
def jO(n d:AH):List Int:=nW<|WH n d
def aZ(n d:AH):Int:=dS<|WH n d
def iH(n d:AH):List Int:=dW<|WH n d
def uN(a b:Al):Int:=nS<|JF a b
def vK(a b:Al):List Int:=nW<|JF a b
def tO(a b:Al):Int:=dS<|JF a b
def uJ(a b:Al):List Int:=dW<|JF a b
def Aca(a b:Al):Int:=nS<|Sj a b
def AaM(a b:Al):List Int:=nW<|Sj a b
def Aav(a b:Al):Int:=dS<|Sj a b
def AaA(a b:Al):List Int:=dW<|Sj a b
def uK(a b:Al):Int:=nS<|Hw a b
def vG(a b:Al):List Int:=nW<|Hw a b
def uT(a b:Al):Int:=dS<|Hw a b
def uH(a b:Al):List Int:=dW<|Hw a b
def Acn(a:Al):Int:=nS<|Uo a
def Abf(a:Al):List Int:=nW<|Uo a
def AaI(a:Al):Int:=dS<|Uo a
def Aa6(a:Al):List Int:=dW<|Uo a
def Abc(a b:Al):Int:=nS<|J5 a b
def AaE(a b:Al):List Int:=nW<|J5 a b
def AaZ(a b:Al):Int:=dS<|J5 a b
def Abd(a b:Al):List Int:=dW<|J5 a b
def flS(a:Al):Int:=XX a.1 a.2
def flW(a:Al):List Int:=XI a.1 a.2
def DD(a:Al):Bool:=Fc a&&decide (0<vI a.2)
def J4(n d:AH):Bool:=Bd n&&Bd d&&decide (vI d≠0)
end Go.Sp
namespace Go.Pe
open Sp
open Go.Det
abbrev A6:Sh:=.pair AY AY
def jM:Ap:=⟨[.str],fun s=>JK s,[A6],fun s=>((fU s,cS s),(Xd s,V1 s)),false⟩
def uF:Ap:=⟨[A6,A6],fun i=>Sp.Fc (i.1:Al)&&Sp.Fc (i.2:Al),[i64],fun i=>PI (i.1:Al) (i.2:Al),false⟩
def cIQ:Ap:=⟨[AY,AY],fun i=>J4 i.1 i.2,[AY],fun i=>(Sp.iQS i.1 i.2,Sp.iQW i.1 i.2),false⟩
def eJ:Ap:=⟨[AY,AY],fun i=>J4 i.1 i.2,[A6],fun i=>((cG i.1 i.2,jO i.1 i.2),(aZ i.1 i.2,iH i.1 i.2)),false⟩
def P7:Ap:=⟨[A6],fun _=>true,[.bool],fun a=>CM (a:Al).2,false⟩
def hZ:Ap:=⟨[AY],fun _=>true,[A6],fun n=>((n:AH),((1:Int),Ct 1)),false⟩
def cF:Ap:=⟨[i64],fun _=>true,[A6],fun n=>(((n:Int),Ct n),((1:Int),Ct 1)),false⟩
def tS:Ap:=⟨[A6],fun a=>Dx (a:Al).1,[A6],fun a=>((Eh (a:Al).1,Ej (a:Al).1),((a:Al).2.1,(a:Al).2.2)),false⟩
def YS:Ap:=⟨[A6,A6],fun i=>Sp.DD (i.1:Al)&&Sp.DD (i.2:Al),[A6],fun i=>((uN i.1 i.2,vK i.1 i.2),(tO i.1 i.2,uJ i.1 i.2)),false⟩
def tH:Ap:=⟨[A6,A6],fun i=>Sp.DD (i.1:Al)&&Sp.DD (i.2:Al),[A6],fun i=>((Aca i.1 i.2,AaM i.1 i.2),(Aav i.1 i.2,AaA i.1 i.2)),false⟩
def Yq:Ap:=⟨[A6,A6],fun i=>Sp.DD (i.1:Al)&&Sp.DD (i.2:Al),[A6],fun i=>((uK i.1 i.2,vG i.1 i.2),(uT i.1 i.2,uH i.1 i.2)),false⟩
def uX:Ap:=⟨[A6],fun a=>Sp.DD (a:Al)&&decide (yq (a:Al).1≠0),[A6],fun a=>((Acn a,Abf a),(AaI a,Aa6 a)),false⟩
def jE:Ap:=⟨[A6,A6],fun i=>Sp.DD (i.1:Al)&&Sp.DD (i.2:Al)&&decide (yq (i.2:Al).1≠0),[A6],fun i=>((Abc i.1 i.2,AaE i.1 i.2),(AaZ i.1 i.2,Abd i.1 i.2)),false⟩
def kE:Ap:=⟨[A6],fun a=>Sp.DD (a:Al),[AY],fun a=>(Sp.flS a,Sp.flW a),false⟩
def mK[Srt]:AR:=cD [(200,[3])] [] [(200,[(3,[2,3,4])])] [(199,LJ),(198,UN),(211,G6),(143,X2),(136,Uz),(139,Oy),(135,Qw),(144,cN),(131,gF),(133,On)]
def zY[Srt]:AR:=cD [(134,[3,6])] [] [(134,[(3,[2,3,4]),(6,[2,3,4,5])])] [(199,LJ),(198,UN),(143,X2),(200,cIQ)]
def zJ[Srt]:AR:=cD [(82,[3])] [] [(82,[(3,[2,3,4])])] [(96,P7),(132,hZ),(139,Oy),(135,Qw),(134,eJ)]
def XA3[Srt]:AR:=X7 [(140,tS),(82,YS),(78,Yq),(137,uX)]
end Go.Pe
namespace Go.Sp
def xQ(a:Z):Z:=if BE a=true then AT a else[49]
def D5(a:Z):Bool:=decide (a.length<=20)&&decide ((AG<|Bk a).length<=9)&&decide ((AT<|Bk a).length<=9)
def Iy(a:Z):Int:=if preB a=true then -AE 0 (AG<|Bk a)else AE 0<|AG<|Bk a
def Sv(a:Z):Int:=if BE (Bk a)=true then AE 0 (AT<|Bk a)else 1
def GV(a:Z):Int:=if a=[48]then 0 else if a.getD 0 0=45 then -1 else 1
def KX(a:Z):Z:=if a=[48]then a else if a.getD 0 0=45 then a.drop 1 else 45::a
def HU:Nat->Nat->Nat->Z->Z
 |0,_,_,a=>a
 |f+1,n,l,a=>if n=0/\l<=a.length then a else HU f (n/10) l (UInt8.ofNat (48+n % 10)::a)
def IQ(n l:Int):Z:=HU 64 n.toNat l.toNat []
def AbB(a b:Int):Bool:=decide (0<=a)&&decide (a<9223372036854775808)&&decide (0<=b)&&decide (b<9223372036854775808)
end Go.Sp
namespace Go.Pe
open Go.Det
def uE:Ap:=⟨[i64,i64],fun i=>Sp.AbB i.1 i.2,[i64],fun i=>Sp.gI i.1 i.2,false⟩
def RC:Ap:=⟨[.str],fun s=>decide (s.length<=1000000),[i64],fun s=>Sp.GV s,false⟩
def eF:Ap:=⟨[.str],fun s=>decide (s.length<=1000000),[.str],fun s=>Sp.KX s,false⟩
def PD:Ap:=⟨[i64,i64],fun i=>decide (0<=(i.1:Int))&&decide ((i.1:Int)<9223372036854775808)&&decide (0<=(i.2:Int))&&decide ((i.2:Int)<=20),[.str],fun i=>Sp.IQ i.1 i.2,false⟩
def NB[Srt]:AR:=cD [(102,[5,7,11,13])] [] [(102,[(5,[5,6]),(7,[5,6]),(11,[5,6,7,8,9]),(13,[6,8,9])])] [(165,Sm),(151,RX)]
def XO2[Srt]:AR:=X7 [(154,RC)]
end Go.Pe
namespace Go.Sp
open Go.Lib
theorem FH(a d:Nat)(b:0<a)(c:d<10):decDigits (10*a+d)=decDigits a++[UInt8.ofNat<|48+d]:=by
 rw[decDigits,dif_neg ae,show(10*a+d)/10=a from by omega,show(10*a+d) % 10=d from by omega]
theorem eN(a d:Nat)(b:0<a)(c:d<10):nDigits (10*a+d)=nDigits a+1:=by
 rw[nDigits_big ae,show(10*a+d)/10=a from by omega]
def F4(k b:Nat):Z:=List.replicate (k-nDigits b) 48++decDigits b
theorem Q1(k b d:Nat)(e:1<=k)(a:d<10):F4 (k+1) (10*b+d)=F4 k b++[UInt8.ofNat<|48+d]:=by
 unfold F4;rcases Nat.eq_zero_or_pos b with rfl|c
 ·rw[Nat.mul_zero,Nat.zero_add,nDigits_small a,decDigits_one a,nDigits_small ae,decDigits_one ae];obtain⟨j,rfl⟩:∃j,k=j+1:=⟨k-1,by omega⟩;simp_all [List.replicate_succ']
 grind [eN,FH]
theorem S0:∀(k a b:Nat),1<=k->0<a->b<10^k->decDigits (a*10^k+b)=decDigits a++F4 k b
 |0,_,_,h,_,_=>by omega
 |1,a,b,_,c,d=>by
  rw[Nat.mul_comm,FH a b c d];simp_all [F4,nDigits_small,decDigits_one]
 |k+2,a,b,_,c,d=>by
  have g:b=10*(b/10)+b % 10:=ae
  have i:b/10<10^(k+1):=by
   grind
  have j:a*10^(k+2)+b=10*(a*10^(k+1)+b/10)+b % 10:=by
   grind
  have l:0<a*10^(k+1):=Nat.mul_pos c ae;have f:=S0 (k+1) a (b/10) ae c i;have e:=Q1 (k+1) (b/10) (b % 10) ae ae;rw[j,FH _ _ ae ae,f,List.append_assoc, <-e, <-g]
def B8:Nat->Nat->List Z
 |0,_=>[]
 |f+1,v=>if v<10^18 then[decDigits v]else F4 18 (v % 10^18)::B8 f (v/10^18)
theorem IG:∀(f v:Nat),v<f->(B8 f v).reverse.flatten=decDigits v
 |0,_,h=>by omega
 |f+1,v,h=>by
  unfold B8;split
  ·simp
  ·next c=>
   have a:v/10^18<f:=ae
   have b:=IG f (v/10^18) a;have d:=S0 18 (v/10^18) (v % 10^18) ae ae ae;grind
end Go.Sp
namespace Go.Pe
open Sp
open Go.Det
section
open List Int Prod
namespace T77
def T[Srt](s:Z):Tr:=tree mK false 9 77<|Ae ([zf]) s
theorem Ai[Srt](s:Z):T s=.ck (vQ s [(47:UInt8)]) (.ite (!BE s) (.ck (D7<|AG s)<|.ck true<|.leaf (zl [.dat i64<|C3<|AG s,.dat wU<|C4<|AG s,.dat i64 (1:Int),.dat wU<|Ct 1]) [])<|.ck (D7<|AG s)<|.ck (D7<|Sp.AT s)<|.leaf (zl [.dat i64<|C3<|AG s,.dat wU<|C4<|AG s,.dat i64<|C3<|Sp.AT s,.dat wU<|C4<|Sp.AT s]) []):=by kernel_rfl
end T77
namespace T200
def T[Srt](a b:AH):Tr:=tree mK false 9 200<|Ae ([AY,AY]) (a,b)
def L1[Srt](c o1:Int)(a:List Int)(d:Int)(b:List Int):Tr:=re ((T (0,[]) (0,[])).L.L.L.L)<|AB 21 [(2,.ptr 0 0),(3,.ptr 1 0),(4,.ptr 2 0)] [(2,.box [.dat i64 c,.nil]),(1,.box [.dat i64 o1,.dat wU a]),(0,.box [.dat i64 d,.dat wU b])] 3
theorem Ai[Srt](a b:AH):T a b=.ck (Dx b) (.ite (decide (ID b<0)) (.ck (Dx a)<|.ck (Dx b)<|L1 0 (Eh b) (Ej b) (Eh a)<|Ej a)<|L1 0 (fst b) (snd b) (fst a)<|snd a):=by kernel_rfl
theorem Ar[Srt](d o1:Int)(a:List Int)(c:Int)(b:List Int):stepT mK (L1 d o1 a c b)=.ck (Bd (c,b)&&Bd (o1,a)&&decide (0<yq (o1,a))) (.leaf (zl [.dat i64<|XX (c,b) (o1,a),.dat wU<|XI (c,b) (o1,a)]) []):=by kernel_rfl
end T200
namespace T134
def T[Srt](n d:AH):Tr:=tree zY false 9 134<|Ae ([AY,AY]) (n,d)
def L1[Srt](d c o1:Int)(a:List Int)(e:Int)(b:List Int):Tr:=re ((T (0,[]) (0,[])).L.L.L.L)<|AB 34 [(2,.ptr 0 0),(3,.ptr 1 0),(4,.ptr 2 0)] [(2,.box [.dat i64 d,.nil,.dat i64 c,.nil]),(1,.box [.dat i64 o1,.dat wU a]),(0,.box [.dat i64 e,.dat wU b])] 3
theorem Ai[Srt](n d:AH):T n d=.ck (Dx d) (.ite (decide (ID d<0)) (.ck (Dx n)<|.ck (Dx d)<|L1 0 0 (Eh d) (Ej d) (Eh n)<|Ej n)<|L1 0 0 (fst d) (snd d) (fst n)<|snd n):=by kernel_rfl
def L2[Srt](e:Int)(b:List Int)(f d o1:Int)(a:List Int)(g:Int)(c:List Int):Tr:=re ((stepT zY<|L1 0 0 0 [] 0 []).L.R.L)<|AB 34 [(2,.ptr 0 0),(3,.ptr 1 0),(4,.ptr 2 0),(5,.ptr 3 0)] [(3,.box [.dat i64 e,.dat wU b]),(2,.box [.dat i64 f,.nil,.dat i64 d,.nil]),(1,.box [.dat i64 o1,.dat wU a]),(0,.box [.dat i64 g,.dat wU c])] 4
theorem Ar[Srt](e c o1:Int)(a:List Int)(d:Int)(b:List Int):stepT zY (L1 e c o1 a d b)=let f:Tr:=.ck (Bd (d,b)&&Bd (o1,a))<|L2 (MV (d,b) (o1,a)) (MQ (d,b) (o1,a)) e c o1 a d b;.ite (!decide (0<length a)) (.ite (o1==1) (.leaf (zl [.dat i64 d,.dat wU b,.dat i64 o1,.dat wU a]) []) f) f:=by kernel_rfl
theorem AO[Srt](d:Int)(a:List Int)(g e o1:Int)(b:List Int)(f:Int)(c:List Int):stepT zY (L2 d a g e o1 b f c)=.ck (J4 (f,c) (d,a)) (.ck (J4 (o1,b) (d,a))<|.leaf (zl [.dat i64<|Sp.iQS (f,c) (d,a),.dat wU<|Sp.iQW (f,c) (d,a),.dat i64<|Sp.iQS (o1,b) (d,a),.dat wU<|Sp.iQW (o1,b) (d,a)]) []):=by kernel_rfl
end T134
namespace T96
def T[Srt](a:Al):Tr:=tree mK false 9 96<|Ae ([A6]) a
theorem Ai[Srt](a:Al):T a=.ite (!decide (0<length (snd<|snd a))) (.leaf (.dat zi<|fst (snd a)==1) []) (.leaf (.bl false) []):=by kernel_rfl
end T96
namespace T132
def T[Srt](n:AH):Tr:=tree mK false 9 132<|Ae ([AY]) n
theorem Ai[Srt](n:AH):T n=.ck true (.leaf (zl [.dat i64<|fst n,.dat wU<|snd n,.dat i64 (1:Int),.dat wU<|Ct 1]) []):=by kernel_rfl
end T132
namespace T140
def T[Srt](a:Al):Tr:=tree mK false 9 140<|Ae ([A6]) a
theorem Ai[Srt](a:Al):T a=.ck (Dx<|fst a) (.leaf (zl [.dat i64<|Eh<|fst a,.dat wU<|Ej<|fst a,.dat i64<|fst<|snd a,.dat wU<|snd<|snd a]) []):=by kernel_rfl
end T140
namespace T82
def T[Srt](a b:Al):Tr:=tree zJ false 9 82<|Ae ([A6,A6]) (a,b)
def L1[Srt](h e o1:Int)(a:List Int)(c:Int)(g:List Int)(i:Int)(b:List Int)(f:Int)(d:List Int):Tr:=re ((T ((0,[]),(0,[])) ((0,[]),(0,[]))).L.L.L.R)<|AB 34 [(2,.ptr 0 0),(3,.ptr 1 0),(4,.ptr 2 0)] [(2,.box [.dat i64 h,.nil,.dat i64 e,.nil]),(1,.box [.dat i64 o1,.dat wU a,.dat i64 c,.dat wU g]),(0,.box [.dat i64 i,.dat wU b,.dat i64 f,.dat wU d])] 3
theorem Ai[Srt](a b:Al):T a b=let c:=L1 0 0 (fst<|fst b) (snd<|fst b) (fst<|snd b) (snd<|snd b) (fst<|fst a) (snd<|fst a) (fst<|snd a)<|snd<|snd a;.ck true (.ite (CM<|snd a) (.ck true<|.ite (CM<|snd b) (.ck (Bd (fst a)&&Bd (fst b))<|.ck true<|.leaf (zl [.dat i64<|JW (fst a)<|fst b,.dat wU<|JU (fst a)<|fst b,.dat i64 (1:Int),.dat wU<|Ct 1]) []) c) c):=by kernel_rfl
theorem Ar[Srt](l h o1:Int)(e:List Int)(a:Int)(d:List Int)(i:Int)(f:List Int)(c:Int)(b:List Int):stepT zJ (L1 l h o1 e a d i f c b)=let b':=(EH (c,b) (a,d),ET (c,b) (a,d));let k:=(EH (i,f) (a,d),ET (i,f) (a,d));let j:=(EH (o1,e) (c,b),ET (o1,e) (c,b));let g:=(JW k j,JU k j);.ck (Bd (i,f)&&Bd (a,d)) (.ck (Bd (o1,e)&&Bd (c,b))<|.ck (Bd k&&Bd j)<|.ck (Bd (c,b)&&Bd (a,d))<|.ck (J4 g b')<|.leaf (zl [.dat i64<|cG g b',.dat wU<|jO g b',.dat i64<|aZ g b',.dat wU<|iH g b']) []):=by kernel_rfl
end T82
namespace T78
def T[Srt](a b:Al):Tr:=tree zJ false 9 78<|Ae ([A6,A6]) (a,b)
theorem Ai[Srt](a b:Al):T a b=let c:=(EH (fst a)<|fst b,ET (fst a)<|fst b);let b':=(EH (snd a)<|snd b,ET (snd a)<|snd b);.ck (Bd (fst a)&&Bd (fst b)) (.ck (Bd (snd a)&&Bd (snd b))<|.ck (J4 c b')<|.leaf (zl [.dat i64<|cG c b',.dat wU<|jO c b',.dat i64<|aZ c b',.dat wU<|iH c b']) []):=by kernel_rfl
end T78
namespace T137
def T[Srt](a:Al):Tr:=tree zJ false 9 137<|Ae ([A6]) a
theorem Ai[Srt](a:Al):T a=.ck (J4 (snd a)<|fst a) (.leaf (zl [.dat i64<|cG (snd a)<|fst a,.dat wU<|jO (snd a)<|fst a,.dat i64<|aZ (snd a)<|fst a,.dat wU<|iH (snd a)<|fst a]) []):=by kernel_rfl
end T137
namespace T83
def T[Srt](a b:Al):Tr:=tree XA3 false 9 83<|Ae ([A6,A6]) (a,b)
theorem Ai[Srt](a b:Al):T a b=let c:=((Eh<|fst b,Ej<|fst b),fst<|snd b,snd<|snd b);let b':=((fst a),fst<|snd a,snd<|snd a);.ck (Dx<|fst b) (.ck (Sp.DD b'&&Sp.DD c)<|.leaf (zl [.dat i64<|uN b' c,.dat wU<|vK b' c,.dat i64<|tO b' c,.dat wU<|uJ b' c]) []):=by kernel_rfl
end T83
namespace T80
def T[Srt](a b:Al):Tr:=tree XA3 false 9 80<|Ae ([A6,A6]) (a,b)
theorem Ai[Srt](a b:Al):T a b=let b':=((fst a),fst<|snd a,snd<|snd a);let d:=((fst b),fst<|snd b,snd<|snd b);let c:=Uo d;.ck (Sp.DD d&&decide (yq (fst b)≠0)) (.ck (Sp.DD b'&&Sp.DD c)<|.leaf (zl [.dat i64<|uK b' c,.dat wU<|vG b' c,.dat i64<|uT b' c,.dat wU<|uH b' c]) []):=by kernel_rfl
end T80
namespace T89
def T[Srt](a b:Al):Tr:=tree mK false 9 89<|Ae ([A6,A6]) (a,b)
theorem Ai[Srt](a b:Al):T a b=let c:=(EH (fst a)<|snd b,ET (fst a)<|snd b);let b':=(EH (fst b)<|snd a,ET (fst b)<|snd a);.ck (Bd (fst a)&&Bd (snd b)) (.ck (Bd (fst b)&&Bd (snd a))<|.ck (Bd c&&Bd b')<|.leaf (.dat i64<|Zc c b') []):=by kernel_rfl
end T89
namespace T155
def T[Srt](a:Al):Tr:=tree mK false 9 155<|Ae ([A6]) a
theorem Ai[Srt](a:Al):T a=.ck (Bd (fst a)&&Bd (snd a)&&decide (0<yq (snd a))) (.leaf (zl [.dat i64<|XX (fst a)<|snd a,.dat wU<|XI (fst a)<|snd a]) []):=by kernel_rfl
end T155
namespace T151
def T[Srt](s:Z):Tr:=tree NZ false 9 151<|Ae ([zf]) s
def L1[Srt](v0:Z)(v3:Int):Tr:=re ((T []))<|AB 17 [(0,.dat zf v0),(3,.dat i64 v3)] [] 0
theorem Ai[Srt](s:Z):T s=L1 s 0:=by kernel_rfl
theorem Ar[Srt](v0:Z)(v3:Int):stepT NZ (L1 v0 v3)=let a:=(length v0:Int);.di (v3<a) (.ck (decide (0<=v3)&&decide (v3<a))<|.ite ((↑(ze<|getD v0 (toNat v3) (0:UInt8)):Int)==47) (.leaf (.dat i64 v3) [])<|L1 v0<|zc .i64<|v3+1) (.leaf (.dat i64 a) []):=by kernel_rfl
end T151
namespace T152
def T[Srt](s:Z):Tr:=tree NZ false 9 152<|Ae ([zf]) s
def L1[Srt](s v0:Z)(v3:Int):Tr:=re ((T s).R.L.L.R)<|AB 20 [(0,.dat zf v0),(3,.dat i64 v3)] [] 0
def L2[Srt](s v0:Z)(v3:Int):Tr:=re ((T s).R.R)<|AB 20 [(0,.dat zf v0),(3,.dat i64 v3)] [] 0
theorem Ai[Srt](s:Z):T s=let a:=(length s:Int);.ite (a==0) (.leaf (.bl false) []) (.di (a>1) (.cd (0<a)<|.ite ((↑(ze<|getD s 0 (0:UInt8)):Int)==48) (.leaf (.bl false) [])<|L1 s s 0)<|L2 s s 0):=by kernel_rfl
theorem Ar[Srt](s v0:Z)(v3:Int):stepT NZ (L1 s v0 v3)=let a:=decide (v3<(length v0:Int));let b':=(↑(ze<|getD v0 (toNat v3) (0:UInt8)):Int);.ite a (.ck (decide (0<=v3)&&a)<|.di (b'<48) (.leaf (.bl false) [])<|.ck (decide (0<=v3)&&a)<|.di (b'>57) (.leaf (.bl false) [])<|L1 s v0<|zc .i64<|v3+1) (.leaf (.bl true) []):=by kernel_rfl
theorem AO[Srt](s v0:Z)(v3:Int):stepT NZ (L2 s v0 v3)=let a:=decide (v3<(length v0:Int));let b':=(↑(ze<|getD v0 (toNat v3) (0:UInt8)):Int);.ite a (.ck (decide (0<=v3)&&a)<|.di (b'<48) (.leaf (.bl false) [])<|.ck (decide (0<=v3)&&a)<|.di (b'>57) (.leaf (.bl false) [])<|L2 s v0<|zc .i64<|v3+1) (.leaf (.bl true) []):=by kernel_rfl
end T152
namespace T101
def T[Srt](n:Int):Tr:=tree uG false 9 101<|Ae ([zj yf]) n
def L1[Srt](v0:Int)(v4:Bool):Tr:=re ((T 0))<|AB 25 [(0,.dat i64 v0),(2,.ptr 0 0),(3,.nil),(4,.dat zi v4)] [(0,.box [.bl false,.nil])] 1
theorem Ai[Srt](n:Int):T n=L1 n (decide (n<0)):=by kernel_rfl
def L2[Srt](v0:Int)(a:Nat)(v4:Bool)(o1:List Int):Tr:=re ((stepT uG<|L1 0 false).L.L.L.L.L)<|AB 25 [(0,.dat i64 v0),(2,.ptr 0 0),(3,.sl 1 1 0 a none),(4,.dat zi v4)] [(1,.arr false 3 i64 o1),(0,.box [.bl false,.nil])] 2
theorem Ar[Srt](v0:Int)(v4:Bool):stepT uG (L1 v0 v4)=let a:=aa 8;let b':=zc .i64<|zq v0 1000000000;.ite (v0 !=0) (.ck true<|.di (z6 v0 1000000000<0) (.ck a<|.ck true<|L2 b' 1 v4<|[zc .i64<|0-z6 v0 1000000000])<|.ck a<|.ck true<|L2 b' 1 v4<|[z6 v0 1000000000]) (.cd (0<=20000)<|.leaf (zl [.dat zi<|Sp.Cu v4 [],.dat (zg i64)<|Sp.Ax []]) []):=by kernel_rfl
theorem AO[Srt](v0:Int)(a:Nat)(v4:Bool)(o1:List Int):stepT uG (L2 v0 a v4 o1)=let b:=ac a (length o1) 8;let b':=zc .i64<|zq v0 1000000000;.ite (v0 !=0) (.ck true<|.di (z6 v0 1000000000<0) (.ck b<|.ck true<|L2 b' (yh a 1) v4<|o1++[zc .i64<|0-z6 v0 1000000000])<|.ck b<|.ck true<|L2 b' (yh a 1) v4<|o1++[z6 v0 1000000000]) (.ck (decide (0+a<=length o1)&&true&&decide (length (take a o1)<=20000))<|.leaf (zl [.dat zi<|Sp.Cu v4<|take a o1,.dat (zg i64)<|Sp.Ax<|take a o1]) []):=by kernel_rfl
end T101
namespace T103
def T[Srt](a:Z):Tr:=tree XK3 false 9 103<|Ae ([zf]) a
theorem Ai[Srt](a:Z):T a=let b':=zc .i64<|Bc a+1;let b:=take (toNat<|Bc a) a;let c:=take (zw (length a)<|toNat b')<|drop (toNat b') a;.cd (length a<=1000000) (.ite (Bc a==(length a:Int)) (.ck (D7 a)<|.ck true<|.leaf (.tup [zl [.dat zi<|Hy a,.dat (zg i64)<|HC a],zl [.dat zi false,.dat (zg i64)<|Sp.rW 1]]) [])<|.ck (decide (0<=Bc a)&&decide (0<=toNat (Bc a))&&decide (toNat (Bc a)<=length a))<|.ck (decide (0<=zc .i64 (Bc a+1))&&true&&decide (toNat b'<=length a)&&decide (length a<=length a))<|.ck (D7 b)<|.ck (D7 c)<|.leaf (.tup [zl [.dat zi<|Hy b,.dat (zg i64)<|HC b],zl [.dat zi<|Hy c,.dat (zg i64)<|HC c]]) []):=by kernel_rfl
end T103
namespace T93
def T[Srt](a:Z):Tr:=tree Ut false 9 93<|Ae ([zf]) a
def L1[Srt](v0 v3:Z):Tr:=re ((T []).L.L.L.L)<|AB 96 [(0,.dat zf v0),(3,.dat zf v3)] [] 0
theorem Ai[Srt](a:Z):T a=.di ((length a:Int)>0) (.cd (0<(length a:Int))<|.ite ((↑(ze<|getD a 0 (0:UInt8)):Int)==45) (.ck (decide (1<=length a)&&decide (length a<=length a))<|L1 a<|take (zw (length a) 1)<|drop 1 a)<|L1 a a) (L1 a a):=by kernel_rfl
def L2[Srt](v3:Z)(v4:Int):Tr:=re ((stepT Ut<|L1 [] []).L.L.L.R.L.L.L.R)<|AB 96 [(3,.dat zf v3),(4,.dat i64 v4)] [] 0
theorem Ar[Srt](v0 v3:Z):stepT Ut (L1 v0 v3)=let b':=Bc v3;let a:Tr:=.leaf (.dat i64 (1:Int)) [];let b:=decide (0<=Bc v3)&&decide (0<=toNat b')&&decide (toNat b'<=length v3);.cd (length v3<=9223372036854775807) (.ck b<|.cd (length (take (toNat b') v3)<=9223372036854775807)<|.ite (!AW (take (toNat b') v3)) a<|.cd (0<(length v0:Int))<|.ite ((↑(ze<|getD v0 0 (0:UInt8)):Int)==45) (.ck b<|.ite (take (toNat b') v3==[(48:UInt8)]) a<|L2 v3 b')<|L2 v3 b'):=by kernel_rfl
def L3[Srt](v3:Z)(v4:Int):Tr:=re ((stepT Ut<|L2 [] 0).L.L.L.R.L.R.L.R)<|AB 96 [(3,.dat zf v3),(4,.dat i64 v4)] [] 0
theorem AO[Srt](v3:Z)(v4:Int):stepT Ut (L2 v3 v4)=let b:Tr:=.leaf (.dat i64 (1:Int)) [];let d:=zc .i64<|v4+1;let c:=decide (0<=zc .i64 (v4+1))&&true&&decide (toNat d<=length v3)&&decide (length v3<=length v3);let b':=toNat d;let a:=zw (length v3) b';.di (v4<(length v3:Int)) (.ck c<|.cd (length (take a<|drop b' v3)<=9223372036854775807)<|.ite (!AW (take a<|drop b' v3)) b<|.ck c<|.ite (take a (drop b' v3)==[(48:UInt8)]) b<|.ck c<|.ite (take a (drop b' v3)==[(49:UInt8)]) b<|L3 v3 v4) (L3 v3 v4):=by kernel_rfl
def L4[Srt](v3:Z)(v4:Int):Tr:=re ((stepT Ut<|L3 [] 0).R.R)<|AB 96 [(3,.dat zf v3),(4,.dat i64 v4)] [] 0
theorem Cr[Srt](v3:Z)(v4:Int):stepT Ut (L3 v3 v4)=let a:Tr:=.leaf (.dat i64 (4:Int)) [];.di (v4>600) a (.di (zc .i64 (zc .i64 ((length v3:Int)-v4)-1)>600) a<|L4 v3 v4):=by kernel_rfl
def L5[Srt](o1:Bool)(b:List Int)(c:Bool)(a:List Int):Tr:=re ((stepT Ut<|L4 [] 0).L.L)<|AB 96 [(5,.ptr 0 0),(6,.ptr 1 0)] [(1,.box [.dat zi o1,.dat (zg i64) b]),(0,.box [.dat zi c,.dat (zg i64) a])] 2
theorem CN[Srt](v3:Z)(v4:Int):stepT Ut (L4 v3 v4)=.di (v4<(length v3:Int)) (.ck (JK v3)<|L5 (Bm v3) (Bi v3) (BH v3)<|BA v3) (.leaf (.dat i64 (0:Int)) []):=by kernel_rfl
def L6[Srt](a:List Int):Tr:=re ((stepT Ut<|L5 false [] false []).L)<|AB 96 [(7,.dat (zg i64) a)] [] 0
theorem Fb[Srt](o1:Bool)(b:List Int)(c:Bool)(a:List Int):stepT Ut (L5 o1 b c a)=.ck (A0 a&&A0 b&&decide (length a<=9000)&&decide (length b<=9000)) (L6<|Cc a b):=by kernel_rfl
theorem Gu[Srt](a:List Int):stepT Ut (L6 a)=let b:Tr:=.leaf (.dat i64 (1:Int)) [];.ite ((length a:Int) !=1) b (.cd (0<(length a:Int))<|.ite (getD a 0 0 !=1) b<|.leaf (.dat i64 (0:Int)) []):=by kernel_rfl
end T93
namespace T110
def T[Srt](l:List Int):Tr:=tree NZ false 9 110<|Ae ([zg i64]) l
def L1[Srt](v5:List Int)(a b:Int):Tr:=re ((T []))<|AB 15 [(5,.dat (zg i64) v5),(6,.dat i64 a),(7,.dat i64 b)] [] 0
theorem Ai[Srt](l:List Int):T l=L1 l ((length l:Int)) 0:=by kernel_rfl
theorem Ar[Srt](v5:List Int)(b a:Int):stepT NZ (L1 v5 b a)=.di (a<b) (.ck (decide (0<=a)&&decide (a<(length v5:Int)))<|.ite (getD v5 (toNat a) 0 !=0) (.leaf (.dat i64<|getD v5 (toNat a) 0) [])<|L1 v5 b<|zc .i64<|a+1) (.leaf (.dat i64 (0:Int)) []):=by kernel_rfl
end T110
namespace T111
def T[Srt](b:Bool)(e:Int):Tr:=tree NZ false 9 111<|Ae ([zi,zj yf]) (b,e)
theorem Ai[Srt](b:Bool)(e:Int):T b e=.ite b (.leaf (.dat i64 e) []) (.leaf (.dat i64 (0:Int)) []):=by kernel_rfl
end T111
namespace T86
def T[Srt](a:Z):Tr:=tree Lw false 9 86<|Ae ([zf]) a
def L1[Srt](v5 a:Z)(b:Bool):Tr:=re ((T []).L.L.L.L.L)<|AB 76 [(5,.dat zf v5),(6,.dat zf a),(7,.dat zi b),(8,.bl true)] [] 0
def L2[Srt](v5 a:Z)(c b:Bool):Tr:=re ((T []).L.L.L.L.R)<|AB 76 [(5,.dat zf v5),(6,.dat zf a),(7,.dat zi c),(8,.dat zi b)] [] 0
def L3[Srt](v5 a:Z)(b:Bool):Tr:=re ((T []).L.L.L.R)<|AB 76 [(5,.dat zf v5),(6,.dat zf a),(7,.dat zi b),(8,.bl false)] [] 0
theorem Ai[Srt](a:Z):T a=let b:=AG<|Bk a;let b':=Sp.AT<|Bk a;let c:=BE<|Bk a;.ck (dX a [(45:UInt8)]) (.ck (vQ (Bk a) [(47:UInt8)])<|.cd (length b<=1000000)<|.ite (AW b) (.ite (!Sp.preB a) (L1 b b' c)<|L2 b b' c<|!AG (Bk a)==[(48:UInt8)])<|L3 b b' c):=by kernel_rfl
def L4[Srt](v5 a:Z)(c b:Bool):Tr:=re ((stepT Lw<|L1 [] [] false).L.L.L.L)<|AB 76 [(5,.dat zf v5),(6,.dat zf a),(7,.dat zi c),(8,.dat zi b)] [] 0
def L5[Srt](v5 a:Z)(b:Bool):Tr:=re ((stepT Lw<|L1 [] [] false).L.L.L.R)<|AB 76 [(5,.dat zf v5),(6,.dat zf a),(7,.dat zi b),(8,.bl false)] [] 0
def L6[Srt](v5 a:Z)(b:Bool):Tr:=re ((stepT Lw<|L1 [] [] false).R)<|AB 76 [(5,.dat zf v5),(6,.dat zf a),(7,.dat zi b),(8,.bl true)] [] 0
theorem Ar[Srt](v5 a:Z)(b:Bool):stepT Lw (L1 v5 a b)=.ite b (.cd (length a<=1000000)<|.ite (AW a) (.ite (!a==[(48:UInt8)]) (L4 v5 a b<|!a==[(49:UInt8)])<|L5 v5 a b)<|L5 v5 a b) (L6 v5 a b):=by kernel_rfl
theorem AO[Srt](v5 a:Z)(b c:Bool):stepT Lw (L2 v5 a b c)=.ite b (.ite c (.cd (length a<=1000000)<|.ite (AW a) (.ite (!a==[(48:UInt8)]) (L4 v5 a b<|!a==[(49:UInt8)])<|L5 v5 a b)<|L5 v5 a b)<|L5 v5 a b) (L4 v5 a b c):=by kernel_rfl
theorem Cr[Srt](v5 b:Z)(a:Bool):stepT Lw (L3 v5 b a)=.ite a (L5 v5 b a) (L5 v5 b a):=by kernel_rfl
def L7[Srt](v5 a:Z)(b:Bool)(v9:Int):Tr:=re ((stepT Lw<|L4 [] [] false false).L.L.L.L)<|AB 76 [(5,.dat zf v5),(6,.dat zf a),(7,.dat zi b),(9,.dat i64 v9)] [] 0
theorem CN[Srt](v5 a:Z)(c b:Bool):stepT Lw (L4 v5 a c b)=let d:=decide (2<=2)&&true&&decide (2<=1000000);.ck true (.di ((length v5:Int)>600) (.ck true<|.ck d<|L7 v5 a c<|yt [Hi (!b) 1,Hi true 4])<|.ck true<|.ck d<|L7 v5 a c<|yt [Hi (!b) 1,Hi (decide ((length a:Int)>600)) 4]):=by kernel_rfl
theorem Fb[Srt](v5 a:Z)(b:Bool):stepT Lw (L5 v5 a b)=.ck true (.di ((length v5:Int)>600) (.ck true<|.ck true<|L7 v5 a b<|yt [Hi true 1,Hi true 4])<|.ck true<|.ck (decide (2<=2)&&true&&decide (2<=1000000))<|L7 v5 a b<|yt [Hi true 1,Hi (decide ((length a:Int)>600)) 4]):=by kernel_rfl
theorem Gu[Srt](v5 a:Z)(b:Bool):stepT Lw (L6 v5 a b)=.ck true (.di ((length v5:Int)>600) (.ck true<|.ck true<|L7 v5 a b<|yt [Hi false 1,Hi true 4])<|.ck true<|.ck (decide (2<=2)&&true&&decide (2<=1000000))<|L7 v5 a b<|yt [Hi false 1,Hi (decide ((length a:Int)>600)) 4]):=by kernel_rfl
def L8[Srt](v5 a:Z)(b:Bool):Tr:=re ((stepT Lw<|L7 [] [] false 0).R)<|AB 76 [(5,.dat zf v5),(6,.dat zf a),(7,.dat zi b)] [] 0
theorem ES[Srt](v5 a:Z)(b:Bool)(v9:Int):stepT Lw (L7 v5 a b v9)=.ite (v9 !=0) (.leaf (.dat i64 v9) []) (L8 v5 a b):=by kernel_rfl
def L9[Srt](a:Bool):Tr:=re ((stepT Lw<|L8 [] [] false).L.L.L.L.L.L)<|AB 76 [(10,.dat zi a)] [] 0
def sQ[Srt]:Tr:=re ((stepT Lw<|L8 [] [] false).R)<|AB 76 [(10,.bl false)] [] 0
theorem H3[Srt](v5 a:Z)(c:Bool):stepT Lw (L8 v5 a c)=let b:=(MV (C3 v5,C4 v5) (C3 a,C4 a),MQ (C3 v5,C4 v5) (C3 a,C4 a));.ite c (.ck (D7 v5)<|.ck (D7 a)<|.ck (Bd (C3 v5,C4 v5)&&Bd (C3 a,C4 a))<|.ck true<|.ck (Bd b&&Bd (1,Ct 1))<|L9<|Zc b (1,Ct 1) !=0) sQ:=by kernel_rfl
theorem XS[Srt](a:Bool):stepT Lw (L9 a)=.ck true (.leaf (.dat i64<|Hi a 1) []):=by kernel_rfl
theorem Wi[Srt]:stepT Lw sQ=.ck true (.leaf (.dat i64<|Hi false 1) []):=by kernel_rfl
end T86
namespace T133
def T[Srt](s:Z):Tr:=tree Qg false 9 133<|Ae ([zf]) s
def L1[Srt](v0:Z)(v3:Bool)(o1 a:Int):Tr:=re ((T []).L.L.L.L.L.L)<|AB 41 [(0,.dat zf v0),(2,.ptr 0 0),(3,.dat zi v3),(4,.ptr 1 0)] [(1,.box [.dat i64 o1,.nil]),(0,.box [.dat i64 a,.nil])] 2
def L2[Srt](v0:Z)(o1 a:Int):Tr:=re ((T []).R.L.L.L.L)<|AB 41 [(0,.dat zf v0),(2,.ptr 0 0),(3,.bl false),(4,.ptr 1 0)] [(1,.box [.dat i64 o1,.nil]),(0,.box [.dat i64 a,.nil])] 2
theorem Ai[Srt](s:Z):T s=let a:=take 1 s==[(45:UInt8)];let b':=decide ((length s:Int)>=1);let c:=decide (1<=length s)&&decide (length s<=length s);let b:=decide (1<=length s);let d:=take (zw (length s) 1)<|drop 1 s;.ite b' (.ck b<|.ite b' (.ck b<|.ite a (.ck c<|L1 d a 0 0)<|L1 s a 0 0)<|L1 s a 0 0) (.ite b' (.ck b<|.ite a (.ck c<|L2 d 0 0)<|L2 s 0 0)<|L2 s 0 0):=by kernel_rfl
def L3[Srt](v0:Z)(v3:Bool)(o1 h:Int)(v5:Z)(f:Int)(a:Nat)(e c:Int)(g:List Int)(b:Int)(d:Int):Tr:=re ((stepT Qg<|L1 v0 v3 o1 h).L.L.L.L.L.L.L.R)<|AB 77 [(5,.dat zf v5),(6,.dat i64 f),(47,.sl 2 1 0 a none),(48,.dat i64 e),(49,.dat i64 c)] [(2,.arr false 5 (zj zy) g),(1,.box [.dat i64 b,.nil]),(0,.box [.dat i64 d,.nil])] 3
theorem Ar[Srt](v0:Z)(v3:Bool)(o1 c:Int):stepT Qg (L1 v0 v3 o1 c)=let d:=(length v0:Int);let a:=take (toNat<|EO 18 d) v0;let b':=take (zw (length a) 1)<|drop 1 a;let f:=(↑(length a):Int);let g:=decide (1<=length a)&&decide (length a<=length a);let h:=(↑(ze<|getD a 0 (0:UInt8)):Int);let e:=decide (0<f);.di (d>0) (.ck (decide (0<=EO 18 d)&&decide (0<=toNat (EO 18 d))&&decide (toNat (EO 18 d)<=length v0))<|.ite e (.di (f<19) (.ck e<|.ite (h==45) (.ck g<|.di ((↑(length b'):Int)<1) .fail<|L3 v0 v3 o1 c a 0 (length b') ((↑(length b'):Int)) 0 (yg (fun b=>(↑(ze b):Int)) b') o1 c)<|.ck e<|.ite (h==43) (.ck g<|.di ((↑(length b'):Int)<1) .fail<|L3 v0 v3 o1 c a 0 (length b') ((↑(length b'):Int)) 0 (yg (fun b=>(↑(ze b):Int)) b') o1 c)<|L3 v0 v3 o1 c a 0 (length a) f 0 (yg (fun b=>(↑(ze b):Int)) a) o1 c)<|.ck false .fail)<|.ck false .fail) (.ite v3 (.ck (Dx (o1,[]))<|.leaf (zl [.dat i64<|Eh (o1,[]),.dat wU<|Ej (o1,[])]) [])<|.leaf (zl [.dat i64 o1,.nil]) []):=by kernel_rfl
def L4[Srt](v0:Z)(o1 h:Int)(v5:Z)(f:Int)(a:Nat)(e c:Int)(g:List Int)(b:Int)(d:Int):Tr:=re ((stepT Qg<|L2 v0 o1 h).L.L.L.L.L.L.L.R)<|AB 77 [(5,.dat zf v5),(6,.dat i64 f),(47,.sl 2 1 0 a none),(48,.dat i64 e),(49,.dat i64 c)] [(2,.arr false 5 (zj zy) g),(1,.box [.dat i64 b,.nil]),(0,.box [.dat i64 d,.nil])] 3
theorem AO[Srt](v0:Z)(o1 c:Int):stepT Qg (L2 v0 o1 c)=let d:=(length v0:Int);let a:=take (toNat<|EO 18 d) v0;let b':=take (zw (length a) 1)<|drop 1 a;let f:=(↑(length a):Int);let g:=decide (1<=length a)&&decide (length a<=length a);let h:=(↑(ze<|getD a 0 (0:UInt8)):Int);let e:=decide (0<f);.di (d>0) (.ck (decide (0<=EO 18 d)&&decide (0<=toNat (EO 18 d))&&decide (toNat (EO 18 d)<=length v0))<|.ite e (.di (f<19) (.ck e<|.ite (h==45) (.ck g<|.di ((↑(length b'):Int)<1) .fail<|L4 v0 o1 c a 0 (length b') ((↑(length b'):Int)) 0 (yg (fun b=>(↑(ze b):Int)) b') o1 c)<|.ck e<|.ite (h==43) (.ck g<|.di ((↑(length b'):Int)<1) .fail<|L4 v0 o1 c a 0 (length b') ((↑(length b'):Int)) 0 (yg (fun b=>(↑(ze b):Int)) b') o1 c)<|L4 v0 o1 c a 0 (length a) f 0 (yg (fun b=>(↑(ze b):Int)) a) o1 c)<|.ck false .fail)<|.ck false .fail) (.leaf (zl [.dat i64 o1,.nil]) []):=by kernel_rfl
def L5[Srt](v0:Z)(v3:Bool)(o1:Int)(a:List Int)(b:Int):Tr:=re ((stepT Qg<|L3 [] false 0 0 [] 0 0 0 0 [] 0 0).R.L.L.L.L.L.L.L.L)<|AB 41 [(0,.dat zf v0),(2,.ptr 0 0),(3,.dat zi v3),(4,.ptr 1 0)] [(1,.box [.dat i64 o1,.dat wU a]),(0,.box [.dat i64 b,.nil])] 2
theorem Cr[Srt](v0:Z)(v3:Bool)(o1 o:Int)(v5:Z)(d:Int)(b:Nat)(f a:Int)(h:List Int)(c:Int)(e:Int):stepT Qg (L3 v0 v3 o1 o v5 d b f a h c e)=let b':=EO 18 (length v0:Int);let i:=(zc .i64<|0-d,Ct<|zc .i64<|0-d);let m:=getD h (toNat a) 0-48;let j:=(Tp (10,Ct 10) b',TC (10,Ct 10) b');let n:=decide (0<=EO 18 (length v0:Int))&&true&&decide (toNat b'<=length v0)&&decide (length v0<=length v0);let l:=take (zw (length v0)<|toNat b')<|drop (toNat b') v0;let k:=Bd (10,Ct 10)&&pB (yq (10,Ct 10)) b';let g:=(EH (c,[]) j,ET (c,[]) j);let h':=Bd (c,[])&&Bd j;.di (a<f) (.ck (decide (0<=a)&&decide (a<(↑b:Int)))<|.cd (toNat a<length h)<|.di (zc .u8 m>9) .fail<|L3 v0 v3 o1 o v5 (zc .i64<|zc .i64 (d*10)+zc .i64 (zc .u8 m)) b f (zc .i64<|a+1) h c e) (.cd (0<(length v5:Int))<|.ite ((↑(ze<|getD v5 0 (0:UInt8)):Int)==45) (.ck true<|.ck k<|.ck h'<|.ck true<|.ck (Bd g&&Bd i)<|.ck n<|L5 l v3 (JW g i) (JU g i) e)<|.ck true<|.ck k<|.ck h'<|.ck true<|.ck (Bd g&&Bd (d,Ct d))<|.ck n<|L5 l v3 (JW g (d,Ct d)) (JU g (d,Ct d)) e):=by kernel_rfl
def L7[Srt](v0:Z)(v3:Bool)(o1:Int)(b:List Int)(j:Int)(v5:Z)(h:Int)(c:Nat)(g e:Int)(i:List Int)(d:Int)(a:List Int)(f:Int):Tr:=re ((stepT Qg<|L5 v0 v3 o1 b j).L.L.L.L.L.L.L.R)<|AB 77 [(5,.dat zf v5),(6,.dat i64 h),(47,.sl 2 1 0 c none),(48,.dat i64 g),(49,.dat i64 e)] [(2,.arr false 5 (zj zy) i),(1,.box [.dat i64 d,.dat wU a]),(0,.box [.dat i64 f,.nil])] 3
theorem Fb[Srt](v0:Z)(v3:Bool)(o1:Int)(a:List Int)(d:Int):stepT Qg (L5 v0 v3 o1 a d)=let e:=(length v0:Int);let c:=take (toNat<|EO 18 e) v0;let b':=take (zw (length c) 1)<|drop 1 c;let g:=(↑(length c):Int);let h:=decide (1<=length c)&&decide (length c<=length c);let i:=(↑(ze<|getD c 0 (0:UInt8)):Int);let f:=decide (0<g);.di (e>0) (.ck (decide (0<=EO 18 e)&&decide (0<=toNat (EO 18 e))&&decide (toNat (EO 18 e)<=length v0))<|.ite f (.di (g<19) (.ck f<|.ite (i==45) (.ck h<|.di ((↑(length b'):Int)<1) .fail<|L7 v0 v3 o1 a d c 0 (length b') ((↑(length b'):Int)) 0 (yg (fun b=>(↑(ze b):Int)) b') o1 a d)<|.ck f<|.ite (i==43) (.ck h<|.di ((↑(length b'):Int)<1) .fail<|L7 v0 v3 o1 a d c 0 (length b') ((↑(length b'):Int)) 0 (yg (fun b=>(↑(ze b):Int)) b') o1 a d)<|L7 v0 v3 o1 a d c 0 (length c) g 0 (yg (fun b=>(↑(ze b):Int)) c) o1 a d)<|.ck false .fail)<|.ck false .fail) (.ite v3 (.ck (Dx (o1,a))<|.leaf (zl [.dat i64<|Eh (o1,a),.dat wU<|Ej (o1,a)]) [])<|.leaf (zl [.dat i64 o1,.dat wU a]) []):=by kernel_rfl
theorem ES[Srt](v0:Z)(v3:Bool)(o1:Int)(g:List Int)(q:Int)(v5:Z)(e:Int)(c:Nat)(h b:Int)(j:List Int)(d:Int)(a:List Int)(f:Int):stepT Qg (L7 v0 v3 o1 g q v5 e c h b j d a f)=let i:=EO 18 (length v0:Int);let k:=(zc .i64<|0-e,Ct<|zc .i64<|0-e);let o:=getD j (toNat b) 0-48;let l:=(Tp (10,Ct 10) i,TC (10,Ct 10) i);let p:=decide (0<=EO 18 (length v0:Int))&&true&&decide (toNat i<=length v0)&&decide (length v0<=length v0);let n:=take (zw (length v0)<|toNat i)<|drop (toNat i) v0;let m:=Bd (10,Ct 10)&&pB (yq (10,Ct 10)) i;let b':=(EH (d,a) l,ET (d,a) l);let h':=Bd (d,a)&&Bd l;.di (b<h) (.ck (decide (0<=b)&&decide (b<(↑c:Int)))<|.cd (toNat b<length j)<|.di (zc .u8 o>9) .fail<|L7 v0 v3 o1 g q v5 (zc .i64<|zc .i64 (e*10)+zc .i64 (zc .u8 o)) c h (zc .i64<|b+1) j d a f) (.cd (0<(length v5:Int))<|.ite ((↑(ze<|getD v5 0 (0:UInt8)):Int)==45) (.ck true<|.ck m<|.ck h'<|.ck true<|.ck (Bd b'&&Bd k)<|.ck p<|L5 n v3 (JW b' k) (JU b' k) f)<|.ck true<|.ck m<|.ck h'<|.ck true<|.ck (Bd b'&&Bd (e,Ct e))<|.ck p<|L5 n v3 (JW b' (e,Ct e)) (JU b' (e,Ct e)) f):=by kernel_rfl
end T133
namespace T209
def T[Srt](s t:Z):Tr:=tree aU false 9 209<|Ae ([zf,zf]) (s,t)
def L1[Srt](s t v0:Z)(v4:Int)(a:List Bool):Tr:=re ((T s t).R.R.L.L.R)<|AB 21 [(0,.dat zf v0),(2,.ptr 0 0),(4,.dat i64 v4)] [(0,.arr false 293 zi a)] 1
def L2[Srt](s t v0:Z)(v4:Int)(a:List Bool):Tr:=re ((T s t).R.R.R)<|AB 21 [(0,.dat zf v0),(2,.ptr 0 0),(4,.dat i64 v4)] [(0,.arr false 293 zi a)] 1
theorem Ai[Srt](s t:Z):T s t=let a:=decide (0<(length t:Int));let b':Tr:=.leaf (.dat zf s) [];.ite (s==[]) b' (.ite (t==[]) b'<|.ite ((length t:Int)==1) (.ck a<|.di ((↑(ze<|getD t 0 (0:UInt8)):Int)<128) (.ck a<|.ck a<|.ck false<|.ck false b')<|L1 s t t 0 Sp.tT)<|L2 s t t 0 Sp.tT):=by kernel_rfl
def L4[Srt](s t v0:Z)(v4:Int)(c:List Bool)(b:Z)(o1:List Bool)(a:List Bool):Tr:=re ((stepT aU<|L2 s t v0 v4 c).R.L.L.L.L)<|AB 22 [(0,.dat zf b),(1,.ptr 1 0)] [(1,.arr false 293 zi o1),(0,.arr false 293 zi a)] 2
theorem AO[Srt](s t v0:Z)(v4:Int)(a:List Bool):stepT aU (L2 s t v0 v4 a)=let b:=(↑(ze<|getD v0 (toNat v4) (0:UInt8)):Int);let b':=decide (length a=256);let c:=decide (v4<(length v0:Int));.ite c (.ck (decide (0<=v4)&&c)<|.di (b>=128) (.ck b'<|.ck b'<|.cd (256=256)<|.ck true<|.ck false<|.ck false<|.leaf (.dat zf s) [])<|.ck (decide ((0:Sh.T (zj zy))<=b)&&decide (b<(↑256:Int)))<|.cd (toNat b<length a)<|L2 s t v0 (zc .i64<|v4+1)<|set a (toNat b) true) (.ck b'<|.ck b'<|.cd (256=256)<|.ck true<|L4 s t v0 v4 a s ((Sp.uL a))<|(Sp.uL a)):=by kernel_rfl
def L7[Srt](s t v0:Z)(v4:Int)(f:List Bool)(e:Z)(o1:List Bool)(d:List Bool)(b:Z)(c:List Bool)(a:List Bool):Tr:=re ((stepT aU<|L4 s t v0 v4 f e o1 d).L.L.L.L.L)<|AB 16 [(0,.dat zf b),(1,.ptr 1 0)] [(1,.arr false 293 zi c),(0,.arr false 293 zi a)] 2
def L8[Srt](s t v0:Z)(v4:Int)(f:List Bool)(e:Z)(o1:List Bool)(d:List Bool)(b:Z)(c:List Bool)(a:List Bool):Tr:=re ((stepT aU<|L4 s t v0 v4 f e o1 d).R)<|AB 16 [(0,.dat zf b),(1,.ptr 1 0)] [(1,.arr false 293 zi c),(0,.arr false 293 zi a)] 2
theorem CN[Srt](s t v0:Z)(v4:Int)(e:List Bool)(a:Z)(o1:List Bool)(b:List Bool):stepT aU (L4 s t v0 v4 e a o1 b)=let b':=(↑(length a):Int);let d:=zc .i64<|b'-1;let f:=decide (0<=zc .i64 (b'-1));let c:=(↑(ze<|getD a (toNat d) (0:UInt8)):Int);.di (b'>0) (.ck (f&&decide (zc .i64 (b'-1)<b'))<|.ck (decide ((0:Sh.T (zj zy))<=c)&&decide (c<(↑256:Int)))<|.cd (toNat c<length o1)<|.ite (!getD o1 (toNat c) false) (L7 s t v0 v4 e a o1 b a o1 b)<|.ck (f&&decide (0<=toNat d)&&decide (toNat d<=length a))<|L4 s t v0 v4 e (take (toNat d) a) o1 b) (L8 s t v0 v4 e a o1 b a o1 b):=by kernel_rfl
theorem ES[Srt](s t v0:Z)(v4:Int)(g:List Bool)(e:Z)(o1:List Bool)(d:List Bool)(a:Z)(b:List Bool)(c:List Bool):stepT aU (L7 s t v0 v4 g e o1 d a b c)=let f:=(↑(ze<|getD a 0 (0:UInt8)):Int);let b':Tr:=.leaf (.dat zf a) [];.di ((↑(length a):Int)>0) (.cd (0<(↑(length a):Int))<|.ck (decide ((0:Sh.T (zj zy))<=f)&&decide (f<(↑256:Int)))<|.cd (toNat f<length b)<|.ite (!getD b (toNat f) false) b'<|.ck (decide (1<=length a)&&decide (length a<=length a))<|L7 s t v0 v4 g e o1 d (take (zw (length a) 1)<|drop 1 a) b c) b':=by kernel_rfl
theorem H3[Srt](s t v0:Z)(v4:Int)(g:List Bool)(e:Z)(o1:List Bool)(d:List Bool)(a:Z)(b:List Bool)(c:List Bool):stepT aU (L8 s t v0 v4 g e o1 d a b c)=let f:=(↑(ze<|getD a 0 (0:UInt8)):Int);let b':Tr:=.leaf (.dat zf a) [];.di ((↑(length a):Int)>0) (.cd (0<(↑(length a):Int))<|.ck (decide ((0:Sh.T (zj zy))<=f)&&decide (f<(↑256:Int)))<|.cd (toNat f<length b)<|.ite (!getD b (toNat f) false) b'<|.ck (decide (1<=length a)&&decide (length a<=length a))<|L8 s t v0 v4 g e o1 d (take (zw (length a) 1)<|drop 1 a) b c) b':=by kernel_rfl
end T209
namespace T142
def T[Srt](s:Z):Tr:=tree XH1 false 9 142<|Ae ([zf]) s
theorem Ai[Srt](s:Z):T s=.ite (!s==[]) (.ck (Sp.tK s [(48:UInt8),49,50,51,52,53,54,55,56,57])<|.ite (Sp.Pu s==[]) (.cd (0<(length s:Int))<|.ite ((↑(ze<|getD s 0 (0:UInt8)):Int) !=48) (.leaf (.bl true) [])<|.leaf (.dat zi<|s==[(48:UInt8)]) [])<|.leaf (.bl false) []) (.leaf (.bl false) []):=by kernel_rfl
end T142
namespace T141
def T[Srt](s t:Z):Tr:=tree NZ false 9 141<|Ae ([zf,zf]) (s,t)
theorem Ai[Srt](s t:Z):T s t=let a:=(length t:Int);let b':Tr:=.leaf (.tup [.dat zf s,.bl false]) [];let b:=decide (toNat a<=length s);.di ((length s:Int)>=a) (.ck (decide (0<=a)&&decide (0<=toNat a)&&b)<|.ite (!take (toNat a) s==t) b'<|.ck (decide (0<=a)&&true&&b&&decide (length s<=length s))<|.leaf (.tup [.dat zf<|take (zw (length s)<|toNat a)<|drop (toNat a) s,.bl true]) []) b':=by kernel_rfl
end T141
namespace T131
def T[Srt](s t:Z):Tr:=tree XH2 false 9 131<|Ae ([zf,zf]) (s,t)
theorem Ai[Srt](s t:Z):T s t=let b':=(↑(ze<|getD t 0 (0:UInt8)):Int);let a:=(length t:Int);let b:Tr:=.leaf (.tup [.dat zf s,.dat zf [],.bl false]) [];let e:=decide (length s<=length s);let g:=Bv [zj zy];let c:=zc .i64<|Sp.OM s b'+a;let f:=zc .i64<|(-1)+a;let h':=zc .i64<|0+a;let d:=Sp.OM s b';let h:Tr:=.ite true (.cd (0<=length s)<|.ck (decide (0<=zc .i64 (0+a))&&true&&decide (toNat h'<=length s)&&e)<|.leaf (.tup [.dat zf<|take 0 s,.dat zf<|take (zw (length s)<|toNat h')<|drop (toNat h') s,.bl true]) []) b;.ite (a==0) h (.ite (t==s) h<|.ite (a==1) (.cd (0<a)<|.ck (decide ((0:Sh.T g)<=b')&&decide (b'<(256:Sh.T g)))<|.di (Sp.OM s b'>=0) (.ck (decide (0<=Sp.OM s b')&&decide (0<=toNat d)&&decide (toNat d<=length s))<|.ck (decide (0<=zc .i64 (Sp.OM s b'+a))&&true&&decide (toNat c<=length s)&&e)<|.leaf (.tup [.dat zf<|take (toNat d) s,.dat zf<|take (zw (length s)<|toNat c)<|drop (toNat c) s,.bl true]) []) b)<|.cd (a>=(length s:Int))<|.ite false (.ck (false&&decide (0<=length s))<|.ck (decide (0<=zc .i64 ((-1)+a))&&true&&decide (toNat f<=length s)&&e)<|.leaf (.tup [.dat zf<|take 0 s,.dat zf<|take (zw (length s)<|toNat f)<|drop (toNat f) s,.bl true]) []) b):=by kernel_rfl
end T131
namespace T239
def T[Srt](w:List Int):Tr:=tree mL false 9 239<|Ae ([zg i64]) w
def L1[Srt](v0:List Int):Tr:=re ((T []))<|AB 21 [(0,.dat (zg i64) v0)] [] 0
theorem Ai[Srt](w:List Int):T w=L1 w:=by kernel_rfl
theorem Ar[Srt](v0:List Int):stepT mL (L1 v0)=let b':=(length v0:Int);let b:Tr:=.leaf (.dat (zg i64) v0) [];let a:=zc .i64<|b'-1;let c:=decide (0<=zc .i64 (b'-1));.di (b'>0) (.ck (c&&decide (zc .i64 (b'-1)<b'))<|.ite (getD v0 (toNat a) 0==0) (.ck (c&&decide (0<=toNat a)&&decide (toNat a<=length v0))<|L1<|take (toNat a) v0) b) b:=by kernel_rfl
end T239
namespace T164
def T[Srt](n:Bool)(w:List Int):Tr:=tree aV false 9 164<|Ae ([zi,zg i64]) (n,w)
theorem Ai[Srt](n:Bool)(w:List Int):T n w=.cd (length w<=20000) (.ite n (.leaf (zl [.dat zi<|decide ((↑(length<|Ax w):Int)>0),.dat (zg i64)<|Ax w]) [])<|.leaf (zl [.bl false,.dat (zg i64)<|Ax w]) []):=by kernel_rfl
end T164
namespace T237
def T[Srt](a b:List Int):Tr:=tree mL false 9 237<|Ae ([zg i64,zg i64]) (a,b)
def L1[Srt](v0 v1:List Int)(v5:Int):Tr:=re ((T [] []).R)<|AB 41 [(0,.dat (zg i64) v0),(1,.dat (zg i64) v1),(5,.dat i64 v5)] [] 0
theorem Ai[Srt](a b:List Int):T a b=let c:=(length a:Int);.ite (c !=(length b:Int)) (.di (c<(length b:Int)) (.leaf (.dat i64 (-1:Int)) [])<|.leaf (.dat i64 (1:Int)) []) (L1 a b<|zc .i64<|c-1):=by kernel_rfl
theorem Ar[Srt](v0 v1:List Int)(v5:Int):stepT mL (L1 v0 v1 v5)=let a:=decide (0<=v5)&&decide (v5<(length v0:Int));let b':=decide (0<=v5)&&decide (v5<(length v1:Int));.di (v5>=0) (.ck a<|.ck b'<|.di (getD v0 (toNat v5) 0<getD v1 (toNat v5) 0) (.leaf (.dat i64 (-1:Int)) [])<|.ck a<|.ck b'<|.di (getD v0 (toNat v5) 0>getD v1 (toNat v5) 0) (.leaf (.dat i64 (1:Int)) [])<|L1 v0 v1<|zc .i64<|v5-1) (.leaf (.dat i64 (0:Int)) []):=by kernel_rfl
end T237
namespace T169
def T[Srt](a b:List Int):Tr:=tree aV false 9 169<|Ae ([zg i64,zg i64]) (a,b)
def L1[Srt](v0 v1:List Int)(a:Nat)(b:Int)(c:List Int):Tr:=re ((T [] []).L)<|AB 72 [(0,.dat (zg i64) v0),(1,.dat (zg i64) v1),(5,.sl 0 1 0 a none),(6,.dat i64 b)] [(0,.arr false 3 i64 c)] 1
theorem Ai[Srt](a b:List Int):T a b=let c:=(length a:Int)+(length b:Int);let b':=zc .i64 c;.ck (decide (0<=zc .i64 c)&&decide (zc .i64 c=zc .i64 c)&&decide (8*toNat b'<=281474976710656)&&decide (zc .i64 c<9223372036854775808)) (L1 a b (toNat b') 0<|replicate (toNat b') 0):=by kernel_rfl
def L2[Srt](v0 v1:List Int)(a:Nat)(b e c:Int)(d:List Int):Tr:=re ((stepT aV<|L1 [] [] 0 0 []).L)<|AB 72 [(0,.dat (zg i64) v0),(1,.dat (zg i64) v1),(5,.sl 0 1 0 a none),(6,.dat i64 b),(7,.dat i64 e),(8,.dat i64 c)] [(0,.arr false 3 i64 d)] 1
theorem Ar[Srt](v0 v1:List Int)(a:Nat)(c:Int)(b:List Int):stepT aV (L1 v0 v1 a c b)=.di (c<(length v0:Int)) (L2 v0 v1 a c 0 0 b) (.ck (decide (0+a<=length b)&&true&&decide (length (take a b)<=20000))<|.leaf (.dat (zg i64)<|Ax<|take a b) []):=by kernel_rfl
theorem AO[Srt](v0 v1:List Int)(a:Nat)(b h c:Int)(d:List Int):stepT aV (L2 v0 v1 a b h c d)=let i:=decide (0<=zc .i64 (b+c))&&decide (zc .i64 (b+c)<(↑a:Int));let f:=zc .i64<|b+c;let e:=(length v1:Int);let l:=zc .i64<|zc .i64 (getD d (toNat f) 0+zc .i64 (getD v0 (toNat b) 0*getD v1 (toNat c) 0))+h;let b':=b+e;let k:=decide (toNat f<length d);let j:=decide (0<=zc .i64 b')&&decide (zc .i64 b'<(↑a:Int));let g:=zc .i64 b';let h':=decide (toNat g<length d);.di (c<e) (.ck i<|.ck k<|.ck (decide (0<=b)&&decide (b<(length v0:Int)))<|.ck (decide (0<=c)&&decide (c<e))<|.ck true<|.ck i<|.ck k<|.ck true<|L2 v0 v1 a b (zc .i64<|zq l 1000000000) (zc .i64<|c+1)<|set d (toNat f)<|z6 l 1000000000) (.ck j<|.ck h'<|.ck j<|.ck h'<|L1 v0 v1 a (zc .i64<|b+1)<|set d (toNat g)<|zc .i64<|getD d (toNat g) 0+h):=by kernel_rfl
end T169
namespace T240
def T[Srt](a:List Int)(d:Int):Tr:=tree aV false 9 240<|Ae ([zg i64,zj yf]) (a,d)
def L1[Srt](v0:List Int)(v1:Int)(a:Nat)(d b:Int)(c:List Int):Tr:=re ((T [] 0).L)<|AB 39 [(0,.dat (zg i64) v0),(1,.dat i64 v1),(6,.sl 0 1 0 a none),(7,.dat i64 d),(8,.dat i64 b)] [(0,.arr false 3 i64 c)] 1
theorem Ai[Srt](a:List Int)(d:Int):T a d=let b:=(length a:Int);.ck (decide (0<=b)&&decide (b=b)&&decide (8*toNat b<=281474976710656)&&decide (b<9223372036854775808)) (L1 a d (toNat b) 0 (zc .i64<|b-1)<|replicate (toNat b) 0):=by kernel_rfl
theorem Ar[Srt](v0:List Int)(v1:Int)(a:Nat)(d b:Int)(c:List Int):stepT aV (L1 v0 v1 a d b c)=let e:=zc .i64<|zc .i64 (d*1000000000)+getD v0 (toNat b) 0;.di (b>=0) (.ck (decide (0<=b)&&decide (b<(length v0:Int)))<|.cd (v1≠0)<|.ck (decide (0<=b)&&decide (b<(↑a:Int)))<|.cd (toNat b<length c)<|.cd (v1≠0)<|L1 v0 v1 a (z6 e v1) (zc .i64<|b-1)<|set c (toNat b)<|zc .i64<|zq e v1) (.ck (decide (0+a<=length c)&&true&&decide (length (take a c)<=20000))<|.leaf (.tup [.dat (zg i64)<|Ax<|take a c,.dat i64 d]) []):=by kernel_rfl
end T240
namespace T168
def T[Srt](a b:List Int):Tr:=tree LV false 9 168<|Ae ([zg i64,zg i64]) (a,b)
def L1[Srt](v0:List Int)(c:Nat)(v9:List Int)(b:Int)(a:Nat)(o1 d:List Int):Tr:=re ((T [] []).L.R.R.L.L.L.L.L)<|AB 206 [(0,.dat (zg i64) v0),(8,.sl 0 1 0 c none),(9,.dat (zg i64) v9),(10,.dat i64 b),(11,.sl 1 1 0 a none)] [(1,.arr false 3 i64 o1),(0,.arr true 3 i64 d)] 2
theorem Ai[Srt](a b:List Int):T a b=let c:=(length b:Int);let f:=getD b (toNat<|zc .i64<|c-1) 0+1;let d:=zq 1000000000<|zc .i64 f;let b':=Aj a*Aj [zc .i64 d];let e:=BG<|Aj b*Aj [zc .i64 d];.ck (A0 a&&A0 b) (.di (B6 (Aj a) (Aj b)<0) (.leaf (.tup [.nil,.dat (zg i64) a]) [])<|.ite (c==1) (.cd (0<c)<|.ck (JY a&&decide (0<getD b 0 0)&&decide (getD b 0 0<1000000000))<|.ck (decide (1<=1)&&true&&decide (1<=20000))<|.leaf (.tup [.dat (zg i64)<|BG<|Aj a/getD b 0 0,.dat (zg i64)<|Ax [Aj a % getD b 0 0]]) [])<|.ck (decide (0<=zc .i64 (c-1))&&decide (zc .i64 (c-1)<c))<|.cd (zc .i64 f≠0)<|.ck (decide (1<=1)&&true&&(Sp.hR b&&Sp.hR [zc .i64 d]))<|.ck (decide (1<=1)&&true&&(Sp.hR a&&Sp.hR [zc .i64 d]))<|.cd ((3*(0+length (BG b'))+2000)*8<=562949953421312)<|L1 a 1 e ((↑(length e):Int)) (yh 0<|length<|BG b') ([]++BG b')<|[zc .i64 d]):=by kernel_rfl
def L2[Srt](e:Nat)(v9:List Int)(c:Int)(b a:Nat)(d:Int)(f o1 g:List Int):Tr:=re ((stepT LV<|L1 [] 0 [] 0 0 [] []).R.L)<|AB 206 [(8,.sl 0 1 0 e none),(9,.dat (zg i64) v9),(10,.dat i64 c),(11,.sl 1 1 0 b none),(12,.sl 2 1 0 a none),(13,.dat i64 d)] [(2,.arr false 3 i64 f),(1,.arr false 3 i64 o1),(0,.arr true 3 i64 g)] 3
theorem Ar[Srt](v0:List Int)(c:Nat)(v9:List Int)(b:Int)(a:Nat)(o1 e:List Int):stepT LV (L1 v0 c v9 b a o1 e)=let d:=(↑a:Int)-b;let b':=zc .i64 d;.di ((↑a:Int)<zc .i64 ((length v0:Int)+1)) (.ck (decide (a=length o1)&&decide ((3*(a+1)+2000)*8<=562949953421312))<|L1 v0 c v9 b (yh a 1) (o1++[0]) e) (.ck (decide (0<=zc .i64 d)&&decide (zc .i64 d=zc .i64 d)&&decide (8*toNat b'<=281474976710656)&&decide (zc .i64 d<9223372036854775808))<|L2 c v9 b a (toNat b') (zc .i64<|zc .i64 d-1) (replicate (toNat b') 0) o1 e):=by kernel_rfl
def L3[Srt](i:Nat)(v9:List Int)(g:Int)(c a:Nat)(h:Int)(m o1 n:List Int)(j:Nat)(v1:List Int)(v2 l:Int)(k:Int)(b:Int)(d:List Int)(e:List Int)(f:List Int):Tr:=re ((stepT LV<|L2 i v9 g c a h m o1 n).L.L.L.L.L.L.L.L.L)<|AB 77 [(0,.sl 1 1 0 j none),(1,.dat (zg i64) v1),(2,.dat i64 v2),(7,.dat i64 l),(9,.dat i64 k),(10,.dat i64 b)] [(2,.arr false 3 i64 d),(1,.arr false 3 i64 e),(0,.arr true 3 i64 f)] 3
theorem AO[Srt](f:Nat)(v9:List Int)(d:Int)(a b:Nat)(c:Int)(h o1 g:List Int):stepT LV (L2 f v9 d a b c h o1 g)=let e:=(length v9:Int);let j:=take (toNat d) o1;let k:=toNat<|zc .i64<|e-1;let i:=zc .i64 (c+e)-1;let l:=decide (0<=zc .i64 (e-1))&&decide (zc .i64 (e-1)<e);let m:=zc .i64<|c+e;let b':=zc .i64<|zc .i64 (getD o1 (toNat m) 0*1000000000)+getD o1 (toNat<|zc .i64 i) 0;let h':=decide (getD v9 k 0≠0);.di (c>=0) (.ck (decide (0<=zc .i64 (c+e))&&decide (zc .i64 (c+e)<(↑a:Int)))<|.cd (toNat m<length o1)<|.ck (decide (0<=zc .i64 i)&&decide (zc .i64 i<(↑a:Int)))<|.cd (toNat (zc .i64 i)<length o1)<|.ck l<|.ck h'<|.ck l<|.ck h'<|L3 f v9 d a b c h o1 g a v9 c e (zc .i64<|zq b'<|getD v9 k 0) (z6 b'<|getD v9 k 0) h o1 g) (.ck (decide (0<=d)&&true&&decide (0<=toNat d)&&decide (toNat d<=Option.getD none a)&&decide (Option.getD none a<=Option.getD none a)&&true)<|.cd (0<(↑f:Int))<|.cd (0<length g)<|.ck (decide (0+toNat d<=length o1)&&true&&decide (length j<=20000))<|.ck (JY (Ax j)&&decide (0<getD g 0 0)&&decide (getD g 0 0<1000000000))<|.ck (decide (0+b<=length h)&&true&&decide (length (take b h)<=20000))<|.leaf (.tup [.dat (zg i64)<|Ax<|take b h,.dat (zg i64)<|BG<|Aj (Ax j)/getD g 0 0]) []):=by kernel_rfl
def L4[Srt](h:Nat)(v9:List Int)(d:Int)(b a:Nat)(e f g c:Int)(i o1 j:List Int):Tr:=re ((stepT LV<|L3 0 [] 0 0 0 0 [] [] [] 0 [] 0 0 0 0 [] [] []).L.L.L)<|AB 206 [(8,.sl 0 1 0 h none),(9,.dat (zg i64) v9),(10,.dat i64 d),(11,.sl 1 1 0 b none),(12,.sl 2 1 0 a none),(13,.dat i64 e),(14,.dat i64 f),(15,.dat i64 g),(16,.dat i64 c)] [(2,.arr false 3 i64 i),(1,.arr false 3 i64 o1),(0,.arr true 3 i64 j)] 3
theorem Cr[Srt](k:Nat)(v9:List Int)(j:Int)(a b:Nat)(h:Int)(n o1 q:List Int)(l:Nat)(v1:List Int)(v2 g:Int)(d:Int)(e:Int)(f:List Int)(c:List Int)(i:List Int):stepT LV (L3 k v9 j a b h n o1 q l v1 v2 g d e f c i)=let b':=zc .i64 (v2+g)-2;let p:=e+getD v1 (toNat<|zc .i64<|g-1) 0;let m:=zc .i64<|d-1;let o:Tr:=.ck (decide (0<=zc .i64 (g-1))&&decide (zc .i64 (g-1)<(length v1:Int)))<|.di (zc .i64 p>=1000000000) (L4 k v9 j a b h m 0 0 f c i)<|L3 k v9 j a b h n o1 q l v1 v2 g m (zc .i64 p) f c i;.di (d>=1000000000) o (.ck (decide (0<=zc .i64 (g-2))&&decide (zc .i64 (g-2)<(length v1:Int)))<|.ck (decide (0<=zc .i64 b')&&decide (zc .i64 b'<(↑l:Int)))<|.cd (toNat (zc .i64 b')<length c)<|.di (zc .i64 (d*getD v1 (toNat<|zc .i64<|g-2) 0)>zc .i64 (zc .i64 (e*1000000000)+getD c (toNat<|zc .i64 b') 0)) o<|L4 k v9 j a b h d 0 0 f c i):=by kernel_rfl
def L5[Srt](g:Nat)(v9:List Int)(d:Int)(b a:Nat)(e f c v20:Int)(h o1 i:List Int):Tr:=re ((stepT LV<|L4 0 [] 0 0 0 0 0 0 0 [] [] []).R.L.L.L.L.L.L.L)<|AB 206 [(8,.sl 0 1 0 g none),(9,.dat (zg i64) v9),(10,.dat i64 d),(11,.sl 1 1 0 b none),(12,.sl 2 1 0 a none),(13,.dat i64 e),(14,.dat i64 f),(19,.dat i64 c),(20,.dat i64 v20)] [(2,.arr false 3 i64 h),(1,.arr false 3 i64 o1),(0,.arr true 3 i64 i)] 3
theorem CN[Srt](g:Nat)(v9:List Int)(e:Int)(b c:Nat)(a f h d:Int)(i o1 k:List Int):stepT LV (L4 g v9 e b c a f h d i o1 k)=let o:=decide (0<=zc .i64 (d+a))&&decide (zc .i64 (d+a)<(↑b:Int));let n:=decide (0<=zc .i64 (a+e))&&decide (zc .i64 (a+e)<(↑b:Int));let r:=zc .i64<|zc .i64 (f*getD v9 (toNat d) 0)+h;let l:=zc .i64<|d+a;let j:=zc .i64<|a+e;let p:=zc .i64<|d+1;let m:=set o1 (toNat j)<|zc .i64<|getD o1 (toNat j) 0-h;let b':=getD o1 (toNat l) 0-z6 r 1000000000;let h':=decide (toNat l<length o1);let q:=decide (toNat j<length o1);let s:=zq r 1000000000;.di (d<e) (.ck (decide (0<=d)&&decide (d<(length v9:Int)))<|.ck o<|.ck h'<|.ck true<|.ck true<|.di (zc .i64 b'<0) (.ck o<|.ck h'<|L4 g v9 e b c a f (zc .i64<|zc .i64 s+1) p i (set o1 (toNat l)<|zc .i64<|zc .i64 b'+1000000000) k)<|.ck o<|.ck h'<|L4 g v9 e b c a f (zc .i64 s) p i (set o1 (toNat l)<|zc .i64 b') k) (.ck n<|.ck q<|.ck n<|.ck q<|.ck n<|.cd (toNat j<length m)<|.di (getD m (toNat j) 0<0) (L5 g v9 e b c a (zc .i64<|f-1) 0 0 i m k)<|.ck (decide (0<=a)&&decide (a<(↑c:Int)))<|.cd (toNat a<length i)<|L2 g v9 e b c (zc .i64<|a-1) (set i (toNat a) f) m k):=by kernel_rfl
theorem Fb[Srt](f:Nat)(v9:List Int)(c:Int)(b d:Nat)(a g e v20:Int)(h o1 k:List Int):stepT LV (L5 f v9 c b d a g e v20 h o1 k)=let b':=decide (0<=zc .i64 (v20+a))&&decide (zc .i64 (v20+a)<(↑b:Int));let o:=decide (0<=zc .i64 (a+c))&&decide (zc .i64 (a+c)<(↑b:Int));let i:=zc .i64<|v20+a;let j:=zc .i64<|a+c;let n:=zc .i64<|zc .i64 (getD o1 (toNat i) 0+getD v9 (toNat v20) 0)+e;let m:=decide (toNat i<length o1);let l:=decide (toNat j<length o1);.di (v20<c) (.ck b'<|.ck m<|.ck (decide (0<=v20)&&decide (v20<(length v9:Int)))<|.ck true<|.ck b'<|.ck m<|.ck true<|L5 f v9 c b d a g (zc .i64<|zq n 1000000000) (zc .i64<|v20+1) h (set o1 (toNat i)<|z6 n 1000000000) k) (.ck o<|.ck l<|.ck o<|.ck l<|.ck (decide (0<=a)&&decide (a<(↑d:Int)))<|.cd (toNat a<length h)<|L2 f v9 c b d (zc .i64<|a-1) (set h (toNat a) g) (set o1 (toNat j)<|zc .i64<|getD o1 (toNat j) 0+e) k):=by kernel_rfl
end T168
namespace T153
def T[Srt](a b:List Int):Tr:=tree XG3 false 9 153<|Ae ([zg i64,zg i64]) (a,b)
def L1[Srt](v0 v1:List Int):Tr:=re ((T [] []))<|AB 19 [(0,.dat (zg i64) v0),(1,.dat (zg i64) v1)] [] 0
theorem Ai[Srt](a b:List Int):T a b=L1 a b:=by kernel_rfl
theorem Ar[Srt](v0 v1:List Int):stepT XG3 (L1 v0 v1)=.di ((length v1:Int)>0) (.ck (A0 v0&&A0 v1&&decide (length v0<=9000)&&decide (length v1<=9000)&&decide (0<Aj v1))<|L1 v1<|BG<|Aj v0 % Aj v1) (.leaf (.dat (zg i64) v0) []):=by kernel_rfl
end T153
namespace T165
def T[Srt](s:Z):Tr:=tree mL false 9 165<|Ae ([zf]) s
def L1[Srt](v0:Z)(v3 v4:Int):Tr:=re ((T []))<|AB 20 [(0,.dat zf v0),(3,.dat i64 v3),(4,.dat i64 v4)] [] 0
theorem Ai[Srt](s:Z):T s=L1 s 0 0:=by kernel_rfl
theorem Ar[Srt](v0:Z)(v3 v4:Int):stepT mL (L1 v0 v3 v4)=let a:=decide (v4<(length v0:Int));.ite a (.ck (decide (0<=v4)&&a)<|L1 v0 (zc .i64<|zc .i64 (zc .i64 (10*v3)+zc .i64 (↑(ze<|getD v0 (toNat v4) (0:UInt8)):Int))-48)<|zc .i64<|v4+1) (.leaf (.dat i64 v3) []):=by kernel_rfl
end T165
namespace T166
def T[Srt](s:Z):Tr:=tree aW false 9 166<|Ae ([zf]) s
def L1[Srt](v0:Z)(v3:Bool):Tr:=re ((T []).L.L.L.L)<|AB 40 [(0,.dat zf v0),(2,.ptr 0 0),(3,.dat zi v3),(4,.nil)] [(0,.box [.bl false,.nil])] 1
def L2[Srt](v0:Z):Tr:=re ((T []).R)<|AB 40 [(0,.dat zf v0),(2,.ptr 0 0),(3,.bl false),(4,.nil)] [(0,.box [.bl false,.nil])] 1
theorem Ai[Srt](s:Z):T s=let a:=(↑(ze<|getD s 0 (0:UInt8)):Int)==45;.di ((length s:Int)>0) (.cd (0<(length s:Int))<|.ite a (.ck (decide (1<=length s)&&decide (length s<=length s))<|L1 (take (zw (length s) 1)<|drop 1 s) a)<|L1 s a) (L2 s):=by kernel_rfl
def L3[Srt](v0:Z)(v3:Bool)(a:Nat)(o1:List Int):Tr:=re ((stepT aW<|L1 [] false).L.L.L.L.L)<|AB 40 [(0,.dat zf v0),(2,.ptr 0 0),(3,.dat zi v3),(4,.sl 1 1 0 a none)] [(1,.arr false 3 i64 o1),(0,.box [.bl false,.nil])] 2
theorem Ar[Srt](v0:Z)(v3:Bool):stepT aW (L1 v0 v3)=let b':=aa 8;let b:=(length v0:Int);let a:=zc .i64<|b-9;let d:=decide (0<=zc .i64 (b-9));let e:=take (zw (length v0)<|toNat a)<|drop (toNat a) v0;let c:=decide (toNat a<=length v0);.di (b>9) (.ck (d&&true&&c&&decide (length v0<=length v0))<|.ck (DG e)<|.ck b'<|.ck (d&&decide (0<=toNat a)&&c)<|L3 (take (toNat a) v0) v3 1<|[BJ e]) (.ck (DG v0)<|.ck b'<|.ck (decide (0+1<=1)&&true&&decide (1<=20000))<|.leaf (zl [.dat zi<|Cu v3 [BJ v0],.dat (zg i64)<|Ax [BJ v0]]) []):=by kernel_rfl
def L4[Srt](v0:Z)(a:Nat)(o1:List Int):Tr:=re ((stepT aW<|L2 []).L.L.L.L.L)<|AB 40 [(0,.dat zf v0),(2,.ptr 0 0),(3,.bl false),(4,.sl 1 1 0 a none)] [(1,.arr false 3 i64 o1),(0,.box [.bl false,.nil])] 2
theorem AO[Srt](v0:Z):stepT aW (L2 v0)=let b':=aa 8;let b:=(length v0:Int);let a:=zc .i64<|b-9;let d:=decide (0<=zc .i64 (b-9));let e:=take (zw (length v0)<|toNat a)<|drop (toNat a) v0;let c:=decide (toNat a<=length v0);.di (b>9) (.ck (d&&true&&c&&decide (length v0<=length v0))<|.ck (DG e)<|.ck b'<|.ck (d&&decide (0<=toNat a)&&c)<|L4 (take (toNat a) v0) 1<|[BJ e]) (.ck (DG v0)<|.ck b'<|.ck (decide (0+1<=1)&&true&&decide (1<=20000))<|.leaf (zl [.dat zi<|Cu false [BJ v0],.dat (zg i64)<|Ax [BJ v0]]) []):=by kernel_rfl
theorem Cr[Srt](v0:Z)(v3:Bool)(a:Nat)(o1:List Int):stepT aW (L3 v0 v3 a o1)=let b':=ac a (length o1) 8;let d:=take (yh a 1)<|o1++[BJ v0];let c:=(length v0:Int);let b:=zc .i64<|c-9;let f:=decide (0<=zc .i64 (c-9));let e:=take (zw (length v0)<|toNat b)<|drop (toNat b) v0;let g:=decide (toNat b<=length v0);.di (c>9) (.ck (f&&true&&g&&decide (length v0<=length v0))<|.ck (DG e)<|.ck b'<|.ck (f&&decide (0<=toNat b)&&g)<|L3 (take (toNat b) v0) v3 (yh a 1)<|o1++[BJ e]) (.ck (DG v0)<|.ck b'<|.ck (decide (0+yh a 1<=length (o1++[BJ v0]))&&true&&decide (length d<=20000))<|.leaf (zl [.dat zi<|Cu v3 d,.dat (zg i64)<|Ax d]) []):=by kernel_rfl
theorem CN[Srt](v0:Z)(a:Nat)(o1:List Int):stepT aW (L4 v0 a o1)=let b':=ac a (length o1) 8;let d:=take (yh a 1)<|o1++[BJ v0];let c:=(length v0:Int);let b:=zc .i64<|c-9;let f:=decide (0<=zc .i64 (c-9));let e:=take (zw (length v0)<|toNat b)<|drop (toNat b) v0;let g:=decide (toNat b<=length v0);.di (c>9) (.ck (f&&true&&g&&decide (length v0<=length v0))<|.ck (DG e)<|.ck b'<|.ck (f&&decide (0<=toNat b)&&g)<|L4 (take (toNat b) v0) (yh a 1)<|o1++[BJ e]) (.ck (DG v0)<|.ck b'<|.ck (decide (0+yh a 1<=length (o1++[BJ v0]))&&true&&decide (length d<=20000))<|.leaf (zl [.dat zi<|Cu false d,.dat (zg i64)<|Ax d]) []):=by kernel_rfl
end T166
namespace T136n
def T[Srt](n:Int):Tr:=tree XF0 false 9 136<|Ae ([zj yf]) n
theorem Ai[Srt](n:Int):T n=.leaf (zl [.dat i64 n,.nil]) []:=by kernel_rfl
end T136n
namespace T211
def T[Srt](a b:AH):Tr:=tree XF1 false 9 211<|Ae ([AY,AY]) (a,b)
def L1[Srt](d:Bool)(b c:List Int)(e o1 f:Int)(a:List Int):Tr:=re ((T (0,[]) (0,[])).L.L.R.L.L.L)<|AB 84 [(3,.ptr 0 0),(4,.ptr 1 0),(5,.ptr 2 0),(8,.dat zi d),(12,.dat (zg<|zj zd) b),(13,.dat (zg<|zj zd) c)] [(2,.box [.dat i64 e,.nil]),(1,.box [.dat i64 o1,.nil]),(0,.box [.dat i64 f,.dat wU a])] 3
theorem Ai[Srt](a b:AH):T a b=let b':=BD<|Ag<|yq a;let c:=BD<|Ag<|yq b;let e:=zq (fst a)<|fst b;let d:Tr:=.ck (Dx a)<|.ck (Dx b)<|.ck (S6 b' c)<|L1 (decide (yq a<0)) (BD<|Aq b'/Aq c) (BD<|Aq b' % Aq c) 0 0 (fst b)<|snd b;.ite (!decide (0<length (snd a))) (.ite (!decide (0<length (snd b))) (.ite (fst a !=(-9223372036854775808)) (.cd (fst b≠0)<|.cd (fst b≠0)<|.di (z6 (fst a) (fst b)<0) (.leaf (.tup [zl [.dat i64<|zc .i64<|zc .i64 e-1,.nil],zl [.dat i64<|zc .i64<|z6 (fst a) (fst b)+fst b,.nil]]) [])<|.leaf (.tup [zl [.dat i64<|zc .i64 e,.nil],zl [.dat i64<|z6 (fst a)<|fst b,.nil]]) []) d) d) d:=by kernel_rfl
def L2[Srt](g:Int)(c:List Int)(d:Int)(a:List Int)(f o1 e:Int)(b:List Int):Tr:=re ((stepT XF1<|L1 false [] [] 0 0 0 []).L.L)<|AB 84 [(3,.ptr 0 0),(4,.ptr 1 0),(5,.ptr 2 0),(14,.ptr 3 0),(15,.ptr 4 0)] [(4,.box [.dat i64 g,.dat wU c]),(3,.box [.dat i64 d,.dat wU a]),(2,.box [.dat i64 f,.nil]),(1,.box [.dat i64 o1,.nil]),(0,.box [.dat i64 e,.dat wU b])] 5
theorem Ar[Srt](d:Bool)(b c:List Int)(e o1 g:Int)(a:List Int):stepT XF1 (L1 d b c e o1 g a)=let f:=Sp.sg d<|Aq c;let b':=Sp.sg d<|Aq b;.ck (B3 b) (.ck (B3 c)<|L2 (CF f) (CD f) (CF b') (CD b') e o1 g a):=by kernel_rfl
theorem AO[Srt](d:Int)(a:List Int)(e:Int)(b:List Int)(g o1 f:Int)(c:List Int):stepT XF1 (L2 d a e b g o1 f c)=.ck (Dx (d,a)) (.di (ID (d,a)<0) (.ck true<|.ck (Bd (e,b)&&Bd (1,Ct 1))<|.ck (Bd (d,a)&&Bd (f,c))<|.leaf (.tup [zl [.dat i64<|XM (e,b) (1,Ct 1),.dat wU<|X3 (e,b) (1,Ct 1)],zl [.dat i64<|JW (d,a) (f,c),.dat wU<|JU (d,a) (f,c)]]) [])<|.leaf (.tup [zl [.dat i64 e,.dat wU b],zl [.dat i64 d,.dat wU a]]) []):=by kernel_rfl
end T211
namespace T143
def T[Srt](a b:AH):Tr:=tree XF2 false 9 143<|Ae ([AY,AY]) (a,b)
def L1[Srt](c o1:Int)(a:List Int)(d:Int)(b:List Int):Tr:=re ((T (0,[]) (0,[])).L.L)<|AB 23 [(2,.ptr 0 0),(3,.ptr 1 0),(4,.ptr 2 0)] [(2,.box [.dat i64 c,.nil]),(1,.box [.dat i64 o1,.dat wU a]),(0,.box [.dat i64 d,.dat wU b])] 3
theorem Ai[Srt](a b:AH):T a b=.ck (Dx a) (.ck (Dx b)<|L1 0 (OE b) (Ph b) (OE a)<|Ph a):=by kernel_rfl
theorem Ar[Srt](d o1:Int)(a:List Int)(c:Int)(b:List Int):stepT XF2 (L1 d o1 a c b)=.ck (Dx (o1,a)) (.ite (ID (o1,a) !=0) (.ck (Bd (c,b)&&Bd (o1,a)&&decide (0<yq (o1,a)))<|L1 d (eB (c,b) (o1,a)) (dY (c,b) (o1,a)) o1 a)<|.leaf (zl [.dat i64 c,.dat wU b]) []):=by kernel_rfl
end T143
namespace T197
def T[Srt](a:AH)(k:Int):Tr:=tree XF3 false 9 197<|Ae ([AY,zj yf]) (a,k)
def L1[Srt](v1 c:Int)(b:List Int)(o1 d:Int)(a:List Int):Tr:=re ((T (0,[]) 0).L)<|AB 23 [(1,.dat i64 v1),(2,.ptr 0 0),(4,.ptr 1 0),(5,.ptr 2 0)] [(2,.box [.dat i64 c,.dat wU b]),(1,.box [.dat i64 o1,.nil]),(0,.box [.dat i64 d,.dat wU a])] 3
theorem Ai[Srt](a:AH)(k:Int):T a k=.ck true (L1 k 1 (Ct 1) 0 (fst a)<|snd a):=by kernel_rfl
theorem Ar[Srt](v1 d:Int)(b:List Int)(o1 c:Int)(a:List Int):stepT XF3 (L1 v1 d b o1 c a)=let e:=zn v1<|2^1;let b':=Bd (c,a)&&Bd (c,a);let i:=EH (d,b) (c,a);let f:=ET (d,b) (c,a);let g:=EH (c,a) (c,a);let h:=ET (c,a) (c,a);.di (v1>0) (.ite (HR yf v1 1==1) (.ck (Bd (d,b)&&Bd (c,a))<|.di (v1>1) (.ck b'<|.ck true<|L1 e i f o1 g h)<|.ck true<|L1 e i f o1 c a)<|.di (v1>1) (.ck b'<|.ck true<|L1 e d b o1 g h)<|.ck true<|L1 e d b o1 c a) (.leaf (zl [.dat i64 d,.dat wU b]) []):=by kernel_rfl
end T197
end
end Go.Pe
