import Derived.Test.YtjbmodoofdpgcaaGreatDoorX09
import Derived.Lib.ItoaMem
/- A part of a proof; no law is stated here. -/
noncomputable section
open Go.IntKind renaming wrap -> zc, u64 -> zd, u8 -> z7
open UInt8 renaming toNat -> ze
open Go.Pe.Sh renaming str -> zf, list -> zg, bool -> zj, int -> zl
open Int renaming mul_le_mul_of_nonneg_right -> zh, eq_ofNat_of_zero_le -> zo, mul_nonneg -> zp, fdiv -> zq, mul_assoc -> zu, add_mul -> zw, tdiv -> zx, toNat_natCast -> zy, mul_comm -> zz, one_mul -> z8, le_of_lt -> yb, tmod -> yc, fdiv_eq_ediv_of_nonneg -> yd, natCast_pow -> yf, natCast_mul -> yi, tdiv_eq_ediv_of_nonneg -> ym, zero_add -> yq, ediv_nonneg -> yt
open Go.Pe.Ends renaming tt -> zi, leaf -> zk, ite -> zn, eq -> yn
open Go.Sp renaming vI -> zm, u64 -> yk, first -> yv
open Bool renaming and_eq_true -> zr
open Go.Pe.PV renaming agg -> zt
open Nat renaming sub -> z6, add -> yj, two_pow_pos -> yr, pow_add -> yu
open Go.Pe.Ac renaming of -> ye
open List renaming length -> yg, map -> yh
open Min renaming min -> yo
open BitVec renaming ofInt -> yp
namespace Go.Pe
open Sp
open Go.Det
theorem EV{n:Int}(b: -9223372036854775808<=n)(a:n<9223372036854775808):B5 n=true:=by
 unfold B5;rw[zr,w5,w5];exact⟨b,a⟩
theorem JL{n:Int}(h:B5 n=true):Dd (n,[])=true:=by
 unfold Dd;rw[h];rfl
theorem MJ{n:Int}{k:Nat}(h:Ae n<(Am:Int)^k)(b:k<=20000):Dd (CC n)=true/\(CC n).2.length<=k:=by
 unfold CC;split
 ·next c=>exact⟨JL (EV ae ae),Nat.zero_le _⟩
 ·next c=>
  obtain⟨n1,e,a⟩:=CY (AG n) h b;refine⟨?_,Lo (AG n) h⟩;have d:9223372036854775808<=Ae n:=by rw[Ah];omega
  unfold Dd;refine Ad (EV ?_ ?_) ?_
  ·show -9223372036854775808<=(if n<0 then -1 else 1);split<;>decide
  ·show(if n<0 then -1 else 1)<9223372036854775808;split<;>decide
  ·rw[Bool.or_eq_true];refine .inr (Ad (Ad n1 ?_) (w4<|by show _<=Ao (BO<|Ae n);rw[a];exact d));show(decide ((if n<0 then(-1:Int)else 1)=1)||decide ((if n<0 then(-1:Int)else 1)= -1))=true;split<;>rfl
theorem HQ(a:AE):zm (CN a)= -zm a:=by
 unfold CN;split
 ·next h=>rw[EB,BF h.1]
 ·exact Cc _
theorem HT(n:Int):Ae (-n)=Ae n:=by rw[Ah,Ah];omega
theorem Va{a:AE}(h:Dd a=true){k:Nat}(e:1<=k)(d:k<=20000)(b:a.2.length<=k):Dd (CN a)=true/\(CN a).2.length<=k:=by
 have f:=(EE h).1;unfold CN;split
 ·next c=>exact⟨JL (EV ae ae),Nat.zero_le _⟩
 ·exact MJ (by rw[HT];exact Ik h b e) d
theorem Sf{a:AE}(h:Bd a=true):Bd (CN a)=true:=by
 obtain⟨c,b⟩:=BY h;obtain⟨h3,h4⟩:=Va c (k:=9000) ae ae b;unfold Bd;exact Ad h3<|w4 h4
theorem kX{a:AE}(h:Dd a=true):a.1<0↔zm a<0:=by
 obtain⟨_,b⟩:=EE h;obtain⟨s,w⟩:=a;rcases b with b|⟨_,e,d⟩
 ·have b:w=[]:=b;subst b;rw[EB]
 ·have e:s=1\/s= -1:=e;have d:9223372036854775808<=Ao w:=d;have c:w≠[]:=by rintro rfl;exact wh d af
  rw[aY c];show s<0↔_;split<;>omega
theorem TN(a b:AE):zm (D1 a b)=zm a+zm b:=by
 unfold D1;split
 ·next h=>rw[EB,BF h.1,BF h.2.1]
 ·exact Cc _
theorem kB(x y:Int):Ae (x+y)<=Ae x+Ae y:=by
 rw[Ah,Ah,Ah];omega
theorem IG(x y:Int):Ae (x*y)=Ae x*Ae y:=by
 rw[Ah,Ah,Ah,Int.natAbs_mul,yi]
theorem bounds{a:AE}(h:Bd a=true):Ae (zm a)<(Am:Int)^9000:=(words h).2.2.2.2.2
theorem RE{a b:AE}(d:Bd a=true)(c:Bd b=true):Dd (D1 a b)=true:=by
 unfold D1;split
 ·next h=>exact JL h.2.2
 ·exact(MJ (Int.lt_of_le_of_lt (kB _ _) (K4 (AG _) (bounds d)<|bounds c).1) ae).1
theorem aI(a b:AE):zm (Mg a b)=zm a-zm b:=by
 unfold Mg;rw[TN,HQ];omega
theorem Db(a b:AE):zm (EJ a b)=zm a*zm b:=Cc _
theorem Vp[Srt]:DU zZ:=
 Aa T157.ok (Aa T102.ok AT)
namespace T158
theorem ok[Srt]:Ag Bh 158 Lu:=by
 refine BX It<|fun(a:Int×List Int) b=>?_;have b:Dd a=true:=b;exact yn (Al a)<|zk<|ye rfl rfl (sX b)
end T158
namespace T172
theorem ok[Srt]:Ag Bh 172 oY:=by
 refine BX Vp<|fun(a:Int×List Int) b=>?_;have b:Dd a=true:=b;refine yn (Al a)<|zn (fun c=>zi b<|zk<|ye rfl rfl ?_)<|fun c=>zk<|ye rfl rfl ?_
 ·show CN a=Tq a;unfold Tq;rw[wd<|w6 c]
 ·show a=Tq a;unfold Tq;rw[wc<|w7 c]
end T172
namespace T174
theorem ok[Srt]:Ag Bh 174 dT:=by
 refine BX Vp<|fun(i:(Int×List Int)×(Int×List Int)) c=>?_;obtain⟨a,b⟩:=i;have c:(Bd a&&Bd b)=true:=c;rw[zr]at c;exact yn (Al a b)<|zi (BY c.2).1<|zi (Ad c.1<|Sf c.2)<|zk<|ye rfl rfl rfl
end T174
theorem iL[Srt]:DU XJ2:=
 Aa T174.ok (Aa T158.ok AT)
theorem gV(x y:Int):SP (x-y)=B3 x y:=by
 unfold SP B3;split
 ·rw[wd ae]
 ·split
  ·rw[wc ae,wd ae]
  ·rw[wc ae,wc ae]
namespace T118
theorem ok[Srt]:Ag Bh 118 ZI:=by
 refine BX iL<|fun(i:(Int×List Int)×(Int×List Int)) f=>?_;obtain⟨a,b⟩:=i;have f:(Bd a&&Bd b)=true:=f;have c:=f;rw[zr]at c;have h:Dd (Mg a b)=true:=by
  unfold Mg;exact RE c.1<|Sf c.2
 have j:Ib (Mg a b)=Xp a b:=by
  show SP (zm<|Mg a b)=B3 (zm a) (zm b);rw[aI,gV]
 refine yn (Al a b)<|zn (fun k=>zn (fun g=>zn (fun d=>zk<|ye rfl rfl ?_)<|fun d=>zn (fun e=>zk<|ye rfl rfl ?_)<|fun e=>zk<|ye rfl rfl ?_)<|fun g=>zi f<|zi h<|zk<|ye rfl rfl j)<|fun k=>zi f<|zi h<|zk<|ye rfl rfl j;all_goals
  have m:=BF<|Ns k;have l:=BF<|Ns g;show _=B3 (zm a) (zm b);rw[m,l];unfold B3
 ·rw[wd<|w6 d]
 ·rw[wc<|w7 d,wd<|w6 e]
 ·rw[wc<|w7 d,wc<|w7 e]
end T118
theorem QQ(x y:Int):x*y=Sp.sg (!(decide (x<0)==decide (y<0))) (Ae x*Ae y):=by
 unfold Ae;rw[Da];by_cases a:x<0<;>by_cases b:y<0<;>simp[a,b,Int.neg_mul,Int.mul_neg]
namespace T96
theorem ok[Srt]:Ag Bh 96 PY:=by
 refine BX Rk<|fun(i:(Int×List Int)×(Int×List Int)) j=>?_;obtain⟨a,b⟩:=i;have j:(Bd a&&Bd b)=true:=j;rw[zr]at j;obtain⟨a1,a2,a3,a4,a5,a6⟩:=words j.1;obtain⟨b1,b2,b3,b4,b5,b6⟩:=words j.2;have f:=(EE a1).1;have d:=(EE b1).1;have o:=AG<|zm a;have nb:=AG<|zm b;obtain⟨_,t2⟩:=K4 o a6 b6;have p:0<=Ae (zm a)*Ae (zm b):=zp o nb;have n1:B0 (BO<|Ao (BO<|Ae<|zm a)*Ao (BO<|Ae<|zm b))=true:=by
  rw[a5,b5];exact(CY p t2 ae).1
 have r:Sp.sg (!(decide (zm a<0)==decide (zm b<0))) (Ao<|BO<|Ao (BO<|Ae<|zm a)*Ao (BO<|Ae<|zm b))=zm a*zm b:=by
  rw[a5,b5,show Ao (BO<|Ae (zm a)*Ae (zm b))=_ from CO af p, <-QQ]
 have s:∀ob,Ac PY (a,b) (.agg [.dat i64<|Cy<|Sp.sg (!(decide (zm a<0)==decide (zm b<0)))<|Ao<|BO<|Ao (BO<|Ae<|zm a)*Ao (BO<|Ae<|zm b),.dat (.nlist<|.int .u64)<|Cv<|Sp.sg (!(decide (zm a<0)==decide (zm b<0)))<|Ao<|BO<|Ao (BO<|Ae<|zm a)*Ao (BO<|Ae<|zm b)]) ob:=fun ob=>ye rfl rfl (by
  show CC _=CC (zm a*zm b);rw[r])
 have q:yk (Ae a.1)=true:=Ct (AG _) (by rw[Ah];omega);have ub:yk (Ae b.1)=true:=Ct (AG _) (by rw[Ah];omega);refine yn (Al a b)<|zn (fun m=>zn (fun n=>zi (EV f.1 f.2)<|zi (EV d.1 d.2)<|zi (Ad q ub)<|zn (fun e=>zn (fun h=>zn (fun c=>zk<|ye rfl rfl ?_)<|fun c=>zk<|ye rfl rfl ?_)<|fun h=>?_)<|fun e=>?_)<|fun n=>?_)<|fun m=>?_
 ·have l:=BF<|Ns m;have k:=BF<|Ns n;have e:(Ae a.1*Ae b.1)/18446744073709551616=0:=by simpa [Pr]using e
  have h:(Ae a.1*Ae b.1) % 18446744073709551616<=9223372036854775807:=w6 h;have p0:0<=Ae a.1*Ae b.1:=zp (AG _)<|AG _;have g:=QQ a.1 b.1;have c:(!(decide (a.1<0)==decide (b.1<0)))=true:=c;rw[c,Da,wd rfl]at g;show(zc .i64<|0-zc .i64 ((Ae a.1*Ae b.1) % 18446744073709551616),[])=CC (zm a*zm b);rw[l,k,g,B2 ae,wr ((Ae a.1*Ae b.1) % 18446744073709551616) ae ae,wr _ ae ae];congr 1;omega
 ·have l:=BF<|Ns m;have k:=BF<|Ns n;have e:(Ae a.1*Ae b.1)/18446744073709551616=0:=by simpa [Pr]using e
  have h:(Ae a.1*Ae b.1) % 18446744073709551616<=9223372036854775807:=w6 h;have p0:0<=Ae a.1*Ae b.1:=zp (AG _)<|AG _;have g:=QQ a.1 b.1;have c:(!(decide (a.1<0)==decide (b.1<0)))=false:=c;rw[c,Da,wc af]at g;show(zc .i64<|(Ae a.1*Ae b.1) % 18446744073709551616,[])=CC (zm a*zm b);rw[l,k,g,B2 ae,wr ((Ae a.1*Ae b.1) % 18446744073709551616) ae ae];congr 1;omega
 all_goals exact zi a1<|zi b1<|zi (Ad a2 b2)<|zi n1<|zk<|s _
end T96
end Go.Pe
namespace Go.Sp
def FO(n:Int):Int:=if n<=0 then 0 else(n.toNat.log2:Int)+1
def lz(n:Int):Int:=64-FO n
def dq(h l y:Int):Int:=(h*18446744073709551616+l)/y
def dr(h l y:Int):Int:=(h*18446744073709551616+l) % y
end Go.Sp
namespace Go.Pe
open Go.Det
def eU:Aq:=⟨[u64],fun n=>yk n,[i64],fun n=>Sp.FO n,false⟩
def yN:Aq:=⟨[u64],fun n=>yk n,[i64],fun n=>Sp.lz n,false⟩
def Qm:Aq:=⟨[u64,u64,u64],fun i=>yk i.1&&yk i.2.1&&yk i.2.2&&decide ((i.1:Int)<i.2.2),[u64,u64],fun i=>(Sp.dq i.1 i.2.1 i.2.2,Sp.dr i.1 i.2.1 i.2.2),false⟩
def XD1[Srt]:A0:=X7 [(184,eU)]
def aB[Srt]:A0:=X7 [(245,yN)]
section
open List Int Prod
namespace T184
def T[Srt](x:Int):Tr:=tree fD false 9 184<|Af ([zl zd]) x
theorem Al[Srt](x:Int):T x=let a:=([0,1,2,2,3,3,3,3,4,4,4,4,4,4,4,4,5,5,5,5,5,5,5,5,5,5,5,5,5,5,5,5,6,6,6,6,6,6,6,6,6,6,6,6,6,6,6,6,6,6,6,6,6,6,6,6,6,6,6,6,6,6,6,6,7,7,7,7,7,7,7,7,7,7,7,7,7,7,7,7,7,7,7,7,7,7,7,7,7,7,7,7,7,7,7,7,7,7,7,7,7,7,7,7,7,7,7,7,7,7,7,7,7,7,7,7,7,7,7,7,7,7,7,7,7,7,7,7,8,8,8,8,8,8,8,8,8,8,8,8,8,8,8,8,8,8,8,8,8,8,8,8,8,8,8,8,8,8,8,8,8,8,8,8,8,8,8,8,8,8,8,8,8,8,8,8,8,8,8,8,8,8,8,8,8,8,8,8,8,8,8,8,8,8,8,8,8,8,8,8,8,8,8,8,8,8,8,8,8,8,8,8,8,8,8,8,8,8,8,8,8,8,8,8,8,8,8,8,8,8,8,8,8,8,8,8,8,8,8,8,8,8,8,8,8,8,8,8,8,8,8,8,8,8,8,8]:Rd);let b':=zq x<|2^32;let b:=(0:Sh.T (zl z7));let d:=zq x<|2^16;let f:=zq x<|2^8;let c:=zq b'<|2^16;let g:=zq b'<|2^8;let h':=zq d<|2^8;let e:=zq c<|2^8;.di (x>=4294967296) (.ck true<|.di (zq x (2^32)>=65536) (.ck true<|.di (zq b' (2^16)>=256) (.ck true<|.ck (decide (b<=zc .u8 e)&&decide (zc .u8 e<(↑256:Int)))<|.leaf (.dat i64<|zc .i64<|zc .i64 (zc .i64 (32+16)+8)+zc .i64 (↑(ze<|getD a (toNat<|zc .u8 e) (0:UInt8)):Int)) [])<|.ck (decide (b<=zc .u8 c)&&decide (zc .u8 c<(↑256:Int)))<|.leaf (.dat i64<|zc .i64<|zc .i64 (32+16)+zc .i64 (↑(ze<|getD a (toNat<|zc .u8 c) (0:UInt8)):Int)) [])<|.di (zq x (2^32)>=256) (.ck true<|.ck (decide (b<=zc .u8 g)&&decide (zc .u8 g<(↑256:Int)))<|.leaf (.dat i64<|zc .i64<|zc .i64 (32+8)+zc .i64 (↑(ze<|getD a (toNat<|zc .u8 g) (0:UInt8)):Int)) [])<|.ck (decide (b<=zc .u8 b')&&decide (zc .u8 b'<(↑256:Int)))<|.leaf (.dat i64<|zc .i64<|32+zc .i64 (↑(ze<|getD a (toNat<|zc .u8 b') (0:UInt8)):Int)) []) (.di (x>=65536) (.ck true<|.di (zq x (2^16)>=256) (.ck true<|.ck (decide (b<=zc .u8 h')&&decide (zc .u8 h'<(↑256:Int)))<|.leaf (.dat i64<|zc .i64<|zc .i64 (zc .i64 (0+16)+8)+zc .i64 (↑(ze<|getD a (toNat<|zc .u8 h') (0:UInt8)):Int)) [])<|.ck (decide (b<=zc .u8 d)&&decide (zc .u8 d<(↑256:Int)))<|.leaf (.dat i64<|zc .i64<|zc .i64 (0+16)+zc .i64 (↑(ze<|getD a (toNat<|zc .u8 d) (0:UInt8)):Int)) [])<|.di (x>=256) (.ck true<|.ck (decide (b<=zc .u8 f)&&decide (zc .u8 f<(↑256:Int)))<|.leaf (.dat i64<|zc .i64<|zc .i64 (0+8)+zc .i64 (↑(ze<|getD a (toNat<|zc .u8 f) (0:UInt8)):Int)) [])<|.ck (decide (b<=zc .u8 x)&&decide (zc .u8 x<(↑256:Int)))<|.leaf (.dat i64<|zc .i64<|0+zc .i64 (↑(ze<|getD a (toNat<|zc .u8 x) (0:UInt8)):Int)) []):=by kernel_rfl
end T184
namespace T245
def T[Srt](x:Int):Tr:=tree XD1 false 9 245<|Af ([zl zd]) x
theorem Al[Srt](x:Int):T x=.ck (yk x) (.leaf (.dat i64<|zc .i64<|64-Sp.FO x) []):=by kernel_rfl
end T245
namespace T244
def T[Srt](b a y:Int):Tr:=tree aB false 9 244<|Af ([zl zd,zl zd,zl zd]) (b,a,y)
def L1[Srt](v2 g v9 b c a f d e:Int):Tr:=re ((T 0 0 0).R.R.R.L.L.L.L.L.L.L.L)<|AI 135 [(2,.dat (zl zd) v2),(8,.dat (zl zd) g),(9,.dat (zl zd) v9),(10,.dat (zl zd) b),(11,.dat (zl zd) c),(13,.dat (zl zd) a),(14,.dat (zl zd) f),(15,.dat (zl zd) d),(16,.dat (zl zd) e)] [] 0
theorem Al[Srt](c b y:Int):T c b y=let e:=decide (0<=zc .u64 (Sp.lz y));let h:=64-zc .u64 (Sp.lz y);let g:=zc .u64<|Sp.lz y;let d:=toNat g;let i:=zq b<|2^yo (toNat<|zc .u64 h) 64;let a:=zc .u64<|y*2^yo d 64;let f:=zc .u64<|b*2^yo d 64;let j:=zc .u64<|c*2^yo d 64;let b':=Xg zd j i;let h':=zq a<|2^32;.ite (y==0) .fail (.di (y<=c) .fail<|.ite (c==0) (.cd (y≠0)<|.cd (y≠0)<|.leaf (.tup [.dat (zl zd)<|zc .u64<|zx b y,.dat (zl zd)<|yc b y]) [])<|.ck (yk y)<|.ck e<|.ck true<|.ck e<|.cd (0<=zc .u64 h)<|.ck e<|.ck true<|.cd (zq a (2^32)≠0)<|L1 a g h' (Hb zd a 4294967295) b' (zq f<|2^32) (Hb zd f 4294967295) (zc .u64<|zx b' h')<|zc .u64<|Xg zd j i-zc .u64 (zc .u64 (zx b' h')*zq a (2^32))):=by kernel_rfl
def L2[Srt](v2 g v9 b f c d a e:Int):Tr:=re ((stepT aB<|L1 0 0 0 0 0 0 0 0 0).L.L.L)<|AI 135 [(2,.dat (zl zd) v2),(8,.dat (zl zd) g),(9,.dat (zl zd) v9),(10,.dat (zl zd) b),(14,.dat (zl zd) f),(15,.dat (zl zd) c),(16,.dat (zl zd) d),(17,.dat (zl zd) a),(18,.dat (zl zd) e)] [] 0
theorem As[Srt](v2 g v9 b f c e a d:Int):stepT aB (L1 v2 g v9 b f c e a d)=let j:=zc .u64 (f*4294967296)+c;let m:=zc .u64<|a-1;let b':=zc .u64 j-zc .u64 (zc .u64 (a-1)*v2);let l:=zc .u64 j-zc .u64 (a*v2);let h:=zc .u64 l;let i:=zc .u64 b';let k:Tr:=.di (zc .u64 (d+v9)>=4294967296) (.cd (v9≠0)<|L2 v2 g v9 b e m (zc .u64<|zc .u64 b'-zc .u64 (zc .u64 (zx i v9)*v9)) i<|zc .u64<|zx i v9)<|L1 v2 g v9 b f c e m<|zc .u64<|d+v9;.di (a>=4294967296) k (.di (zc .u64 (a*b)>zc .u64 (zc .u64 (4294967296*d)+c)) k<|.cd (v9≠0)<|L2 v2 g v9 b e a (zc .u64<|zc .u64 l-zc .u64 (zc .u64 (zx h v9)*v9)) h<|zc .u64<|zx h v9):=by kernel_rfl
theorem A5[Srt](v2 g v9 f d b c e a:Int):stepT aB (L2 v2 g v9 f d b c e a)=let b':=zl zd;let i:=zc .u64 (e*4294967296)+d;let j:=2^yo (toNat g) 64;let h:Tr:=.di (zc .u64 (c+v9)>=4294967296) (.cd (0<=g)<|.leaf (.tup [.dat b'<|zc .u64<|zc .u64 (b*4294967296)+zc .u64 (a-1),.dat b'<|zq (zc .u64<|zc .u64 i-zc .u64 (zc .u64 (a-1)*v2)) j]) [])<|L2 v2 g v9 f d b (zc .u64<|c+v9) e<|zc .u64<|a-1;.di (a>=4294967296) h (.di (zc .u64 (a*f)>zc .u64 (zc .u64 (4294967296*c)+d)) h<|.cd (0<=g)<|.leaf (.tup [.dat b'<|zc .u64<|zc .u64 (b*4294967296)+a,.dat b'<|zq (zc .u64<|zc .u64 i-zc .u64 (a*v2)) j]) []):=by kernel_rfl
end T244
end
namespace T244
variable {Q:PV->Ob->Prop}
def Exact(Y u w q:Int):Prop:=q*Y<=u*4294967296+w/\u*4294967296+w<(q+1)*Y
theorem VG{Y a b u w q r:Int}(c:Y=a*4294967296+b)(d:q*a+r=u)(h:q*b>4294967296*r+w):u*4294967296+w<q*Y:=by
 subst c;rw[Int.mul_add, <-zu];generalize q*a=A at*;generalize q*b=C at*;omega
theorem JO{Y a b u w q r:Int}(c:Y=a*4294967296+b)(d:q*a+r=u)(h:q*b<=4294967296*r+w):q*Y<=u*4294967296+w:=by
 subst c;rw[Int.mul_add, <-zu];generalize q*a=A at*;generalize q*b=C at*;omega
theorem S9{Y u w q:Int}(c:u<Y)(b:0<=Y)(d:w<4294967296)(a:4294967296<=q):u*4294967296+w<q*Y:=by
 have:=zh a b;omega
theorem SJ{b c u w r:Int}{n:Nat}{Y:Int}(d:Y=b*4294967296+c)(f:0<=b)(h0:0<=c/\c<4294967296)(j:u<Y)(k:0<=w)(e:(n:Int)*b+r=u)(g:4294967296<=r):(n:Int)*Y<=u*4294967296+w:=by
 have i:(n:Int)<4294967296:=by
  rcases Int.lt_or_le (n:Int) 4294967296 with h|h
  ·exact h
  ·have:=zh h f;omega
 refine JO d e ?_;have a:=zh (show(n:Int)<=4294967295 by omega) h0.1;omega
theorem Ap[Srt](Y s f g u w z:Int)(v:Y=f*4294967296+g)(H:0<f/\f<4294967296)(h0:0<=g/\g<4294967296)(y:u<Y)(B:0<=w/\w<4294967296)
  (t:∀q:Int,0<=q->Exact Y u w q->Ends aB (L2 Y s f g z q (zc zd<|zc zd (zc zd (zc zd (u*(4294967296:Int))+w)-zc zd (q*Y))-zc zd (zc zd (zx (zc zd<|zc zd (zc zd (u*(4294967296:Int))+w)-zc zd (q*Y)) f)*f)) (zc zd<|zc zd (zc zd (u*(4294967296:Int))+w)-zc zd (q*Y))<|zc zd<|zx (zc zd<|zc zd (zc zd (u*(4294967296:Int))+w)-zc zd (q*Y)) f) Q):
  ∀(n:Nat) (r:Int),(n:Int)<18446744073709551616->(n:Int)*f+r=u->0<=r->r<4294967296->u*4294967296+w<((n:Int)+1)*Y->Ends aB (L1 Y s f g u w z n r) Q:=by
 intro n;induction n with
 |zero=>
  intro r F l C r1 i;have m:decide (f≠0)=true:=w4 ae;refine Ends.Av (As ..) (Ends.ff (by simp)<|Ends.ff (w8 ?_)<|zi m<|t _ ae ⟨?_,i⟩)
  ·rw[show((0:Nat):Int)*g=0 by simp,wu 0 ae ae,wu (4294967296*r) ae ae,wu _ ae ae];omega
  ·exact JO v l (by rw[show((0:Nat):Int)*g=0 by simp];omega)
 |succ n G=>
  intro r F l C r1 i;have m:decide (f≠0)=true:=w4 ae;have E:zc .u64 (((n+1:Nat):Int)-1)=(n:Int):=by rw[wu _ ae ae];omega
  have D:zc .u64 (r+f)=r+f:=wu _ ae ae;have x:0<=Y:=ae
  have k:(n:Int)*f+(r+f)=u:=by
   rw[show((n+1:Nat):Int)=(n:Int)+1 by omega,zw,z8]at l;omega
  have A:((n+1:Nat):Int)=(n:Int)+1:=ae
  have o:u*4294967296+w<((n:Int)+1)*Y->r+f<4294967296->Ends aB (L1 Y s f g u w z n<|r+f) Q:=fun j h=>
   G (r+f) ae k ae h j
  have cut:u*4294967296+w<((n:Int)+1)*Y->4294967296<=r+f->Exact Y u w n:=fun j h=>
   ⟨SJ v ae h0 y B.1 k h,j⟩
  refine Ends.Av (As ..) ?_;conv=>zeta
  rw[E,D];refine zn (fun c=>?_)<|fun c=>zn (fun d=>?_)<|fun d=>?_
  ·have c:=w6 c;have p:u*4294967296+w<((n:Int)+1)*Y:=by rw[<-A];exact S9 y x B.2 c
   exact zn (fun e=>zi m<|t _ ae<|cut p<|w6 e) (fun e=>o p (by have:=w7 e;omega))
  ·have c:=w7 c;have d:=w6 d;have a:=zh (show((n+1:Nat):Int)<=4294967295 by omega) h0.1;have b:=zp (show 0<=((n+1:Nat):Int)by omega) h0.1;rw[wu (((n+1:Nat):Int)*g) ae ae,wu (4294967296*r) ae ae,wu _ ae ae]at d;have p:u*4294967296+w<((n:Int)+1)*Y:=by rw[<-A];exact VG v l d
   exact zn (fun e=>zi m<|t _ ae<|cut p<|w6 e) (fun e=>o p (by have:=w7 e;omega))
  ·have c:=w7 c;have d:=w7 d;have a:=zh (show((n+1:Nat):Int)<=4294967295 by omega) h0.1;have b:=zp (show 0<=((n+1:Nat):Int)by omega) h0.1;rw[wu (((n+1:Nat):Int)*g) ae ae,wu (4294967296*r) ae ae,wu _ ae ae]at d;exact zi m (t _ ae ⟨JO v l ae,i⟩)
theorem A2[Srt](Y s f g u w p:Int)(v:Y=f*4294967296+g)(I:0<f/\f<4294967296)(h0:0<=g/\g<4294967296)(A:u<Y)(C:0<=w/\w<4294967296)(z:0<=s)
  (x:∀q:Int,0<=q->Exact Y u w q->∀ob,Q (PV.tup [PV.dat (zl zd)<|zc zd<|zc zd (p*(4294967296:Int))+q,PV.dat (zl zd)<|zq (zc zd<|zc zd (zc zd (u*(4294967296:Int))+w)-zc zd (q*Y))<|(2:Int)^yo (Int.toNat s) (64:Nat)]) ob):
  ∀(n:Nat) (r:Int),(n:Int)<18446744073709551616->(n:Int)*f+r=u->0<=r->r<4294967296->u*4294967296+w<((n:Int)+1)*Y->Ends aB (L2 Y s f g w p r u n) Q:=by
 intro n;induction n with
 |zero=>
  intro r G t D r1 i;have l:decide (0<=s)=true:=w4 z;refine Ends.Av (A5 ..) (Ends.ff (by simp) (Ends.ff (w8 ?_)<|zi l<|zk<|x _ ae ⟨?_,i⟩ _))
  ·rw[show((0:Nat):Int)*g=0 by simp,wu 0 ae ae,wu (4294967296*r) ae ae,wu _ ae ae];omega
  ·exact JO v t (by rw[show((0:Nat):Int)*g=0 by simp];omega)
 |succ n H=>
  intro r G t D r1 i;have l:decide (0<=s)=true:=w4 z;have F:zc .u64 (((n+1:Nat):Int)-1)=(n:Int):=by rw[wu _ ae ae];omega
  have E:zc .u64 (r+f)=r+f:=wu _ ae ae;have y:0<=Y:=ae
  have k:(n:Int)*f+(r+f)=u:=by
   rw[show((n+1:Nat):Int)=(n:Int)+1 by omega,zw,z8]at t;omega
  have B:((n+1:Nat):Int)=(n:Int)+1:=ae
  have m:u*4294967296+w<((n:Int)+1)*Y->r+f<4294967296->Ends aB (L2 Y s f g w p (r+f) u n) Q:=fun j h=>
   H (r+f) ae k ae h j
  have cut:u*4294967296+w<((n:Int)+1)*Y->4294967296<=r+f->Exact Y u w n:=fun j h=>
   ⟨SJ v ae h0 A C.1 k h,j⟩
  refine Ends.Av (A5 ..) ?_;conv=>zeta
  rw[F,E];refine zn (fun c=>?_)<|fun c=>zn (fun d=>?_)<|fun d=>?_
  ·have c:=w6 c;have o:u*4294967296+w<((n:Int)+1)*Y:=by rw[<-B];exact S9 A y C.2 c
   exact zn (fun e=>zi l<|zk<|x _ ae (cut o<|w6 e) _) (fun e=>m o (by have:=w7 e;omega))
  ·have c:=w7 c;have d:=w6 d;have a:=zh (show((n+1:Nat):Int)<=4294967295 by omega) h0.1;have b:=zp (show 0<=((n+1:Nat):Int)by omega) h0.1;rw[wu (((n+1:Nat):Int)*g) ae ae,wu (4294967296*r) ae ae,wu _ ae ae]at d;have o:u*4294967296+w<((n:Int)+1)*Y:=by rw[<-B];exact VG v t d
   exact zn (fun e=>zi l<|zk<|x _ ae (cut o<|w6 e) _) (fun e=>m o (by have:=w7 e;omega))
  ·have c:=w7 c;have d:=w7 d;have a:=zh (show((n+1:Nat):Int)<=4294967295 by omega) h0.1;have b:=zp (show 0<=((n+1:Nat):Int)by omega) h0.1;rw[wu (((n+1:Nat):Int)*g) ae ae,wu (4294967296*r) ae ae,wu _ ae ae]at d;exact zi l (zk<|x _ ae ⟨JO v t ae,i⟩ _)
end T244
theorem Tp{y:Int}(e:0<y)(h:y<18446744073709551616):∃s:Nat,Sp.lz y=(s:Int)/\s<=63/\y*2^s<18446744073709551616/\9223372036854775808<=y*2^s:=by
 obtain⟨n,rfl⟩:=zo<|yb e;have c:n≠0:=ae
 have i:n.log2<64:=(Nat.log2_lt c).2 ae;have a:=Nat.log2_self_le c;have b:=Nat.lt_log2_self (n:=n);have f:2^n.log2*2^(63-n.log2)=2^63:=by rw[<-yu];congr 1;omega
 have d:2^(n.log2+1)*2^(63-n.log2)=2^64:=by rw[<-yu];congr 1;omega
 have j:2^63<=n*2^(63-n.log2):=by rw[<-f];exact Nat.mul_le_mul_right _ a
 have g:n*2^(63-n.log2)<2^64:=by rw[<-d];exact Nat.mul_lt_mul_of_pos_right b<|yr _
 refine⟨63-n.log2,?_,by omega,?_,?_⟩
 ·unfold Sp.lz Sp.FO;rw[wc ae,zy];omega
 ·have:((n*2^(63-n.log2):Nat):Int)<18446744073709551616:=ae
  rw[yi,yf]at this;exact this
 ·have:(9223372036854775808:Int)<=((n*2^(63-n.log2):Nat):Int):=ae
  rw[yi,yf]at this;exact this
theorem Wa{a b:Int}{s:Nat}(f:0<=a)(g:0<=b)(h:b<2^s)(c:a*2^s+b<18446744073709551616):Xg .u64 (a*2^s) b=a*2^s+b:=by
 obtain⟨m,rfl⟩:=zo f;obtain⟨k,rfl⟩:=zo g;have i:((m:Int)*2^s)=((m*2^s:Nat):Int):=by rw[yi,yf];rfl
 have d:k<2^s:=by
  have e:((2:Int)^s)=((2^s:Nat):Int):=by rw[yf];rfl
  rw[e]at h;omega
 rw[i]at c ⊢;have e:(yp 64 ((m*2^s:Nat):Int)|||yp 64 (k:Int)).toNat=m*2^s+k:=by
  rw[BitVec.toNat_or,BitVec.ofInt_natCast,BitVec.ofInt_natCast,BitVec.toNat_ofNat,BitVec.toNat_ofNat,Nat.mod_eq_of_lt ae,Nat.mod_eq_of_lt ae,Nat.mul_comm m,Nat.two_pow_add_eq_or_of_lt d]
 show zc .u64 (((yp 64 ((m*2^s:Nat):Int)|||yp 64 (k:Int)).toNat:Nat):Int)=_;rw[e,Z2 _ ae];omega
namespace T244
theorem start{u c d Y w:Int}(j:Y=c*4294967296+d)(k:0<c/\c<4294967296)(h0:0<=d)(e:0<=u/\u<18446744073709551616)(l:w<4294967296):
  ∃(n:Nat) (r:Int),zc .u64 (zx u c)=(n:Int)/\zc .u64 (u-zc .u64 ((n:Int)*c))=r/\(n:Int)<18446744073709551616/\(n:Int)*c+r=u/\0<=r/\r<4294967296/\u*4294967296+w<((n:Int)+1)*Y:=by
 have i:0<=u/c:=yt e.1 ae;have q1:u/c<=u:=Int.ediv_le_self _ e.1;have f:=Int.mul_ediv_add_emod u c;have h:=Int.emod_nonneg u (show c≠0 by omega);have r1:=Int.emod_lt_of_pos u k.1;rw[zz]at f;obtain⟨n,g⟩:=zo i;have m:0<=(n:Int)*c:=zp ae ae;rw[g]at f;refine⟨n,u % c,?_,?_,by omega,f,h,by omega,?_⟩
 ·rw[ym e.1,g,wu _ ae ae]
 ·rw[wu ((n:Int)*c) ae ae,wu _ ae ae];omega
 ·subst j;have a:((n:Int)+1)*(c*4294967296+d)=((n:Int)*c+c)*4294967296+((n:Int)+1)*d:=by
   rw[Int.mul_add, <-zu,zw,z8]
  have b:0<=((n:Int)+1)*d:=zp ae h0;rw[a];omega
theorem PQ{u w q Y:Int}(c:Exact Y u w q)(d:Y<18446744073709551616):zc .u64 (zc .u64 (zc .u64 (u*(4294967296:Int))+w)-zc .u64 (q*Y))=u*4294967296+w-q*Y:=by
 obtain⟨a,b⟩:=c;rw[zw,z8]at b;rw[Kv,Kv,Kv,Kv];generalize q*Y=A at*;omega
theorem jJ[Srt](h:Ag Bh 245 yN):DU aB:=Aa h AT
set_option maxHeartbeats 1000000 in
theorem ok[Srt](V:Ag Bh 245 yN):Ag Bh 244 Qm:=by
 refine MO (X:=aB) rfl (jJ V) (d:=9) ag ag ag (fun(i:Int×Int×Int) x=>?_) (BR ag);obtain⟨e,f,y⟩:=i;have x:(yk e&&yk f&&yk y&&decide (e<y))=true:=x;rw[zr,zr,zr,w5]at x;obtain⟨⟨⟨B,g⟩,F⟩,h4⟩:=x;have uy:=F;have B:=Sp.AZ B;have g:=Sp.AZ g;have F:=Sp.AZ F;have hg:∀q r ob,q=Sp.dq e f y->r=Sp.dr e f y->Ac Qm (e,f,y) (PV.tup [PV.dat (zl zd) q,PV.dat (zl zd) r]) ob:=fun q r ob J H=>ye rfl rfl (Prod.ext J H)
 refine yn (Al e f y) (Ends.ff (by simp;omega)<|Ends.ff (w8 ae)<|zn (fun c=>?_)<|fun c=>?_)
 ·have c:e=0:=by simpa using c
  subst c;have q0:0<=f/y:=yt g.1 ae;have q1:f/y<=f:=Int.ediv_le_self _ g.1;refine zi (w4 ae) (zi (w4 ae)<|zk<|hg _ _ _ ?_ ?_)
  ·unfold Sp.dq;rw[ym g.1,wu _ ae ae,Int.zero_mul,yq]
  ·unfold Sp.dr;rw[Int.tmod_eq_emod_of_nonneg g.1,Int.zero_mul,yq]
 ·have c:e≠0:=by simpa using c
  obtain⟨s,hs,hs63,hlt,T⟩:=Tp (y:=y) ae F.2;have es:zc .u64 (s:Int)=(s:Int):=Z2 s ae;have em:yo s 64=s:=ae
  have N:zc .u64 ((64:Int)-(s:Int))=((64-s:Nat):Int):=by rw[wu _ ae ae];omega
  have P:yo (64-s) 64=64-s:=ae
  have j:(2:Int)^s*2^(64-s)=18446744073709551616:=by rw[<-Int.pow_add,show s+(64-s)=64 by omega];rfl
  have h:(0:Int)<2^s:=Int.pow_pos af;have hR:(0:Int)<2^(64-s):=Int.pow_pos af;have a0:0<=f/2^(64-s):=yt g.1 ae;have Z:=Int.mul_ediv_add_emod f<|2^(64-s);have c0:=Int.emod_nonneg f (show(2:Int)^(64-s)≠0 by omega);have c1:=Int.emod_lt_of_pos f hR;have aP:f/2^(64-s)<2^s:=Int.ediv_lt_of_lt_mul hR (by rw[j];exact g.2);have hiP:e*2^s+2^s<=y*2^s:=by
   have:=zh (show e+1<=y by omega)<|yb h;rw[zw,z8]at this;exact this
  have K:0<=e*2^s:=zp B.1<|yb h;have S:zq f ((2:Int)^(64-s))=f/2^(64-s):=yd _ ae;have I:Xg .u64 (e*2^s) (f/2^(64-s))=e*2^s+f/2^(64-s):=Wa B.1 a0 aP ae;have cP0:0<=(f % 2^(64-s))*2^s:=zp c0<|yb h;have cP1:(f % 2^(64-s))*2^s<18446744073709551616:=by
   have:=Int.mul_lt_mul_of_pos_right c1 h;rw[zz<|2^(64-s),j]at this;exact this
  have k:f*2^s=(f/2^(64-s))*18446744073709551616+(f % 2^(64-s))*2^s:=by
   conv=>lhs;rw[<-Z]
   rw[zw, <-j,zz (2^(64-s))<|f/2^(64-s),zu,zz (2^(64-s))<|2^s]
  have O:zc .u64 (f*2^s)=(f % 2^(64-s))*2^s:=by rw[k,Kv];omega
  have hN:(e*2^s+f/2^(64-s))*18446744073709551616+(f % 2^(64-s))*2^s=(e*18446744073709551616+f)*2^s:=by
   rw[zw (e*18446744073709551616) f<|2^s,k,zu e 18446744073709551616<|2^s,zz 18446744073709551616<|(2:Int)^s, <-zu];omega
  have R:zc .u64 (y*2^s)=y*2^s:=wu _ ae ae;have ewh:zc .u64 (e*2^s)=e*2^s:=wu _ K ae;have z0:decide ((0:Int)<=(s:Int))=true:=w4 ae;have fin:∀q:Int,q*(y*2^s)<=(e*18446744073709551616+f)*2^s->(e*18446744073709551616+f)*2^s<(q+1)*(y*2^s)->q=Sp.dq e f y/\zq ((e*18446744073709551616+f)*2^s-q*(y*2^s)) (2^s)=Sp.dr e f y:=by
   intro q D v;unfold Sp.dq Sp.dr;generalize e*18446744073709551616+f=M at*;rw[<-zu]at D v;have g1:q*y<=M:=Int.le_of_mul_le_mul_right D h;have g2:M<(q+1)*y:=Int.lt_of_mul_lt_mul_right v<|yb h;rw[zw,z8]at g2;obtain⟨u1,u2⟩:=(Int.ediv_emod_unique (a:=M) (b:=y) (r:=M-q*y) (q:=q) ae).2 ⟨by rw[zz y q];omega,by omega,by omega⟩;refine⟨u1.symm,?_⟩;rw[u2, <-zu, <-Int.sub_mul,yd _<|yb h];exact Int.mul_ediv_cancel _ ae
  obtain⟨Y,eY⟩:=zo (show 0<=y*2^s by omega);obtain⟨C,eC⟩:=zo cP0;have hU0:0<=e*2^s+f/2^(64-s):=ae
  have l:e*2^s+f/2^(64-s)<y*2^s:=ae
  rw[hs,es,N,zy,zy,em,P,R,ewh,S,I,O];rw[eC]at hN cP1 ⊢;rw[eY]at hlt T l fin ⊢;generalize hU:e*2^s+f/2^(64-s)=U at*;generalize hM:(e*18446744073709551616+f)*2^s=M at*;rw[Xb,Xb,OA Y ae,OA C ae];have A:(Y:Int)=((Y/4294967296:Nat):Int)*4294967296+((Y % 4294967296:Nat):Int):=ae
  have o:0<((Y/4294967296:Nat):Int)/\((Y/4294967296:Nat):Int)<4294967296:=ae
  have E:0<=((Y % 4294967296:Nat):Int)/\((Y % 4294967296:Nat):Int)<4294967296:=ae
  have w1:0<=((C/4294967296:Nat):Int)/\((C/4294967296:Nat):Int)<4294967296:=ae
  have w0:0<=((C % 4294967296:Nat):Int)/\((C % 4294967296:Nat):Int)<4294967296:=ae
  have hC:(C:Int)=((C/4294967296:Nat):Int)*4294967296+((C % 4294967296:Nat):Int):=ae
  generalize ((Y/4294967296:Nat):Int)=y1 at*;generalize ((Y % 4294967296:Nat):Int)=y0 at*;generalize ((C/4294967296:Nat):Int)=w at*;generalize ((C % 4294967296:Nat):Int)=z at*;refine zi uy (zi z0<|zi rfl (zi z0<|zi (w4 ae)<|zi z0<|zi rfl (zi (w4 ae) ?_)));obtain⟨n,r,J,H,n1,n2,n3,n4,n5⟩:=start (u:=U) (w:=w) A o E.1 ae w1.2;rw[J,H];refine Ap (Y:Int) s y1 y0 U w z A o E l w1 (fun p p0 hp=>?_) n r n1 n2 n3 n4 n5;have er:=PQ hp ae;rw[er];have hp1:=hp.1;have G:=hp.2;rw[zw,z8]at G;obtain⟨m,t,k1,k2,m1,m2,m3,m4,m5⟩:=start (u:=U*4294967296+w-p*Y) (w:=z) A o E.1 ae w0.2;rw[k1,k2];refine A2 (Y:Int) s y1 y0 _ z p A o E ae w0 ae (fun q q0 hq ob=>?_) m t m1 m2 m3 m4 m5;rw[PQ hq ae,zy,em];obtain⟨hq1,hq2⟩:=hq;have W:(p*4294967296+q)*(Y:Int)=p*Y*4294967296+q*Y:=by
   rw[zw,zu,zz 4294967296 (Y:Int), <-zu]
  have L:(p*4294967296+q+1)*(Y:Int)=p*Y*4294967296+q*Y+Y:=by
   rw[zw,W,z8]
  rw[zw,z8]at hq2;obtain⟨D,v⟩:=fin (p*4294967296+q) (by rw[W];omega) (by rw[L];omega);refine hg _ _ _ ?_ ?_
  ·have hb:Sp.dq e f y<18446744073709551616:=by
    unfold Sp.dq;refine Int.ediv_lt_of_lt_mul ae ?_;have:=Int.mul_le_mul_of_nonneg_left (show e+1<=y by omega) (show(0:Int)<=18446744073709551616 by decide);omega
   rw[<-D]at hb ⊢;rw[Kv,Kv];omega
  ·rw[<-v,W];congr 1;omega
end T244
open Sp
theorem fS(x k:Nat)(h:2^k<=x):x.log2=k+(x/2^k).log2:=by
 have d:=yr k;have f:x/2^k≠0:=by
  have:=Nat.div_pos h d;omega
 have e:x≠0:=ae
 refine(Nat.log2_eq_iff e).2 ⟨?_,?_⟩
 ·rw[yu];exact Nat.le_trans (Nat.mul_le_mul_left _<|Nat.log2_self_le f)<|Nat.mul_div_le x<|2^k
 ·rw[Nat.add_assoc,yu];have a:x/2^k+1<=2^((x/2^k).log2+1):=Nat.lt_log2_self;have b:=Nat.mul_le_mul_left (2^k) a;have c:=Nat.lt_mul_div_succ x d;exact Nat.lt_of_lt_of_le c b
theorem N4(x k:Nat)(h:2^k<=x):FO (x:Int)=(k:Int)+FO ((x/2^k:Nat):Int):=by
 have a:=yr k;have b:=Nat.div_pos h a;have e:=fS x k h;unfold FO;rw[wc ae,wc ae,zy,zy,e];omega
theorem tI(n k:Nat):zq (n:Int) ((2:Int)^k)=((n/2^k:Nat):Int):=by
 have:(0:Int)<2^k:=Int.pow_pos af;rw[yd _ ae,Int.natCast_ediv,yf];rfl
def pV:Rd:=[(0:UInt8),1,2,2,3,3,3,3,4,4,4,4,4,4,4,4,5,5,5,5,5,5,5,5,5,5,5,5,5,5,5,5,6,6,6,6,6,6,6,6,6,6,6,6,6,6,6,6,6,6,6,6,6,6,6,6,6,6,6,6,6,6,6,6,7,7,7,7,7,7,7,7,7,7,7,7,7,7,7,7,7,7,7,7,7,7,7,7,7,7,7,7,7,7,7,7,7,7,7,7,7,7,7,7,7,7,7,7,7,7,7,7,7,7,7,7,7,7,7,7,7,7,7,7,7,7,7,7,8,8,8,8,8,8,8,8,8,8,8,8,8,8,8,8,8,8,8,8,8,8,8,8,8,8,8,8,8,8,8,8,8,8,8,8,8,8,8,8,8,8,8,8,8,8,8,8,8,8,8,8,8,8,8,8,8,8,8,8,8,8,8,8,8,8,8,8,8,8,8,8,8,8,8,8,8,8,8,8,8,8,8,8,8,8,8,8,8,8,8,8,8,8,8,8,8,8,8,8,8,8,8,8,8,8,8,8,8,8,8,8,8,8,8,8,8,8,8,8,8,8,8,8,8,8,8,8]
theorem Wu:∀m:Fin 256,((ze (pV.getD m.val 0):Nat):Int)=FO (m.val:Int)/\zc .u8 (m.val:Int)=(m.val:Int)/\FO (m.val:Int)<=8/\0<=FO (m.val:Int):=by decide+kernel
theorem LC{b:Int}(a z x:Nat)(g:b=a)(j:a<=64)(i:z<256)(h:FO (x:Int)=(a:Int)+FO (z:Int)):zc .i64 (b+zc .i64 ((ze (pV.getD (Int.toNat<|zc .u8 (z:Int)) 0):Nat):Int))=FO x:=by
 obtain⟨c,d,e,f⟩:=Wu ⟨z,i⟩;have c:((ze (pV.getD z 0):Nat):Int)=FO (z:Int):=c;have d:zc .u8 (z:Int)=(z:Int):=d;have e:FO (z:Int)<=8:=e;have f:0<=FO (z:Int):=f;rw[d,zy,c,g,h,wr (FO (z:Int)) ae ae,wr _ ae ae]
theorem nR(z:Nat)(b:z<256):(decide ((0:Sh.T (zl z7))<=zc z7 (z:Int))&&decide (zc z7 (z:Int)<(↑(256:Nat):Int)))=true:=by
 obtain⟨_,a,_,_⟩:=Wu ⟨z,b⟩;have a:zc .u8 (z:Int)=(z:Int):=a;rw[a];exact Ad (w4<|show(0:Int)<=(z:Int)by omega) (w4 ae)
namespace T184
set_option maxHeartbeats 1000000 in
set_option maxRecDepth 100000 in
theorem ok[Srt]:Ag Bh 184 eU:=by
 refine BX It<|fun(x:Int) e=>?_;have e:=Sp.AZ (n:=x) e;obtain⟨x,rfl⟩:=zo e.1;refine yn (Al (x:Int)) ?_;conv=>zeta
 conv=>zeta
 rw[tI x 32,tI x 16,tI x 8,tI (x/2^32) 16,tI (x/2^32) 8,tI (x/2^32/2^16) 8,tI (x/2^16) 8];have i:=N4 x 32;have j:=N4 x 16;have k:=N4 x 8;have f:=N4 (x/2^32) 16;have h:=N4 (x/2^32) 8;have d:=N4 (x/2^32/2^16) 8;have g:=N4 (x/2^16) 8;refine zn (fun c=>zi rfl (zn (fun b=>zi rfl (zn (fun a=>zi rfl (zi (nR _ ?_)<|zk<|ye rfl rfl (LC 56 _ x (by decide+kernel) af ?_ ?_)))<|fun a=>zi (nR _ ?_)<|zk<|ye rfl rfl (LC 48 _ x (by decide+kernel) af ?_ ?_)))<|fun b=>zn (fun a=>zi rfl (zi (nR _ ?_)<|zk<|ye rfl rfl (LC 40 _ x (by decide+kernel) af ?_ ?_)))<|fun a=>zi (nR _ ?_)<|zk<|ye rfl rfl (LC 32 _ x rfl af ?_ ?_))) (fun c=>zn (fun b=>zi rfl (zn (fun a=>zi rfl (zi (nR _ ?_)<|zk<|ye rfl rfl (LC 24 _ x (by decide+kernel) af ?_ ?_)))<|fun a=>zi (nR _ ?_)<|zk<|ye rfl rfl (LC 16 _ x (by decide+kernel) af ?_ ?_)))<|fun b=>zn (fun a=>zi rfl (zi (nR _ ?_)<|zk<|ye rfl rfl (LC 8 _ x (by decide+kernel) af ?_ ?_)))<|fun a=>zi (nR _ ?_)<|zk<|ye rfl rfl (LC 0 _ x rfl af ?_ ?_));all_goals
  first
   |replace c:=w6 c
   |replace c:=w7 c
  first
   |replace b:=w6 b
   |replace b:=w7 b
  first
   |replace a:=w6 a
   |replace a:=w7 a
  omega
end T184
theorem mL[Srt]:DU XD1:=Aa T184.ok AT
theorem iI{n:Int}(b:0<=n)(a:n<18446744073709551616):0<=Sp.FO n/\Sp.FO n<=64:=by
 unfold Sp.FO;split
 ·omega
 ·have:n.toNat.log2<64:=(Nat.log2_lt ae).2 ae;omega
namespace T245
theorem ok[Srt]:Ag Bh 245 yN:=by
 refine BX mL<|fun(x:Int) hx=>?_;have h:=Sp.AZ (n:=x) hx;have a:=iI h.1 h.2;refine yn (Al x)<|zi hx<|zk<|ye rfl rfl ?_;show zc .i64 (64-Sp.FO x)=Sp.lz x;unfold Sp.lz;exact wr _ ae ae
end T245
theorem cQ[Srt]:Ag Bh 244 Qm:=T244.ok T245.ok
end Go.Pe
namespace Go.Sp
def jW(a b:List Int):Bool:=B0 a&&B0 b&&decide (a.length<=9000)&&decide (b.length<=9000)&&decide (0<Ao b)
end Go.Sp
namespace Go.Pe
open Sp
open Go.Det
def G7:Aq:=⟨[CU,CU],fun i=>jW i.1 i.2,[CU,CU],fun i=>(BO<|Ao i.1/Ao i.2,BO<|Ao i.1 % Ao i.2),false⟩
def I3[Srt]:A0:=X7 [(167,V7),(229,TP),(160,P8),(228,Uh),(230,T0),(244,Qm),(245,yN)]
end Go.Pe
namespace Go.Sp
def Jr(c:UInt8):Int:=(c.toNat:Int)-48
def BD(c:UInt8):Bool:=decide (48<=c.toNat)&&decide (c.toNat<=57)
def AA(n:Int):Rd->Int
 |[]=>n
 |c::r=>AA (10*n+Jr c) r
def Ak(s:Rd):Bool:=s.all BD
theorem Cz:∀(n:Int) (a b:Rd),AA n (a++b)=AA (AA n a) b
 |_,[],_=>rfl
 |n,c::a,b=>by rw[List.cons_append,AA,AA,Cz]
theorem D8:∀(s:Rd) (n:Int),AA n s=n*10^s.length+AA 0 s
 |[],n=>by simp[AA]
 |c::s,n=>by
  rw[AA,AA,D8 s<|10*n+Jr c,D8 s<|10*0+Jr c,List.length_cons,Int.pow_succ,zw,Int.mul_zero,yq,zz 10 n,zu,zz 10<|10^s.length,Int.add_assoc]
theorem Er{c:UInt8}(h:BD c=true):0<=Jr c/\Jr c<=9:=by
 unfold BD at h;rw[zr,w5,w5]at h;unfold Jr;omega
theorem A9:∀ {s:Rd},Ak s=true->0<=AA 0 s/\AA 0 s<10^s.length
 |[],_=>by simp[AA]
 |c::s,h=>by
  unfold Ak at h;rw[List.all_cons,zr]at h;have a:=Er h.1;have b:=A9 (s:=s) h.2;have d:=A6 (show(0:Int)<10 by decide) s.length;have f:=zp a.1<|yb d;have e:=zh a.2<|yb d;rw[AA,D8,List.length_cons,Int.pow_succ,Int.mul_zero,yq,zz (10^s.length) 10];omega
theorem A8{s:Rd}(h:Ak s=true)(i:Nat):Ak (s.take i)=true:=by
 grind [Ak]
theorem BM{s:Rd}(h:Ak s=true)(i:Nat):Ak (s.drop i)=true:=by
 grind [Ak]
def AS(s:Rd):Bool:=decide (s≠[])&&Ak s&&(decide (s.getD 0 0≠48)||decide (s=[48]))
def E5(a b:AE):AE:=if vI a<0/\Ae (vI a) % vI b≠0 then Mg (CC<| -(Ae (vI a)/vI b)) (1,[])else CC<|sg (decide (vI a<0))<|Ae (vI a)/vI b
def WH(a b:AE):Int:=(E5 a b).1
def Vr(a b:AE):List Int:=(E5 a b).2
def Za(a b:AE):Int:=Cy<|vI a % vI b
def YY(a b:AE):List Int:=Cv<|vI a % vI b
def gI(a b:Int):Int:=if a<0 then -(-(Int.gcd a b:Int))else(Int.gcd a b:Int)
theorem FT(a b:Int):gI a b=(Int.gcd a b:Int):=by unfold gI;split<;>omega
def LP(a b:AE):Int:=Cy<|gI (vI a)<|vI b
def LD(a b:AE):List Int:=Cv<|gI (vI a)<|vI b
def pI(a k:Int):Int:=if k<0 then -(-(a^k.toNat))else a^k.toNat
theorem Un(a k:Int):pI a k=a^k.toNat:=by unfold pI;split<;>omega
def mF(a k:Int):Bool:=decide (0<=k)&&decide (k<=100000)&&decide (Ae (pI a k)<(18446744073709551616:Int)^(4000:Nat))
def SB(a:AE)(k:Int):Int:=Cy<|pI (vI a) k
def RI(a:AE)(k:Int):List Int:=Cv<|pI (vI a) k
def B7(n:Int):List Int:=if n<0 then[]else[]
theorem ER(n:Int):B7 n=[]:=by unfold B7;split<;>rfl
def Bg(s:Rd):Int:=if s.getD 0 0=45 then -AA 0 (s.drop 1)else AA 0 s
def CP(s:Rd):Bool:=decide (s.length<=5999)&&(if s.getD 0 0=45 then Ak (s.drop 1)else Ak s)
def CW(s:Rd):Int:=Cy<|Bg s
def CX(s:Rd):List Int:=Cv<|Bg s
end Go.Sp
namespace Go.Pe
open Sp
open Go.Det
def Gc:Aq:=⟨[AV,AV],fun i=>Bd i.1&&Bd i.2&&decide (0<zm i.2),[AV,AV],fun i=>((WH i.1 i.2,Vr i.1 i.2),(Za i.1 i.2,YY i.1 i.2)),false⟩
def Vq:Aq:=⟨[AV,AV],fun i=>Bd i.1&&Bd i.2,[AV],fun i=>(LP i.1 i.2,LD i.1 i.2),false⟩
def bF:Aq:=⟨[AV,i64],fun i=>Bd i.1&&mF (zm i.1) i.2,[AV],fun i=>(SB i.1 i.2,RI i.1 i.2),false⟩
def NI:Aq:=⟨[.str],fun s=>CP s,[AV],fun s=>(CW s,CX s),false⟩
def S8:Aq:=⟨[i64],fun _=>true,[AV],fun n=>(n,B7 n),false⟩
def tZ[Srt]:A0:=fZ [(173,[9,10])] [] [(173,[(9,[3,4,5,8,12,13]),(10,[3,4,5,14,15])])] [(97,S8),(192,G7),(162,Uk),(163,cA),(174,dT),(102,M5),(158,Lu)]
def XF0[Srt]:A0:=X7 []
def yW[Srt]:A0:=X7 [(173,Gc),(172,oY),(158,Lu)]
def tX[Srt]:A0:=X7 [(97,S8),(96,PY)]
end Go.Pe
namespace Go.Sp
abbrev B9:Nat:=1000000000
def Jj(l:List Int):Bool:=decide (l.length<=20000)&&l.all fun d=>decide (0<=d)&&decide (d<1000000000)
def hR(l:List Int):Bool:=Jj l&&decide (l.length<=9000)
def AW(l:List Int):Bool:=Jj l&&rJ l
def Aj(l:List Int):Int:=val B9 l
def BA(n:Int):List Int:=dg B9 n
def rN(n:Int):Bool:=decide (n<0)
def rW(n:Int):List Int:=BA<|Ae n
def Cj(neg:Bool)(w:List Int):Bool:=neg&&decide (Aw w≠[])
def Dq(s:Rd):Bool:=decide (s.length<=18)&&Ak s
def BE(s:Rd):Int:=AA 0 s
def EI(s:Rd):Bool:=rN<|Bg s
def Du(s:Rd):List Int:=rW<|Bg s
def B8(a b:List Int):List Int:=BA<|gI (Aj a)<|Aj b
end Go.Sp
namespace Go.Pe
open Sp
open Go.Det
abbrev li:Sh:=.list i64
abbrev He:Sh:=.pair .bool li
def QR:Aq:=⟨[li],fun l=>decide (yg (α:=Int) l<=20000),[li],fun l=>Aw l,false⟩
def GG:Aq:=⟨[.bool,li],fun i=>decide (yg (α:=Int) i.2<=20000),[He],fun i=>(Cj i.1 i.2,Aw i.2),false⟩
def Wz:Aq:=⟨[li,li],fun i=>AW i.1&&AW i.2,[i64],fun i=>B3 (Aj i.1)<|Aj i.2,false⟩
def V4:Aq:=⟨[li,li],fun i=>Sp.hR i.1&&Sp.hR i.2,[li],fun i=>BA<|Aj i.1*Aj i.2,false⟩
def Vm:Aq:=⟨[li,i64],fun i=>Jj i.1&&decide (0<(i.2:Int))&&decide ((i.2:Int)<1000000000),[li,i64],fun i=>(BA<|Aj i.1/i.2,Aj i.1 % i.2),false⟩
def Pp:Aq:=⟨[li,li],fun i=>AW i.1&&AW i.2&&decide (yg (α:=Int) i.1<=9000)&&decide (yg (α:=Int) i.2<=9000)&&decide (0<Aj i.2),[li,li],fun i=>(BA<|Aj i.1/Aj i.2,BA<|Aj i.1 % Aj i.2),false⟩
def JW:Aq:=⟨[li,li],fun i=>AW i.1&&AW i.2&&decide (yg (α:=Int) i.1<=9000)&&decide (yg (α:=Int) i.2<=9000),[li],fun i=>B8 i.1 i.2,false⟩
def Qh:Aq:=⟨[.str],fun s=>Dq s,[i64],fun s=>BE s,false⟩
def MD:Aq:=⟨[.str],fun s=>CP s,[He],fun s=>(EI s,Du s),false⟩
def fX[Srt]:A0:=X7 []
def Yy[Srt]:A0:=X7 [(188,QR)]
def KX[Srt]:A0:=X7 [(130,Wz),(188,QR),(187,Vm),(132,V4)]
def vE[Srt]:A0:=X7 [(127,Pp)]
def Yz[Srt]:A0:=X7 [(125,Qh),(128,GG)]
end Go.Pe
namespace Go.Sp
def C0:Rd:=[48,49,50,51,52,53,54,55,56,57]
def oG(o:List Bool):List Bool:=(List.range 256).map fun j=>o.getD j false
def nY:List Bool:=List.replicate 256 false
def OC(s:Rd):Rd:=((s.reverse.dropWhile BD).reverse).dropWhile BD
def Oc(s:Rd)(c:Int):Int:=match s.findIdx? (fun x=>x==c.toNat.toUInt8)with
 |some i=>(i:Int)
 |none=> -1
def AD(s:Rd):Rd:=match s.findIdx? (fun x=>x==47)with
 |some i=>s.take i
 |none=>s
def AN(s:Rd):Rd:=match s.findIdx? (fun x=>x==47)with
 |some i=>s.drop<|i+1
 |none=>[]
def Bu(s:Rd):Bool:=s.any<|fun x=>x==47
def Ba(s:Rd):Rd:=if s.getD 0 0=45 then s.drop 1 else s
def preB(s:Rd):Bool:=decide (s.getD 0 0=45)
def oV(s t:Rd):Bool:=decide (t=C0)&&decide (s.length<=1000000)
def tF(s t:Rd):Bool:=decide (t=[47])&&decide (s.length<=1000000)
def Zm(s t:Rd):Bool:=decide (t=[45])&&decide (s.length<=1000000)
end Go.Sp
namespace Go.Pe
open Sp
open Go.Det
def TM:Aq:=⟨[.str,.str],fun i=>oV i.1 i.2,[.str],fun i=>OC i.1,false⟩
def oD:Aq:=⟨[.str,.int .u8],fun i=>decide (0<=(i.2:Int))&&decide ((i.2:Int)<256),[i64],fun i=>Oc i.1 i.2,false⟩
def eV:Aq:=⟨[.str,.str],fun i=>tF i.1 i.2,[.str,.str,.bool],fun i=>(AD i.1,Sp.AN i.1,Bu i.1),false⟩
def oE:Aq:=⟨[.str,.str],fun i=>Zm i.1 i.2,[.str,.bool],fun i=>(Ba i.1,Sp.preB i.1),false⟩
def UF:Aq:=⟨[.str],fun s=>decide (s.length<=1000000),[.bool],fun s=>AS s,false⟩
def Mr[Srt]:A0:=X7 []
def Ys[Srt]:A0:=X7 [(236,⟨[.str,.str],fun _=>false,[.str],fun i=>i.1,false⟩),(237,⟨[.str,.str],fun _=>false,[.str],fun i=>i.1,false⟩),(231,⟨[.str,.int .u8],fun _=>false,[.str],fun i=>i.1,false⟩),(232,⟨[.str,.int .u8],fun _=>false,[.str],fun i=>i.1,false⟩)]
def XH1[Srt]:A0:=X7 [(171,TM)]
def XH2[Srt]:A0:=X7 [(300,oD)]
def O5[Srt]:A0:=X7 [(97,S8),(156,bF),(96,PY),(102,M5),(157,Tk),(267,⟨[.str,i64,i64],fun _=>false,[i64],fun _=>(0:Int),false⟩),(227,⟨[.str],fun _=>false,[i64],fun _=>(0:Int),false⟩)]
end Go.Pe
namespace Go.Sp
def Hr(a:Rd):Bool:=AS (AD<|Ba a)&&(!preB a||decide (AD (Ba a)≠[48]))&&(!Bu (Ba a)||(AS (AN<|Ba a)&&decide (AN (Ba a)≠[48])&&decide (AN (Ba a)≠[49])))
def tQ(a:Rd):Int:=AA 0<|AD<|Ba a
def pQ(a:Rd):Int:=AA 0<|AN<|Ba a
def BG(a:Rd):Int:=if Hr a=false then 1 else if 600<(AD<|Ba a).length\/600<(AN<|Ba a).length then 4 else if Bu (Ba a)=true/\gI (tQ a) (pQ a)≠1 then 1 else 0
def AP(s:Rd):Int:=((AD s).length:Int)
def HD(a:Rd):Bool:=CP (AD a)&&CP (AN a)&&decide (a.length<=5999)
def Bb(a:Rd):Int:=Bg<|AD a
def AM(a:Rd):Int:=if Bu a=true then Bg (AN a)else 1
def BC(a:Rd):Bool:=rN<|Bb a
def Bt(a:Rd):List Int:=rW<|Bb a
def Bi(a:Rd):Bool:=rN<|AM a
def Bc(a:Rd):List Int:=rW<|AM a
end Go.Sp
namespace Go.Pe
open Sp
open Go.Det
def Iw:Aq:=⟨[.str],fun s=>decide (s.length<=1000000),[i64],fun s=>BG s,false⟩
def OF:Aq:=⟨[.str],fun s=>decide (s.length<=1000000),[i64],fun s=>AP s,false⟩
def W2:Aq:=⟨[.str],fun s=>decide (s.length<=9223372036854775807),[i64],fun s=>AP s,false⟩
def Rl:Aq:=⟨[.str],fun s=>decide (s.length<=9223372036854775807),[.bool],fun s=>AS s,false⟩
def Iz:Aq:=⟨[i64],fun n=>B5 n,[He],fun n=>(Sp.rN n,Sp.rW n),false⟩
def ME:Aq:=⟨[.str],fun s=>HD s,[He,He],fun s=>((BC s,Bt s),(Bi s,Bc s)),false⟩
def KM[Srt]:A0:=fZ [(61,[4,6,7,9,10])] [] [(61,[(4,[5,6,7,8]),(6,[5,6,7,8]),(7,[5,6,7,9]),(9,[5,6,7]),(10,[10])])] [(115,HM),(116,LW),(113,oE),(92,eV),(114,UF),(117,Vq),(94,NI),(118,ZI),(97,S8)]
def oF[Srt]:A0:=X7 [(128,GG)]
def XK3[Srt]:A0:=X7 [(104,OF),(124,MD),(109,Iz)]
def RZ[Srt]:A0:=fZ [(48,[4,7,9,11,13,14])] [] [(48,[(4,[0,3]),(7,[3,4]),(9,[3,4]),(11,[3,4]),(13,[5,6]),(14,[7])])] [(104,W2),(105,Rl),(74,ME),(106,JW)]
end Go.Pe
namespace Go.Sp
abbrev Ai:=(Int×List Int)×(Int×List Int)
def O3(a:AE):Bool:=Dd a&&decide (a.2.length<=4000)
def F6(a:Ai):Bool:=O3 a.1&&O3 a.2
def Lx(a b:Ai):Int:=B3 (vI a.1*vI b.2)<|vI b.1*vI a.2
def ZY(a:Rd):Int:=Cy<|Bb a
def cO(a:Rd):List Int:=Cv<|Bb a
def UZ(a:Rd):Int:=Cy<|AM a
def Uj(a:Rd):List Int:=Cv<|AM a
def iQ(a b:AE):AE:=if vI b<0 then E5 (CN a) (CN b)else E5 a b
def iQS(a b:AE):Int:=(iQ a b).1
def iQW(a b:AE):List Int:=(iQ a b).2
def DF(d:AE):Bool:=decide (d.2=[])&&decide (d.1=1)
def gR(n d:AE):AE:=(LP n d,LD n d)
def KK(n d:AE):Ai:=if DF d=true then(n,d)else(iQ n<|gR n d,iQ d<|gR n d)
def Tv(n d:AE):Ai:=if vI d<0 then KK (CN n) (CN d)else KK n d
def fWh(n:AE):Ai:=(n,(1,B7 1))
def G1(a b:Ai):Ai:=if DF a.2=true/\DF b.2=true then fWh (D1 a.1 b.1)else Tv (D1 (EJ a.1 b.2)<|EJ b.1 a.2)<|EJ a.2 b.2
def I8(a b:Ai):Ai:=Tv (EJ a.1 b.1)<|EJ a.2 b.2
def pG(a:Ai):Ai:=(CN a.1,a.2)
def RU(a b:Ai):Ai:=G1 a<|pG b
def R8(a:Ai):Ai:=Tv a.2 a.1
def I7(a b:Ai):Ai:=I8 a<|R8 b
def nS(f:Ai):Int:=f.1.1
def nW(f:Ai):List Int:=f.1.2
def dS(f:Ai):Int:=f.2.1
def dW(f:Ai):List Int:=f.2.2
def eA(n d:AE):Int:=nS<|Tv n d
def bX(n d:AE):List Int:=nW<|Tv n d
def eH(n d:AE):Int:=dS<|Tv n d
def dU(n d:AE):List Int:=dW<|Tv n d
def pB(a b:Ai):Int:=nS<|G1 a b
def oZ(a b:Ai):List Int:=nW<|G1 a b
def pD(a b:Ai):Int:=dS<|G1 a b
def nA(a b:Ai):List Int:=dW<|G1 a b
def yJ(a b:Ai):Int:=nS<|RU a b
def uT(a b:Ai):List Int:=nW<|RU a b
def yI(a b:Ai):Int:=dS<|RU a b
def vB(a b:Ai):List Int:=dW<|RU a b
def nH(a b:Ai):Int:=nS<|I8 a b
def pA(a b:Ai):List Int:=nW<|I8 a b
def nD(a b:Ai):Int:=dS<|I8 a b
def nB(a b:Ai):List Int:=dW<|I8 a b
def xY(a:Ai):Int:=nS<|R8 a
def yF(a:Ai):List Int:=nW<|R8 a
def yR(a:Ai):Int:=dS<|R8 a
def wV(a:Ai):List Int:=dW<|R8 a
def yG(a b:Ai):Int:=nS<|I7 a b
def wX(a b:Ai):List Int:=nW<|I7 a b
def xL(a b:Ai):Int:=dS<|I7 a b
def wC(a b:Ai):List Int:=dW<|I7 a b
def uH(a:Ai):Int:=WH a.1 a.2
def uJ(a:Ai):List Int:=Vr a.1 a.2
def C6(a:Ai):Bool:=F6 a&&decide (0<vI a.2)
def Jy(n d:AE):Bool:=Bd n&&Bd d&&decide (vI d≠0)
end Go.Sp
namespace Go.Pe
open Sp
open Go.Det
abbrev AR:Sh:=.pair AV AV
def Zp:Aq:=⟨[.str],fun s=>HD s,[AR],fun s=>((ZY s,cO s),(UZ s,Uj s)),false⟩
def oQ:Aq:=⟨[AR,AR],fun i=>Sp.F6 (i.1:Ai)&&Sp.F6 (i.2:Ai),[i64],fun i=>Lx (i.1:Ai) (i.2:Ai),false⟩
def cIQ:Aq:=⟨[AV,AV],fun i=>Jy i.1 i.2,[AV],fun i=>(Sp.iQS i.1 i.2,Sp.iQW i.1 i.2),false⟩
def cE:Aq:=⟨[AV,AV],fun i=>Jy i.1 i.2,[AR],fun i=>((eA i.1 i.2,bX i.1 i.2),(eH i.1 i.2,dU i.1 i.2)),false⟩
def S4:Aq:=⟨[AR],fun _=>true,[.bool],fun a=>DF (a:Ai).2,false⟩
def Y7:Aq:=⟨[AV],fun _=>true,[AR],fun n=>((n:AE),((1:Int),B7 1)),false⟩
def cF:Aq:=⟨[i64],fun _=>true,[AR],fun n=>(((n:Int),B7 n),((1:Int),B7 1)),false⟩
def oI:Aq:=⟨[AR],fun a=>Dd (a:Ai).1,[AR],fun a=>((D3 (a:Ai).1,D4 (a:Ai).1),((a:Ai).2.1,(a:Ai).2.2)),false⟩
def S5:Aq:=⟨[AR,AR],fun i=>Sp.C6 (i.1:Ai)&&Sp.C6 (i.2:Ai),[AR],fun i=>((pB i.1 i.2,oZ i.1 i.2),(pD i.1 i.2,nA i.1 i.2)),false⟩
def nN:Aq:=⟨[AR,AR],fun i=>Sp.C6 (i.1:Ai)&&Sp.C6 (i.2:Ai),[AR],fun i=>((yJ i.1 i.2,uT i.1 i.2),(yI i.1 i.2,vB i.1 i.2)),false⟩
def VK:Aq:=⟨[AR,AR],fun i=>Sp.C6 (i.1:Ai)&&Sp.C6 (i.2:Ai),[AR],fun i=>((nH i.1 i.2,pA i.1 i.2),(nD i.1 i.2,nB i.1 i.2)),false⟩
def oW:Aq:=⟨[AR],fun a=>Sp.C6 (a:Ai)&&decide (zm (a:Ai).1≠0),[AR],fun a=>((xY a,yF a),(yR a,wV a)),false⟩
def Wv:Aq:=⟨[AR,AR],fun i=>Sp.C6 (i.1:Ai)&&Sp.C6 (i.2:Ai)&&decide (zm (i.2:Ai).1≠0),[AR],fun i=>((yG i.1 i.2,wX i.1 i.2),(xL i.1 i.2,wC i.1 i.2)),false⟩
def dZ:Aq:=⟨[AR],fun a=>Sp.C6 (a:Ai),[AV],fun a=>(uH a,uJ a),false⟩
def fY[Srt]:A0:=fZ [(159,[3])] [] [(159,[(3,[2,3,4])])] [(158,Lu),(157,Tk),(173,Gc),(117,Vq),(97,S8),(102,M5),(96,PY),(118,ZI),(92,eV),(94,NI)]
def qQ[Srt]:A0:=fZ [(95,[3,6])] [] [(95,[(3,[2,3,4]),(6,[2,3,4,5])])] [(158,Lu),(157,Tk),(117,Vq),(159,cIQ)]
def rH[Srt]:A0:=fZ [(46,[3])] [] [(46,[(3,[2,3,4])])] [(101,S4),(93,Y7),(102,M5),(96,PY),(95,cE)]
def zF[Srt]:A0:=X7 [(103,oI),(46,S5),(42,VK),(98,oW)]
end Go.Pe
namespace Go.Sp
def TH(a:Rd):Rd:=if Bu a=true then AN a else[49]
end Go.Sp
namespace Go.Pe
open Go.Det
def dH:Aq:=⟨[.str],fun s=>decide (s.length<=1000000),[.str],fun s=>Sp.Ba s,false⟩
def nJ:Aq:=⟨[.str],fun s=>decide (s.length<=1000000),[.str],fun s=>Sp.AD s,false⟩
def YV:Aq:=⟨[.str],fun s=>decide (s.length<=1000000),[.str],fun s=>Sp.TH s,false⟩
def XM5[Srt]:A0:=X7 [(104,OF)]
end Go.Pe
namespace Go.Sp
def DN(a:Rd):Bool:=decide (a.length<=20)&&decide ((AD<|Ba a).length<=9)&&decide ((AN<|Ba a).length<=9)
def H2(a:Rd):Int:=if preB a=true then -AA 0 (AD<|Ba a)else AA 0<|AD<|Ba a
def Q7(a:Rd):Int:=if Bu (Ba a)=true then AA 0 (AN<|Ba a)else 1
def Ge(a:Rd):Int:=if a=[48]then 0 else if a.getD 0 0=45 then -1 else 1
def Kl(a:Rd):Rd:=if a=[48]then a else if a.getD 0 0=45 then a.drop 1 else 45::a
def GR:Nat->Nat->Nat->Rd->Rd
 |0,_,_,a=>a
 |f+1,n,l,a=>if n=0/\l<=a.length then a else GR f (n/10) l (UInt8.ofNat (48+n % 10)::a)
def HJ(n l:Int):Rd:=GR 64 n.toNat l.toNat []
def uY(a b:Int):Bool:=decide (0<=a)&&decide (a<9223372036854775808)&&decide (0<=b)&&decide (b<9223372036854775808)
end Go.Sp
namespace Go.Pe
open Go.Det
def oU:Aq:=⟨[i64,i64],fun i=>Sp.uY i.1 i.2,[i64],fun i=>Sp.gI i.1 i.2,false⟩
def RF:Aq:=⟨[.str],fun s=>decide (s.length<=1000000),[i64],fun s=>Sp.Ge s,false⟩
def aO:Aq:=⟨[.str],fun s=>decide (s.length<=1000000),[.str],fun s=>Sp.Kl s,false⟩
def Nk:Aq:=⟨[i64,i64],fun i=>decide (0<=(i.1:Int))&&decide ((i.1:Int)<9223372036854775808)&&decide (0<=(i.2:Int))&&decide ((i.2:Int)<=20),[.str],fun i=>Sp.HJ i.1 i.2,false⟩
def Mo[Srt]:A0:=fZ [(73,[5,7,11,13])] [] [(73,[(5,[5,6]),(7,[5,6]),(11,[5,6,7,8,9]),(13,[6,8,9])])] [(125,Qh),(104,OF)]
def XO2[Srt]:A0:=X7 [(107,RF)]
end Go.Pe
namespace Go.Sp
open Go.Lib
theorem Fi(a d:Nat)(c:0<a)(b:d<10):decDigits (10*a+d)=decDigits a++[UInt8.ofNat<|48+d]:=by
 rw[decDigits,dif_neg ae,show(10*a+d)/10=a from by omega,show(10*a+d) % 10=d from by omega]
theorem aA(a d:Nat)(c:0<a)(b:d<10):nDigits (10*a+d)=nDigits a+1:=by
 rw[nDigits_big ae,show(10*a+d)/10=a from by omega]
def QJ(k b:Nat):Rd:=List.replicate (k-nDigits b) 48++decDigits b
theorem PS(k b d:Nat)(c:1<=k)(a:d<10):QJ (k+1) (10*b+d)=QJ k b++[UInt8.ofNat<|48+d]:=by
 unfold QJ;rcases Nat.eq_zero_or_pos b with rfl|e
 ·rw[Nat.mul_zero,Nat.zero_add,nDigits_small a,decDigits_one a,nDigits_small ae,decDigits_one ae];obtain⟨j,rfl⟩:∃j,k=j+1:=⟨k-1,by omega⟩;simp_all [List.replicate_succ']
 grind [aA,Fi]
theorem Wx:∀(k a b:Nat),1<=k->0<a->b<10^k->decDigits (a*10^k+b)=decDigits a++QJ k b
 |0,_,_,h,_,_=>by omega
 |1,a,b,_,c,d=>by
  rw[Nat.mul_comm,Fi a b c d];simp_all [QJ,nDigits_small,decDigits_one]
 |k+2,a,b,_,c,d=>by
  have j:b=10*(b/10)+b % 10:=ae
  have e:b/10<10^(k+1):=by
   grind
  have i:a*10^(k+2)+b=10*(a*10^(k+1)+b/10)+b % 10:=by
   grind
  have l:0<a*10^(k+1):=Nat.mul_pos c ae;have g:=Wx (k+1) a (b/10) ae c e;have f:=PS (k+1) (b/10) (b % 10) ae ae;rw[i,Fi _ _ ae ae,g,List.append_assoc, <-f, <-j]
end Go.Sp
namespace Go.Pe
open Sp
open Go.Det
section
open List Int Prod
namespace T41
def T[Srt](s:Rd):Tr:=tree fY false 9 41<|Af ([zf]) s
theorem Al[Srt](s:Rd):T s=.ck (tF s [(47:UInt8)]) (.ite (!Bu s) (.ck (CP<|AD s)<|.ck true<|.leaf (zt [.dat i64<|CW<|AD s,.dat wU<|CX<|AD s,.dat i64 (1:Int),.dat wU<|B7 1]) [])<|.ck (CP<|AD s)<|.ck (CP<|Sp.AN s)<|.leaf (zt [.dat i64<|CW<|AD s,.dat wU<|CX<|AD s,.dat i64<|CW<|Sp.AN s,.dat wU<|CX<|Sp.AN s]) []):=by kernel_rfl
end T41
namespace T159
def T[Srt](a b:AE):Tr:=tree fY false 9 159<|Af ([AV,AV]) (a,b)
def L1[Srt](c o1:Int)(a:List Int)(d:Int)(b:List Int):Tr:=re ((T (0,[]) (0,[])).L.L.L.L)<|AI 21 [(2,.ptr 0 0),(3,.ptr 1 0),(4,.ptr 2 0)] [(2,.box [.dat i64 c,.nil]),(1,.box [.dat i64 o1,.dat wU a]),(0,.box [.dat i64 d,.dat wU b])] 3
theorem Al[Srt](a b:AE):T a b=.ck (Dd b) (.ite (decide (Ib b<0)) (.ck (Dd a)<|.ck (Dd b)<|L1 0 (D3 b) (D4 b) (D3 a)<|D4 a)<|L1 0 (fst b) (snd b) (fst a)<|snd a):=by kernel_rfl
theorem As[Srt](d o1:Int)(a:List Int)(c:Int)(b:List Int):stepT fY (L1 d o1 a c b)=.ck (Bd (c,b)&&Bd (o1,a)&&decide (0<zm (o1,a))) (.leaf (zt [.dat i64<|WH (c,b) (o1,a),.dat wU<|Vr (c,b) (o1,a)]) []):=by kernel_rfl
end T159
namespace T95
def T[Srt](n d:AE):Tr:=tree qQ false 9 95<|Af ([AV,AV]) (n,d)
def L1[Srt](d b o1:Int)(a:List Int)(e:Int)(c:List Int):Tr:=re ((T (0,[]) (0,[])).L.L.L.L)<|AI 34 [(2,.ptr 0 0),(3,.ptr 1 0),(4,.ptr 2 0)] [(2,.box [.dat i64 d,.nil,.dat i64 b,.nil]),(1,.box [.dat i64 o1,.dat wU a]),(0,.box [.dat i64 e,.dat wU c])] 3
theorem Al[Srt](n d:AE):T n d=.ck (Dd d) (.ite (decide (Ib d<0)) (.ck (Dd n)<|.ck (Dd d)<|L1 0 0 (D3 d) (D4 d) (D3 n)<|D4 n)<|L1 0 0 (fst d) (snd d) (fst n)<|snd n):=by kernel_rfl
def L2[Srt](e:Int)(d:List Int)(f b o1:Int)(a:List Int)(g:Int)(c:List Int):Tr:=re ((stepT qQ<|L1 0 0 0 [] 0 []).L.R.L)<|AI 34 [(2,.ptr 0 0),(3,.ptr 1 0),(4,.ptr 2 0),(5,.ptr 3 0)] [(3,.box [.dat i64 e,.dat wU d]),(2,.box [.dat i64 f,.nil,.dat i64 b,.nil]),(1,.box [.dat i64 o1,.dat wU a]),(0,.box [.dat i64 g,.dat wU c])] 4
theorem As[Srt](f c o1:Int)(a:List Int)(d:Int)(b:List Int):stepT qQ (L1 f c o1 a d b)=let e:Tr:=.ck (Bd (d,b)&&Bd (o1,a))<|L2 (LP (d,b) (o1,a)) (LD (d,b) (o1,a)) f c o1 a d b;.ite (!decide (0<length a)) (.ite (o1==1) (.leaf (zt [.dat i64 d,.dat wU b,.dat i64 o1,.dat wU a]) []) e) e:=by kernel_rfl
theorem A5[Srt](d:Int)(a:List Int)(g e o1:Int)(b:List Int)(f:Int)(c:List Int):stepT qQ (L2 d a g e o1 b f c)=.ck (Jy (f,c) (d,a)) (.ck (Jy (o1,b) (d,a))<|.leaf (zt [.dat i64<|Sp.iQS (f,c) (d,a),.dat wU<|Sp.iQW (f,c) (d,a),.dat i64<|Sp.iQS (o1,b) (d,a),.dat wU<|Sp.iQW (o1,b) (d,a)]) []):=by kernel_rfl
end T95
namespace T101
def T[Srt](a:Ai):Tr:=tree fY false 9 101<|Af ([AR]) a
theorem Al[Srt](a:Ai):T a=.ite (!decide (0<length (snd<|snd a))) (.leaf (.dat zj<|fst (snd a)==1) []) (.leaf (.bl false) []):=by kernel_rfl
end T101
namespace T93
def T[Srt](n:AE):Tr:=tree fY false 9 93<|Af ([AV]) n
theorem Al[Srt](n:AE):T n=.ck true (.leaf (zt [.dat i64<|fst n,.dat wU<|snd n,.dat i64 (1:Int),.dat wU<|B7 1]) []):=by kernel_rfl
end T93
namespace T103
def T[Srt](a:Ai):Tr:=tree fY false 9 103<|Af ([AR]) a
theorem Al[Srt](a:Ai):T a=.ck (Dd<|fst a) (.leaf (zt [.dat i64<|D3<|fst a,.dat wU<|D4<|fst a,.dat i64<|fst<|snd a,.dat wU<|snd<|snd a]) []):=by kernel_rfl
end T103
namespace T46
def T[Srt](a b:Ai):Tr:=tree rH false 9 46<|Af ([AR,AR]) (a,b)
def L1[Srt](h g o1:Int)(a:List Int)(b:Int)(f:List Int)(i:Int)(d:List Int)(e:Int)(c:List Int):Tr:=re ((T ((0,[]),(0,[])) ((0,[]),(0,[]))).L.L.L.R)<|AI 34 [(2,.ptr 0 0),(3,.ptr 1 0),(4,.ptr 2 0)] [(2,.box [.dat i64 h,.nil,.dat i64 g,.nil]),(1,.box [.dat i64 o1,.dat wU a,.dat i64 b,.dat wU f]),(0,.box [.dat i64 i,.dat wU d,.dat i64 e,.dat wU c])] 3
theorem Al[Srt](a b:Ai):T a b=let c:=L1 0 0 (fst<|fst b) (snd<|fst b) (fst<|snd b) (snd<|snd b) (fst<|fst a) (snd<|fst a) (fst<|snd a)<|snd<|snd a;.ck true (.ite (DF<|snd a) (.ck true<|.ite (DF<|snd b) (.ck (Bd (fst a)&&Bd (fst b))<|.ck true<|.leaf (zt [.dat i64<|Jl (fst a)<|fst b,.dat wU<|Jk (fst a)<|fst b,.dat i64 (1:Int),.dat wU<|B7 1]) []) c) c):=by kernel_rfl
theorem As[Srt](l h o1:Int)(e:List Int)(a:Int)(d:List Int)(i:Int)(f:List Int)(c:Int)(b:List Int):stepT rH (L1 l h o1 e a d i f c b)=let b':=(Es (c,b) (a,d),El (c,b) (a,d));let j:=(Es (i,f) (a,d),El (i,f) (a,d));let k:=(Es (o1,e) (c,b),El (o1,e) (c,b));let g:=(Jl j k,Jk j k);.ck (Bd (i,f)&&Bd (a,d)) (.ck (Bd (o1,e)&&Bd (c,b))<|.ck (Bd j&&Bd k)<|.ck (Bd (c,b)&&Bd (a,d))<|.ck (Jy g b')<|.leaf (zt [.dat i64<|eA g b',.dat wU<|bX g b',.dat i64<|eH g b',.dat wU<|dU g b']) []):=by kernel_rfl
end T46
namespace T42
def T[Srt](a b:Ai):Tr:=tree rH false 9 42<|Af ([AR,AR]) (a,b)
theorem Al[Srt](a b:Ai):T a b=let c:=(Es (fst a)<|fst b,El (fst a)<|fst b);let b':=(Es (snd a)<|snd b,El (snd a)<|snd b);.ck (Bd (fst a)&&Bd (fst b)) (.ck (Bd (snd a)&&Bd (snd b))<|.ck (Jy c b')<|.leaf (zt [.dat i64<|eA c b',.dat wU<|bX c b',.dat i64<|eH c b',.dat wU<|dU c b']) []):=by kernel_rfl
end T42
namespace T98
def T[Srt](a:Ai):Tr:=tree rH false 9 98<|Af ([AR]) a
theorem Al[Srt](a:Ai):T a=.ck (Jy (snd a)<|fst a) (.leaf (zt [.dat i64<|eA (snd a)<|fst a,.dat wU<|bX (snd a)<|fst a,.dat i64<|eH (snd a)<|fst a,.dat wU<|dU (snd a)<|fst a]) []):=by kernel_rfl
end T98
namespace T47
def T[Srt](a b:Ai):Tr:=tree zF false 9 47<|Af ([AR,AR]) (a,b)
theorem Al[Srt](a b:Ai):T a b=let c:=((D3<|fst b,D4<|fst b),fst<|snd b,snd<|snd b);let b':=((fst a),fst<|snd a,snd<|snd a);.ck (Dd<|fst b) (.ck (Sp.C6 b'&&Sp.C6 c)<|.leaf (zt [.dat i64<|pB b' c,.dat wU<|oZ b' c,.dat i64<|pD b' c,.dat wU<|nA b' c]) []):=by kernel_rfl
end T47
namespace T44
def T[Srt](a b:Ai):Tr:=tree zF false 9 44<|Af ([AR,AR]) (a,b)
theorem Al[Srt](a b:Ai):T a b=let b':=((fst a),fst<|snd a,snd<|snd a);let d:=((fst b),fst<|snd b,snd<|snd b);let c:=R8 d;.ck (Sp.C6 d&&decide (zm (fst b)≠0)) (.ck (Sp.C6 b'&&Sp.C6 c)<|.leaf (zt [.dat i64<|nH b' c,.dat wU<|pA b' c,.dat i64<|nD b' c,.dat wU<|nB b' c]) []):=by kernel_rfl
end T44
namespace T64
def T[Srt](a b:Ai):Tr:=tree fY false 9 64<|Af ([AR,AR]) (a,b)
theorem Al[Srt](a b:Ai):T a b=let c:=(Es (fst a)<|snd b,El (fst a)<|snd b);let b':=(Es (fst b)<|snd a,El (fst b)<|snd a);.ck (Bd (fst a)&&Bd (snd b)) (.ck (Bd (fst b)&&Bd (snd a))<|.ck (Bd c&&Bd b')<|.leaf (.dat i64<|Xp c b') []):=by kernel_rfl
end T64
namespace T165
def T[Srt](a:Ai):Tr:=tree fY false 9 165<|Af ([AR]) a
theorem Al[Srt](a:Ai):T a=.ck (Bd (fst a)&&Bd (snd a)&&decide (0<zm (snd a))) (.leaf (zt [.dat i64<|WH (fst a)<|snd a,.dat wU<|Vr (fst a)<|snd a]) []):=by kernel_rfl
end T165
namespace T104
def T[Srt](s:Rd):Tr:=tree Mr false 9 104<|Af ([zf]) s
def L1[Srt](v0:Rd)(v3:Int):Tr:=re ((T []))<|AI 17 [(0,.dat zf v0),(3,.dat i64 v3)] [] 0
theorem Al[Srt](s:Rd):T s=L1 s 0:=by kernel_rfl
theorem As[Srt](v0:Rd)(v3:Int):stepT Mr (L1 v0 v3)=let a:=(length v0:Int);.di (v3<a) (.ck (decide (0<=v3)&&decide (v3<a))<|.ite ((↑(ze<|getD v0 (toNat v3) (0:UInt8)):Int)==47) (.leaf (.dat i64 v3) [])<|L1 v0<|zc .i64<|v3+1) (.leaf (.dat i64 a) []):=by kernel_rfl
end T104
namespace T105
def T[Srt](s:Rd):Tr:=tree Mr false 9 105<|Af ([zf]) s
def L1[Srt](s v0:Rd)(v3:Int):Tr:=re ((T s).R.L.L.R)<|AI 20 [(0,.dat zf v0),(3,.dat i64 v3)] [] 0
def L2[Srt](s v0:Rd)(v3:Int):Tr:=re ((T s).R.R)<|AI 20 [(0,.dat zf v0),(3,.dat i64 v3)] [] 0
theorem Al[Srt](s:Rd):T s=let a:=(length s:Int);.ite (a==0) (.leaf (.bl false) []) (.di (a>1) (.cd (0<a)<|.ite ((↑(ze<|getD s 0 (0:UInt8)):Int)==48) (.leaf (.bl false) [])<|L1 s s 0)<|L2 s s 0):=by kernel_rfl
theorem As[Srt](s v0:Rd)(v3:Int):stepT Mr (L1 s v0 v3)=let a:=decide (v3<(length v0:Int));let b':=(↑(ze<|getD v0 (toNat v3) (0:UInt8)):Int);.ite a (.ck (decide (0<=v3)&&a)<|.di (b'<48) (.leaf (.bl false) [])<|.ck (decide (0<=v3)&&a)<|.di (b'>57) (.leaf (.bl false) [])<|L1 s v0<|zc .i64<|v3+1) (.leaf (.bl true) []):=by kernel_rfl
theorem A5[Srt](s v0:Rd)(v3:Int):stepT Mr (L2 s v0 v3)=let a:=decide (v3<(length v0:Int));let b':=(↑(ze<|getD v0 (toNat v3) (0:UInt8)):Int);.ite a (.ck (decide (0<=v3)&&a)<|.di (b'<48) (.leaf (.bl false) [])<|.ck (decide (0<=v3)&&a)<|.di (b'>57) (.leaf (.bl false) [])<|L2 s v0<|zc .i64<|v3+1) (.leaf (.bl true) []):=by kernel_rfl
end T105
namespace T109
def T[Srt](n:Int):Tr:=tree oF false 9 109<|Af ([zl IntKind.i64]) n
def L1[Srt](v0:Int)(v4:Bool):Tr:=re ((T 0))<|AI 25 [(0,.dat i64 v0),(2,.ptr 0 0),(3,.nil),(4,.dat zj v4)] [(0,.box [.bl false,.nil])] 1
theorem Al[Srt](n:Int):T n=L1 n (decide (n<0)):=by kernel_rfl
def L2[Srt](v0:Int)(a:Nat)(v4:Bool)(o1:List Int):Tr:=re ((stepT oF<|L1 0 false).L.L.L.L.L)<|AI 25 [(0,.dat i64 v0),(2,.ptr 0 0),(3,.sl 1 1 0 a none),(4,.dat zj v4)] [(1,.arr false 3 i64 o1),(0,.box [.bl false,.nil])] 2
theorem As[Srt](v0:Int)(v4:Bool):stepT oF (L1 v0 v4)=let a:=aa 8;let b':=zc .i64<|zx v0 1000000000;.ite (v0 !=0) (.ck true<|.di (yc v0 1000000000<0) (.ck a<|.ck true<|L2 b' 1 v4<|[zc .i64<|0-yc v0 1000000000])<|.ck a<|.ck true<|L2 b' 1 v4<|[yc v0 1000000000]) (.cd (0<=20000)<|.leaf (zt [.dat zj<|Sp.Cj v4 [],.dat (zg i64)<|Sp.Aw []]) []):=by kernel_rfl
theorem A5[Srt](v0:Int)(a:Nat)(v4:Bool)(o1:List Int):stepT oF (L2 v0 a v4 o1)=let b:=ac a (length o1) 8;let b':=zc .i64<|zx v0 1000000000;.ite (v0 !=0) (.ck true<|.di (yc v0 1000000000<0) (.ck b<|.ck true<|L2 b' (yj a 1) v4<|o1++[zc .i64<|0-yc v0 1000000000])<|.ck b<|.ck true<|L2 b' (yj a 1) v4<|o1++[yc v0 1000000000]) (.ck (decide (0+a<=length o1)&&true&&decide (length (take a o1)<=20000))<|.leaf (zt [.dat zj<|Sp.Cj v4<|take a o1,.dat (zg i64)<|Sp.Aw<|take a o1]) []):=by kernel_rfl
end T109
namespace T74
def T[Srt](a:Rd):Tr:=tree XK3 false 9 74<|Af ([zf]) a
theorem Al[Srt](a:Rd):T a=let b':=zc .i64<|AP a+1;let c:=take (toNat<|AP a) a;let b:=take (z6 (length a)<|toNat b')<|drop (toNat b') a;.cd (length a<=1000000) (.ite (AP a==(length a:Int)) (.ck (CP a)<|.ck true<|.leaf (.tup [zt [.dat zj<|EI a,.dat (zg i64)<|Du a],zt [.dat zj false,.dat (zg i64)<|Sp.rW 1]]) [])<|.ck (decide (0<=AP a)&&decide (0<=toNat (AP a))&&decide (toNat (AP a)<=length a))<|.ck (decide (0<=zc .i64 (AP a+1))&&true&&decide (toNat b'<=length a)&&decide (length a<=length a))<|.ck (CP c)<|.ck (CP b)<|.leaf (.tup [zt [.dat zj<|EI c,.dat (zg i64)<|Du c],zt [.dat zj<|EI b,.dat (zg i64)<|Du b]]) []):=by kernel_rfl
end T74
namespace T48
def T[Srt](a:Rd):Tr:=tree RZ false 9 48<|Af ([zf]) a
def L1[Srt](v0 v3:Rd):Tr:=re ((T []).L.L.L.L)<|AI 96 [(0,.dat zf v0),(3,.dat zf v3)] [] 0
theorem Al[Srt](a:Rd):T a=.di ((length a:Int)>0) (.cd (0<(length a:Int))<|.ite ((↑(ze<|getD a 0 (0:UInt8)):Int)==45) (.ck (decide (1<=length a)&&decide (length a<=length a))<|L1 a<|take (z6 (length a) 1)<|drop 1 a)<|L1 a a) (L1 a a):=by kernel_rfl
def L2[Srt](v3:Rd)(v4:Int):Tr:=re ((stepT RZ<|L1 [] []).L.L.L.R.L.L.L.R)<|AI 96 [(3,.dat zf v3),(4,.dat i64 v4)] [] 0
theorem As[Srt](v0 v3:Rd):stepT RZ (L1 v0 v3)=let b':=AP v3;let b:Tr:=.leaf (.dat i64 (1:Int)) [];let a:=decide (0<=AP v3)&&decide (0<=toNat b')&&decide (toNat b'<=length v3);.cd (length v3<=9223372036854775807) (.ck a<|.cd (length (take (toNat b') v3)<=9223372036854775807)<|.ite (!AS (take (toNat b') v3)) b<|.cd (0<(length v0:Int))<|.ite ((↑(ze<|getD v0 0 (0:UInt8)):Int)==45) (.ck a<|.ite (take (toNat b') v3==[(48:UInt8)]) b<|L2 v3 b')<|L2 v3 b'):=by kernel_rfl
def L3[Srt](v3:Rd)(v4:Int):Tr:=re ((stepT RZ<|L2 [] 0).L.L.L.R.L.R.L.R)<|AI 96 [(3,.dat zf v3),(4,.dat i64 v4)] [] 0
theorem A5[Srt](v3:Rd)(v4:Int):stepT RZ (L2 v3 v4)=let c:Tr:=.leaf (.dat i64 (1:Int)) [];let d:=zc .i64<|v4+1;let b:=decide (0<=zc .i64 (v4+1))&&true&&decide (toNat d<=length v3)&&decide (length v3<=length v3);let b':=toNat d;let a:=z6 (length v3) b';.di (v4<(length v3:Int)) (.ck b<|.cd (length (take a<|drop b' v3)<=9223372036854775807)<|.ite (!AS (take a<|drop b' v3)) c<|.ck b<|.ite (take a (drop b' v3)==[(48:UInt8)]) c<|.ck b<|.ite (take a (drop b' v3)==[(49:UInt8)]) c<|L3 v3 v4) (L3 v3 v4):=by kernel_rfl
def L4[Srt](v3:Rd)(v4:Int):Tr:=re ((stepT RZ<|L3 [] 0).R.R)<|AI 96 [(3,.dat zf v3),(4,.dat i64 v4)] [] 0
theorem C5[Srt](v3:Rd)(v4:Int):stepT RZ (L3 v3 v4)=let a:Tr:=.leaf (.dat i64 (4:Int)) [];.di (v4>600) a (.di (zc .i64 (zc .i64 ((length v3:Int)-v4)-1)>600) a<|L4 v3 v4):=by kernel_rfl
def L5[Srt](o1:Bool)(a:List Int)(c:Bool)(b:List Int):Tr:=re ((stepT RZ<|L4 [] 0).L.L)<|AI 96 [(5,.ptr 0 0),(6,.ptr 1 0)] [(1,.box [.dat zj o1,.dat (zg i64) a]),(0,.box [.dat zj c,.dat (zg i64) b])] 2
theorem Dh[Srt](v3:Rd)(v4:Int):stepT RZ (L4 v3 v4)=.di (v4<(length v3:Int)) (.ck (HD v3)<|L5 (Bi v3) (Bc v3) (BC v3)<|Bt v3) (.leaf (.dat i64 (0:Int)) []):=by kernel_rfl
def L6[Srt](a:List Int):Tr:=re ((stepT RZ<|L5 false [] false []).L)<|AI 96 [(7,.dat (zg i64) a)] [] 0
theorem Gb[Srt](o1:Bool)(a:List Int)(c:Bool)(b:List Int):stepT RZ (L5 o1 a c b)=.ck (AW b&&AW a&&decide (length b<=9000)&&decide (length a<=9000)) (L6<|B8 b a):=by kernel_rfl
theorem JR[Srt](a:List Int):stepT RZ (L6 a)=let b:Tr:=.leaf (.dat i64 (1:Int)) [];.ite ((length a:Int) !=1) b (.cd (0<(length a:Int))<|.ite (getD a 0 0 !=1) b<|.leaf (.dat i64 (0:Int)) []):=by kernel_rfl
end T48
namespace T115
def T[Srt](l:List Int):Tr:=tree Mr false 9 115<|Af ([zg i64]) l
def L1[Srt](v5:List Int)(b a:Int):Tr:=re ((T []))<|AI 15 [(5,.dat (zg i64) v5),(6,.dat i64 b),(7,.dat i64 a)] [] 0
theorem Al[Srt](l:List Int):T l=L1 l ((length l:Int)) 0:=by kernel_rfl
theorem As[Srt](v5:List Int)(b a:Int):stepT Mr (L1 v5 b a)=.di (a<b) (.ck (decide (0<=a)&&decide (a<(length v5:Int)))<|.ite (getD v5 (toNat a) 0 !=0) (.leaf (.dat i64<|getD v5 (toNat a) 0) [])<|L1 v5 b<|zc .i64<|a+1) (.leaf (.dat i64 (0:Int)) []):=by kernel_rfl
end T115
namespace T116
def T[Srt](b:Bool)(e:Int):Tr:=tree Mr false 9 116<|Af ([zj,zl IntKind.i64]) (b,e)
theorem Al[Srt](b:Bool)(e:Int):T b e=.ite b (.leaf (.dat i64 e) []) (.leaf (.dat i64 (0:Int)) []):=by kernel_rfl
end T116
namespace T61
def T[Srt](a:Rd):Tr:=tree KM false 9 61<|Af ([zf]) a
def L1[Srt](v5 b:Rd)(a:Bool):Tr:=re ((T []).L.L.L.L.L)<|AI 76 [(5,.dat zf v5),(6,.dat zf b),(7,.dat zj a),(8,.bl true)] [] 0
def L2[Srt](v5 c:Rd)(b a:Bool):Tr:=re ((T []).L.L.L.L.R)<|AI 76 [(5,.dat zf v5),(6,.dat zf c),(7,.dat zj b),(8,.dat zj a)] [] 0
def L3[Srt](v5 b:Rd)(a:Bool):Tr:=re ((T []).L.L.L.R)<|AI 76 [(5,.dat zf v5),(6,.dat zf b),(7,.dat zj a),(8,.bl false)] [] 0
theorem Al[Srt](a:Rd):T a=let b:=AD<|Ba a;let b':=Sp.AN<|Ba a;let c:=Bu<|Ba a;.ck (Zm a [(45:UInt8)]) (.ck (tF (Ba a) [(47:UInt8)])<|.cd (length b<=1000000)<|.ite (AS b) (.ite (!Sp.preB a) (L1 b b' c)<|L2 b b' c<|!AD (Ba a)==[(48:UInt8)])<|L3 b b' c):=by kernel_rfl
def L4[Srt](v5 c:Rd)(b a:Bool):Tr:=re ((stepT KM<|L1 [] [] false).L.L.L.L)<|AI 76 [(5,.dat zf v5),(6,.dat zf c),(7,.dat zj b),(8,.dat zj a)] [] 0
def L5[Srt](v5 b:Rd)(a:Bool):Tr:=re ((stepT KM<|L1 [] [] false).L.L.L.R)<|AI 76 [(5,.dat zf v5),(6,.dat zf b),(7,.dat zj a),(8,.bl false)] [] 0
def L6[Srt](v5 b:Rd)(a:Bool):Tr:=re ((stepT KM<|L1 [] [] false).R)<|AI 76 [(5,.dat zf v5),(6,.dat zf b),(7,.dat zj a),(8,.bl true)] [] 0
theorem As[Srt](v5 a:Rd)(b:Bool):stepT KM (L1 v5 a b)=.ite b (.cd (length a<=1000000)<|.ite (AS a) (.ite (!a==[(48:UInt8)]) (L4 v5 a b<|!a==[(49:UInt8)])<|L5 v5 a b)<|L5 v5 a b) (L6 v5 a b):=by kernel_rfl
theorem A5[Srt](v5 a:Rd)(b c:Bool):stepT KM (L2 v5 a b c)=.ite b (.ite c (.cd (length a<=1000000)<|.ite (AS a) (.ite (!a==[(48:UInt8)]) (L4 v5 a b<|!a==[(49:UInt8)])<|L5 v5 a b)<|L5 v5 a b)<|L5 v5 a b) (L4 v5 a b c):=by kernel_rfl
theorem C5[Srt](v5 b:Rd)(a:Bool):stepT KM (L3 v5 b a)=.ite a (L5 v5 b a) (L5 v5 b a):=by kernel_rfl
def L7[Srt](v5 b:Rd)(a:Bool)(v9:Int):Tr:=re ((stepT KM<|L4 [] [] false false).L.L.L.L)<|AI 76 [(5,.dat zf v5),(6,.dat zf b),(7,.dat zj a),(9,.dat i64 v9)] [] 0
theorem Dh[Srt](v5 a:Rd)(c b:Bool):stepT KM (L4 v5 a c b)=let d:=decide (2<=2)&&true&&decide (2<=1000000);.ck true (.di ((length v5:Int)>600) (.ck true<|.ck d<|L7 v5 a c<|yv [IA (!b) 1,IA true 4])<|.ck true<|.ck d<|L7 v5 a c<|yv [IA (!b) 1,IA (decide ((length a:Int)>600)) 4]):=by kernel_rfl
theorem Gb[Srt](v5 a:Rd)(b:Bool):stepT KM (L5 v5 a b)=.ck true (.di ((length v5:Int)>600) (.ck true<|.ck true<|L7 v5 a b<|yv [IA true 1,IA true 4])<|.ck true<|.ck (decide (2<=2)&&true&&decide (2<=1000000))<|L7 v5 a b<|yv [IA true 1,IA (decide ((length a:Int)>600)) 4]):=by kernel_rfl
theorem JR[Srt](v5 a:Rd)(b:Bool):stepT KM (L6 v5 a b)=.ck true (.di ((length v5:Int)>600) (.ck true<|.ck true<|L7 v5 a b<|yv [IA false 1,IA true 4])<|.ck true<|.ck (decide (2<=2)&&true&&decide (2<=1000000))<|L7 v5 a b<|yv [IA false 1,IA (decide ((length a:Int)>600)) 4]):=by kernel_rfl
def L8[Srt](v5 b:Rd)(a:Bool):Tr:=re ((stepT KM<|L7 [] [] false 0).R)<|AI 76 [(5,.dat zf v5),(6,.dat zf b),(7,.dat zj a)] [] 0
theorem FA[Srt](v5 b:Rd)(a:Bool)(v9:Int):stepT KM (L7 v5 b a v9)=.ite (v9 !=0) (.leaf (.dat i64 v9) []) (L8 v5 b a):=by kernel_rfl
def L9[Srt](a:Bool):Tr:=re ((stepT KM<|L8 [] [] false).L.L.L.L.L.L)<|AI 76 [(10,.dat zj a)] [] 0
def L10[Srt]:Tr:=re ((stepT KM<|L8 [] [] false).R)<|AI 76 [(10,.bl false)] [] 0
theorem LQ[Srt](v5 a:Rd)(c:Bool):stepT KM (L8 v5 a c)=let b:=(LP (CW v5,CX v5) (CW a,CX a),LD (CW v5,CX v5) (CW a,CX a));.ite c (.ck (CP v5)<|.ck (CP a)<|.ck (Bd (CW v5,CX v5)&&Bd (CW a,CX a))<|.ck true<|.ck (Bd b&&Bd (1,B7 1))<|L9<|Xp b (1,B7 1) !=0) L10:=by kernel_rfl
theorem uM[Srt](a:Bool):stepT KM (L9 a)=.ck true (.leaf (.dat i64<|IA a 1) []):=by kernel_rfl
theorem tL[Srt]:stepT KM L10=.ck true (.leaf (.dat i64<|IA false 1) []):=by kernel_rfl
end T61
namespace T94
def T[Srt](s:Rd):Tr:=tree O5 false 9 94<|Af ([zf]) s
def L1[Srt](v0:Rd)(v3:Bool)(o1 a:Int):Tr:=re ((T []).L.L.L.L.L.L)<|AI 41 [(0,.dat zf v0),(2,.ptr 0 0),(3,.dat zj v3),(4,.ptr 1 0)] [(1,.box [.dat i64 o1,.nil]),(0,.box [.dat i64 a,.nil])] 2
def L2[Srt](v0:Rd)(o1 a:Int):Tr:=re ((T []).R.L.L.L.L)<|AI 41 [(0,.dat zf v0),(2,.ptr 0 0),(3,.bl false),(4,.ptr 1 0)] [(1,.box [.dat i64 o1,.nil]),(0,.box [.dat i64 a,.nil])] 2
theorem Al[Srt](s:Rd):T s=let a:=take 1 s==[(45:UInt8)];let b':=decide ((length s:Int)>=1);let c:=decide (1<=length s)&&decide (length s<=length s);let b:=decide (1<=length s);let d:=take (z6 (length s) 1)<|drop 1 s;.ite b' (.ck b<|.ite b' (.ck b<|.ite a (.ck c<|L1 d a 0 0)<|L1 s a 0 0)<|L1 s a 0 0) (.ite b' (.ck b<|.ite a (.ck c<|L2 d 0 0)<|L2 s 0 0)<|L2 s 0 0):=by kernel_rfl
def L3[Srt](v0:Rd)(v3:Bool)(o1 h:Int)(v5:Rd)(f:Int)(a:Nat)(b c:Int)(g:List Int)(d:Int)(e:Int):Tr:=re ((stepT O5<|L1 v0 v3 o1 h).L.L.L.L.L.L.L.R)<|AI 77 [(5,.dat zf v5),(6,.dat i64 f),(47,.sl 2 1 0 a none),(48,.dat i64 b),(49,.dat i64 c)] [(2,.arr false 5 (zl z7) g),(1,.box [.dat i64 d,.nil]),(0,.box [.dat i64 e,.nil])] 3
theorem As[Srt](v0:Rd)(v3:Bool)(o1 c:Int):stepT O5 (L1 v0 v3 o1 c)=let d:=(length v0:Int);let a:=take (toNat<|CH 18 d) v0;let b':=take (z6 (length a) 1)<|drop 1 a;let f:=(↑(length a):Int);let g:=decide (1<=length a)&&decide (length a<=length a);let h:=(↑(ze<|getD a 0 (0:UInt8)):Int);let e:=decide (0<f);.di (d>0) (.ck (decide (0<=CH 18 d)&&decide (0<=toNat (CH 18 d))&&decide (toNat (CH 18 d)<=length v0))<|.ite e (.di (f<19) (.ck e<|.ite (h==45) (.ck g<|.di ((↑(length b'):Int)<1) .fail<|L3 v0 v3 o1 c a 0 (length b') ((↑(length b'):Int)) 0 (yh (fun b=>(↑(ze b):Int)) b') o1 c)<|.ck e<|.ite (h==43) (.ck g<|.di ((↑(length b'):Int)<1) .fail<|L3 v0 v3 o1 c a 0 (length b') ((↑(length b'):Int)) 0 (yh (fun b=>(↑(ze b):Int)) b') o1 c)<|L3 v0 v3 o1 c a 0 (length a) f 0 (yh (fun b=>(↑(ze b):Int)) a) o1 c)<|.ck false .fail)<|.ck false .fail) (.ite v3 (.ck (Dd (o1,[]))<|.leaf (zt [.dat i64<|D3 (o1,[]),.dat wU<|D4 (o1,[])]) [])<|.leaf (zt [.dat i64 o1,.nil]) []):=by kernel_rfl
def L4[Srt](v0:Rd)(o1 h:Int)(v5:Rd)(f:Int)(a:Nat)(b c:Int)(g:List Int)(d:Int)(e:Int):Tr:=re ((stepT O5<|L2 v0 o1 h).L.L.L.L.L.L.L.R)<|AI 77 [(5,.dat zf v5),(6,.dat i64 f),(47,.sl 2 1 0 a none),(48,.dat i64 b),(49,.dat i64 c)] [(2,.arr false 5 (zl z7) g),(1,.box [.dat i64 d,.nil]),(0,.box [.dat i64 e,.nil])] 3
theorem A5[Srt](v0:Rd)(o1 c:Int):stepT O5 (L2 v0 o1 c)=let d:=(length v0:Int);let a:=take (toNat<|CH 18 d) v0;let b':=take (z6 (length a) 1)<|drop 1 a;let f:=(↑(length a):Int);let g:=decide (1<=length a)&&decide (length a<=length a);let h:=(↑(ze<|getD a 0 (0:UInt8)):Int);let e:=decide (0<f);.di (d>0) (.ck (decide (0<=CH 18 d)&&decide (0<=toNat (CH 18 d))&&decide (toNat (CH 18 d)<=length v0))<|.ite e (.di (f<19) (.ck e<|.ite (h==45) (.ck g<|.di ((↑(length b'):Int)<1) .fail<|L4 v0 o1 c a 0 (length b') ((↑(length b'):Int)) 0 (yh (fun b=>(↑(ze b):Int)) b') o1 c)<|.ck e<|.ite (h==43) (.ck g<|.di ((↑(length b'):Int)<1) .fail<|L4 v0 o1 c a 0 (length b') ((↑(length b'):Int)) 0 (yh (fun b=>(↑(ze b):Int)) b') o1 c)<|L4 v0 o1 c a 0 (length a) f 0 (yh (fun b=>(↑(ze b):Int)) a) o1 c)<|.ck false .fail)<|.ck false .fail) (.leaf (zt [.dat i64 o1,.nil]) []):=by kernel_rfl
def L5[Srt](v0:Rd)(v3:Bool)(o1:Int)(a:List Int)(b:Int):Tr:=re ((stepT O5<|L3 [] false 0 0 [] 0 0 0 0 [] 0 0).R.L.L.L.L.L.L.L.L)<|AI 41 [(0,.dat zf v0),(2,.ptr 0 0),(3,.dat zj v3),(4,.ptr 1 0)] [(1,.box [.dat i64 o1,.dat wU a]),(0,.box [.dat i64 b,.nil])] 2
theorem C5[Srt](v0:Rd)(v3:Bool)(o1 o:Int)(v5:Rd)(d:Int)(c:Nat)(f a:Int)(h:List Int)(b:Int)(e:Int):stepT O5 (L3 v0 v3 o1 o v5 d c f a h b e)=let b':=CH 18 (length v0:Int);let j:=(zc .i64<|0-d,B7<|zc .i64<|0-d);let m:=getD h (toNat a) 0-48;let i:=(SB (10,B7 10) b',RI (10,B7 10) b');let n:=decide (0<=CH 18 (length v0:Int))&&true&&decide (toNat b'<=length v0)&&decide (length v0<=length v0);let l:=take (z6 (length v0)<|toNat b')<|drop (toNat b') v0;let k:=Bd (10,B7 10)&&mF (zm (10,B7 10)) b';let g:=(Es (b,[]) i,El (b,[]) i);let h':=Bd (b,[])&&Bd i;.di (a<f) (.ck (decide (0<=a)&&decide (a<(↑c:Int)))<|.cd (toNat a<length h)<|.di (zc .u8 m>9) .fail<|L3 v0 v3 o1 o v5 (zc .i64<|zc .i64 (d*10)+zc .i64 (zc .u8 m)) c f (zc .i64<|a+1) h b e) (.cd (0<(length v5:Int))<|.ite ((↑(ze<|getD v5 0 (0:UInt8)):Int)==45) (.ck true<|.ck k<|.ck h'<|.ck true<|.ck (Bd g&&Bd j)<|.ck n<|L5 l v3 (Jl g j) (Jk g j) e)<|.ck true<|.ck k<|.ck h'<|.ck true<|.ck (Bd g&&Bd (d,B7 d))<|.ck n<|L5 l v3 (Jl g (d,B7 d)) (Jk g (d,B7 d)) e):=by kernel_rfl
def L7[Srt](v0:Rd)(v3:Bool)(o1:Int)(b:List Int)(j:Int)(v5:Rd)(h:Int)(c:Nat)(d e:Int)(i:List Int)(f:Int)(a:List Int)(g:Int):Tr:=re ((stepT O5<|L5 v0 v3 o1 b j).L.L.L.L.L.L.L.R)<|AI 77 [(5,.dat zf v5),(6,.dat i64 h),(47,.sl 2 1 0 c none),(48,.dat i64 d),(49,.dat i64 e)] [(2,.arr false 5 (zl z7) i),(1,.box [.dat i64 f,.dat wU a]),(0,.box [.dat i64 g,.nil])] 3
theorem Gb[Srt](v0:Rd)(v3:Bool)(o1:Int)(a:List Int)(d:Int):stepT O5 (L5 v0 v3 o1 a d)=let e:=(length v0:Int);let c:=take (toNat<|CH 18 e) v0;let b':=take (z6 (length c) 1)<|drop 1 c;let g:=(↑(length c):Int);let h:=decide (1<=length c)&&decide (length c<=length c);let i:=(↑(ze<|getD c 0 (0:UInt8)):Int);let f:=decide (0<g);.di (e>0) (.ck (decide (0<=CH 18 e)&&decide (0<=toNat (CH 18 e))&&decide (toNat (CH 18 e)<=length v0))<|.ite f (.di (g<19) (.ck f<|.ite (i==45) (.ck h<|.di ((↑(length b'):Int)<1) .fail<|L7 v0 v3 o1 a d c 0 (length b') ((↑(length b'):Int)) 0 (yh (fun b=>(↑(ze b):Int)) b') o1 a d)<|.ck f<|.ite (i==43) (.ck h<|.di ((↑(length b'):Int)<1) .fail<|L7 v0 v3 o1 a d c 0 (length b') ((↑(length b'):Int)) 0 (yh (fun b=>(↑(ze b):Int)) b') o1 a d)<|L7 v0 v3 o1 a d c 0 (length c) g 0 (yh (fun b=>(↑(ze b):Int)) c) o1 a d)<|.ck false .fail)<|.ck false .fail) (.ite v3 (.ck (Dd (o1,a))<|.leaf (zt [.dat i64<|D3 (o1,a),.dat wU<|D4 (o1,a)]) [])<|.leaf (zt [.dat i64 o1,.dat wU a]) []):=by kernel_rfl
theorem FA[Srt](v0:Rd)(v3:Bool)(o1:Int)(g:List Int)(q:Int)(v5:Rd)(e:Int)(d:Nat)(h b:Int)(j:List Int)(c:Int)(a:List Int)(f:Int):stepT O5 (L7 v0 v3 o1 g q v5 e d h b j c a f)=let i:=CH 18 (length v0:Int);let l:=(zc .i64<|0-e,B7<|zc .i64<|0-e);let o:=getD j (toNat b) 0-48;let k:=(SB (10,B7 10) i,RI (10,B7 10) i);let p:=decide (0<=CH 18 (length v0:Int))&&true&&decide (toNat i<=length v0)&&decide (length v0<=length v0);let n:=take (z6 (length v0)<|toNat i)<|drop (toNat i) v0;let m:=Bd (10,B7 10)&&mF (zm (10,B7 10)) i;let b':=(Es (c,a) k,El (c,a) k);let h':=Bd (c,a)&&Bd k;.di (b<h) (.ck (decide (0<=b)&&decide (b<(↑d:Int)))<|.cd (toNat b<length j)<|.di (zc .u8 o>9) .fail<|L7 v0 v3 o1 g q v5 (zc .i64<|zc .i64 (e*10)+zc .i64 (zc .u8 o)) d h (zc .i64<|b+1) j c a f) (.cd (0<(length v5:Int))<|.ite ((↑(ze<|getD v5 0 (0:UInt8)):Int)==45) (.ck true<|.ck m<|.ck h'<|.ck true<|.ck (Bd b'&&Bd l)<|.ck p<|L5 n v3 (Jl b' l) (Jk b' l) f)<|.ck true<|.ck m<|.ck h'<|.ck true<|.ck (Bd b'&&Bd (e,B7 e))<|.ck p<|L5 n v3 (Jl b' (e,B7 e)) (Jk b' (e,B7 e)) f):=by kernel_rfl
end T94
namespace T171
def T[Srt](s t:Rd):Tr:=tree Ys false 9 171<|Af ([zf,zf]) (s,t)
def L1[Srt](s t v0:Rd)(v4:Int)(a:List Bool):Tr:=re ((T s t).R.R.L.L.R)<|AI 21 [(0,.dat zf v0),(2,.ptr 0 0),(4,.dat i64 v4)] [(0,.arr false 258 zj a)] 1
def L2[Srt](s t v0:Rd)(v4:Int)(a:List Bool):Tr:=re ((T s t).R.R.R)<|AI 21 [(0,.dat zf v0),(2,.ptr 0 0),(4,.dat i64 v4)] [(0,.arr false 258 zj a)] 1
theorem Al[Srt](s t:Rd):T s t=let a:=decide (0<(length t:Int));let b':Tr:=.leaf (.dat zf s) [];.ite (s==[]) b' (.ite (t==[]) b'<|.ite ((length t:Int)==1) (.ck a<|.di ((↑(ze<|getD t 0 (0:UInt8)):Int)<128) (.ck a<|.ck a<|.ck false<|.ck false b')<|L1 s t t 0 Sp.nY)<|L2 s t t 0 Sp.nY):=by kernel_rfl
def L4[Srt](s t v0:Rd)(v4:Int)(c:List Bool)(a:Rd)(o1:List Bool)(b:List Bool):Tr:=re ((stepT Ys<|L2 s t v0 v4 c).R.L.L.L.L)<|AI 22 [(0,.dat zf a),(1,.ptr 1 0)] [(1,.arr false 258 zj o1),(0,.arr false 258 zj b)] 2
theorem A5[Srt](s t v0:Rd)(v4:Int)(a:List Bool):stepT Ys (L2 s t v0 v4 a)=let b:=(↑(ze<|getD v0 (toNat v4) (0:UInt8)):Int);let b':=decide (length a=256);let c:=decide (v4<(length v0:Int));.ite c (.ck (decide (0<=v4)&&c)<|.di (b>=128) (.ck b'<|.ck b'<|.cd (256=256)<|.ck true<|.ck false<|.ck false<|.leaf (.dat zf s) [])<|.ck (decide ((0:Sh.T (zl z7))<=b)&&decide (b<(↑256:Int)))<|.cd (toNat b<length a)<|L2 s t v0 (zc .i64<|v4+1)<|set a (toNat b) true) (.ck b'<|.ck b'<|.cd (256=256)<|.ck true<|L4 s t v0 v4 a s ((Sp.oG a))<|(Sp.oG a)):=by kernel_rfl
def L7[Srt](s t v0:Rd)(v4:Int)(f:List Bool)(c:Rd)(o1:List Bool)(e:List Bool)(b:Rd)(d:List Bool)(a:List Bool):Tr:=re ((stepT Ys<|L4 s t v0 v4 f c o1 e).L.L.L.L.L)<|AI 16 [(0,.dat zf b),(1,.ptr 1 0)] [(1,.arr false 258 zj d),(0,.arr false 258 zj a)] 2
def L8[Srt](s t v0:Rd)(v4:Int)(f:List Bool)(c:Rd)(o1:List Bool)(e:List Bool)(b:Rd)(d:List Bool)(a:List Bool):Tr:=re ((stepT Ys<|L4 s t v0 v4 f c o1 e).R)<|AI 16 [(0,.dat zf b),(1,.ptr 1 0)] [(1,.arr false 258 zj d),(0,.arr false 258 zj a)] 2
theorem Dh[Srt](s t v0:Rd)(v4:Int)(e:List Bool)(a:Rd)(o1:List Bool)(b:List Bool):stepT Ys (L4 s t v0 v4 e a o1 b)=let b':=(↑(length a):Int);let d:=zc .i64<|b'-1;let f:=decide (0<=zc .i64 (b'-1));let c:=(↑(ze<|getD a (toNat d) (0:UInt8)):Int);.di (b'>0) (.ck (f&&decide (zc .i64 (b'-1)<b'))<|.ck (decide ((0:Sh.T (zl z7))<=c)&&decide (c<(↑256:Int)))<|.cd (toNat c<length o1)<|.ite (!getD o1 (toNat c) false) (L7 s t v0 v4 e a o1 b a o1 b)<|.ck (f&&decide (0<=toNat d)&&decide (toNat d<=length a))<|L4 s t v0 v4 e (take (toNat d) a) o1 b) (L8 s t v0 v4 e a o1 b a o1 b):=by kernel_rfl
theorem FA[Srt](s t v0:Rd)(v4:Int)(g:List Bool)(d:Rd)(o1:List Bool)(e:List Bool)(a:Rd)(b:List Bool)(c:List Bool):stepT Ys (L7 s t v0 v4 g d o1 e a b c)=let f:=(↑(ze<|getD a 0 (0:UInt8)):Int);let b':Tr:=.leaf (.dat zf a) [];.di ((↑(length a):Int)>0) (.cd (0<(↑(length a):Int))<|.ck (decide ((0:Sh.T (zl z7))<=f)&&decide (f<(↑256:Int)))<|.cd (toNat f<length b)<|.ite (!getD b (toNat f) false) b'<|.ck (decide (1<=length a)&&decide (length a<=length a))<|L7 s t v0 v4 g d o1 e (take (z6 (length a) 1)<|drop 1 a) b c) b':=by kernel_rfl
theorem LQ[Srt](s t v0:Rd)(v4:Int)(g:List Bool)(d:Rd)(o1:List Bool)(e:List Bool)(a:Rd)(b:List Bool)(c:List Bool):stepT Ys (L8 s t v0 v4 g d o1 e a b c)=let f:=(↑(ze<|getD a 0 (0:UInt8)):Int);let b':Tr:=.leaf (.dat zf a) [];.di ((↑(length a):Int)>0) (.cd (0<(↑(length a):Int))<|.ck (decide ((0:Sh.T (zl z7))<=f)&&decide (f<(↑256:Int)))<|.cd (toNat f<length b)<|.ite (!getD b (toNat f) false) b'<|.ck (decide (1<=length a)&&decide (length a<=length a))<|L8 s t v0 v4 g d o1 e (take (z6 (length a) 1)<|drop 1 a) b c) b':=by kernel_rfl
end T171
namespace T114
def T[Srt](s:Rd):Tr:=tree XH1 false 9 114<|Af ([zf]) s
theorem Al[Srt](s:Rd):T s=.ite (!s==[]) (.ck (Sp.oV s [(48:UInt8),49,50,51,52,53,54,55,56,57])<|.ite (Sp.OC s==[]) (.cd (0<(length s:Int))<|.ite ((↑(ze<|getD s 0 (0:UInt8)):Int) !=48) (.leaf (.bl true) [])<|.leaf (.dat zj<|s==[(48:UInt8)]) [])<|.leaf (.bl false) []) (.leaf (.bl false) []):=by kernel_rfl
end T114
namespace T113
def T[Srt](s t:Rd):Tr:=tree Mr false 9 113<|Af ([zf,zf]) (s,t)
theorem Al[Srt](s t:Rd):T s t=let a:=(length t:Int);let b':Tr:=.leaf (.tup [.dat zf s,.bl false]) [];let b:=decide (toNat a<=length s);.di ((length s:Int)>=a) (.ck (decide (0<=a)&&decide (0<=toNat a)&&b)<|.ite (!take (toNat a) s==t) b'<|.ck (decide (0<=a)&&true&&b&&decide (length s<=length s))<|.leaf (.tup [.dat zf<|take (z6 (length s)<|toNat a)<|drop (toNat a) s,.bl true]) []) b':=by kernel_rfl
end T113
namespace T92
def T[Srt](s t:Rd):Tr:=tree XH2 false 9 92<|Af ([zf,zf]) (s,t)
theorem Al[Srt](s t:Rd):T s t=let b':=(↑(ze<|getD t 0 (0:UInt8)):Int);let a:=(length t:Int);let b:Tr:=.leaf (.tup [.dat zf s,.dat zf [],.bl false]) [];let d:=decide (length s<=length s);let h:=Bv [zl z7];let c:=zc .i64<|Sp.Oc s b'+a;let e:=zc .i64<|(-1)+a;let h':=zc .i64<|0+a;let f:=Sp.Oc s b';let g:Tr:=.ite true (.cd (0<=length s)<|.ck (decide (0<=zc .i64 (0+a))&&true&&decide (toNat h'<=length s)&&d)<|.leaf (.tup [.dat zf<|take 0 s,.dat zf<|take (z6 (length s)<|toNat h')<|drop (toNat h') s,.bl true]) []) b;.ite (a==0) g (.ite (t==s) g<|.ite (a==1) (.cd (0<a)<|.ck (decide ((0:Sh.T h)<=b')&&decide (b'<(256:Sh.T h)))<|.di (Sp.Oc s b'>=0) (.ck (decide (0<=Sp.Oc s b')&&decide (0<=toNat f)&&decide (toNat f<=length s))<|.ck (decide (0<=zc .i64 (Sp.Oc s b'+a))&&true&&decide (toNat c<=length s)&&d)<|.leaf (.tup [.dat zf<|take (toNat f) s,.dat zf<|take (z6 (length s)<|toNat c)<|drop (toNat c) s,.bl true]) []) b)<|.cd (a>=(length s:Int))<|.ite false (.ck (false&&decide (0<=length s))<|.ck (decide (0<=zc .i64 ((-1)+a))&&true&&decide (toNat e<=length s)&&d)<|.leaf (.tup [.dat zf<|take 0 s,.dat zf<|take (z6 (length s)<|toNat e)<|drop (toNat e) s,.bl true]) []) b):=by kernel_rfl
end T92
namespace T188
def T[Srt](w:List Int):Tr:=tree fX false 9 188<|Af ([zg i64]) w
def L1[Srt](v0:List Int):Tr:=re ((T []))<|AI 21 [(0,.dat (zg i64) v0)] [] 0
theorem Al[Srt](w:List Int):T w=L1 w:=by kernel_rfl
theorem As[Srt](v0:List Int):stepT fX (L1 v0)=let b':=(length v0:Int);let c:Tr:=.leaf (.dat (zg i64) v0) [];let a:=zc .i64<|b'-1;let b:=decide (0<=zc .i64 (b'-1));.di (b'>0) (.ck (b&&decide (zc .i64 (b'-1)<b'))<|.ite (getD v0 (toNat a) 0==0) (.ck (b&&decide (0<=toNat a)&&decide (toNat a<=length v0))<|L1<|take (toNat a) v0) c) c:=by kernel_rfl
end T188
namespace T128
def T[Srt](n:Bool)(w:List Int):Tr:=tree Yy false 9 128<|Af ([zj,zg i64]) (n,w)
theorem Al[Srt](n:Bool)(w:List Int):T n w=.cd (length w<=20000) (.ite n (.leaf (zt [.dat zj<|decide ((↑(length<|Aw w):Int)>0),.dat (zg i64)<|Aw w]) [])<|.leaf (zt [.bl false,.dat (zg i64)<|Aw w]) []):=by kernel_rfl
end T128
namespace T130
def T[Srt](a b:List Int):Tr:=tree fX false 9 130<|Af ([zg i64,zg i64]) (a,b)
def L1[Srt](v0 v1:List Int)(v5:Int):Tr:=re ((T [] []).R)<|AI 41 [(0,.dat (zg i64) v0),(1,.dat (zg i64) v1),(5,.dat i64 v5)] [] 0
theorem Al[Srt](a b:List Int):T a b=let c:=(length a:Int);.ite (c !=(length b:Int)) (.di (c<(length b:Int)) (.leaf (.dat i64 (-1:Int)) [])<|.leaf (.dat i64 (1:Int)) []) (L1 a b<|zc .i64<|c-1):=by kernel_rfl
theorem As[Srt](v0 v1:List Int)(v5:Int):stepT fX (L1 v0 v1 v5)=let a:=decide (0<=v5)&&decide (v5<(length v0:Int));let b':=decide (0<=v5)&&decide (v5<(length v1:Int));.di (v5>=0) (.ck a<|.ck b'<|.di (getD v0 (toNat v5) 0<getD v1 (toNat v5) 0) (.leaf (.dat i64 (-1:Int)) [])<|.ck a<|.ck b'<|.di (getD v0 (toNat v5) 0>getD v1 (toNat v5) 0) (.leaf (.dat i64 (1:Int)) [])<|L1 v0 v1<|zc .i64<|v5-1) (.leaf (.dat i64 (0:Int)) []):=by kernel_rfl
end T130
namespace T132
def T[Srt](a b:List Int):Tr:=tree Yy false 9 132<|Af ([zg i64,zg i64]) (a,b)
def L1[Srt](v0 v1:List Int)(a:Nat)(b:Int)(c:List Int):Tr:=re ((T [] []).L)<|AI 72 [(0,.dat (zg i64) v0),(1,.dat (zg i64) v1),(5,.sl 0 1 0 a none),(6,.dat i64 b)] [(0,.arr false 3 i64 c)] 1
theorem Al[Srt](a b:List Int):T a b=let c:=(length a:Int)+(length b:Int);let b':=zc .i64 c;.ck (decide (0<=zc .i64 c)&&decide (zc .i64 c=zc .i64 c)&&decide (8*toNat b'<=281474976710656)&&decide (zc .i64 c<9223372036854775808)) (L1 a b (toNat b') 0<|replicate (toNat b') 0):=by kernel_rfl
def L2[Srt](v0 v1:List Int)(a:Nat)(d c b:Int)(e:List Int):Tr:=re ((stepT Yy<|L1 [] [] 0 0 []).L)<|AI 72 [(0,.dat (zg i64) v0),(1,.dat (zg i64) v1),(5,.sl 0 1 0 a none),(6,.dat i64 d),(7,.dat i64 c),(8,.dat i64 b)] [(0,.arr false 3 i64 e)] 1
theorem As[Srt](v0 v1:List Int)(a:Nat)(c:Int)(b:List Int):stepT Yy (L1 v0 v1 a c b)=.di (c<(length v0:Int)) (L2 v0 v1 a c 0 0 b) (.ck (decide (0+a<=length b)&&true&&decide (length (take a b)<=20000))<|.leaf (.dat (zg i64)<|Aw<|take a b) []):=by kernel_rfl
theorem A5[Srt](v0 v1:List Int)(a:Nat)(b f c:Int)(d:List Int):stepT Yy (L2 v0 v1 a b f c d)=let j:=decide (0<=zc .i64 (b+c))&&decide (zc .i64 (b+c)<(↑a:Int));let h:=zc .i64<|b+c;let g:=(length v1:Int);let i:=zc .i64<|zc .i64 (getD d (toNat h) 0+zc .i64 (getD v0 (toNat b) 0*getD v1 (toNat c) 0))+f;let b':=b+g;let l:=decide (toNat h<length d);let k:=decide (0<=zc .i64 b')&&decide (zc .i64 b'<(↑a:Int));let e:=zc .i64 b';let h':=decide (toNat e<length d);.di (c<g) (.ck j<|.ck l<|.ck (decide (0<=b)&&decide (b<(length v0:Int)))<|.ck (decide (0<=c)&&decide (c<g))<|.ck true<|.ck j<|.ck l<|.ck true<|L2 v0 v1 a b (zc .i64<|zx i 1000000000) (zc .i64<|c+1)<|set d (toNat h)<|yc i 1000000000) (.ck k<|.ck h'<|.ck k<|.ck h'<|L1 v0 v1 a (zc .i64<|b+1)<|set d (toNat e)<|zc .i64<|getD d (toNat e) 0+f):=by kernel_rfl
end T132
namespace T187
def T[Srt](a:List Int)(d:Int):Tr:=tree Yy false 9 187<|Af ([zg i64,zl IntKind.i64]) (a,d)
def L1[Srt](v0:List Int)(v1:Int)(a:Nat)(c b:Int)(d:List Int):Tr:=re ((T [] 0).L)<|AI 39 [(0,.dat (zg i64) v0),(1,.dat i64 v1),(6,.sl 0 1 0 a none),(7,.dat i64 c),(8,.dat i64 b)] [(0,.arr false 3 i64 d)] 1
theorem Al[Srt](a:List Int)(d:Int):T a d=let b:=(length a:Int);.ck (decide (0<=b)&&decide (b=b)&&decide (8*toNat b<=281474976710656)&&decide (b<9223372036854775808)) (L1 a d (toNat b) 0 (zc .i64<|b-1)<|replicate (toNat b) 0):=by kernel_rfl
theorem As[Srt](v0:List Int)(v1:Int)(a:Nat)(d b:Int)(c:List Int):stepT Yy (L1 v0 v1 a d b c)=let e:=zc .i64<|zc .i64 (d*1000000000)+getD v0 (toNat b) 0;.di (b>=0) (.ck (decide (0<=b)&&decide (b<(length v0:Int)))<|.cd (v1≠0)<|.ck (decide (0<=b)&&decide (b<(↑a:Int)))<|.cd (toNat b<length c)<|.cd (v1≠0)<|L1 v0 v1 a (yc e v1) (zc .i64<|b-1)<|set c (toNat b)<|zc .i64<|zx e v1) (.ck (decide (0+a<=length c)&&true&&decide (length (take a c)<=20000))<|.leaf (.tup [.dat (zg i64)<|Aw<|take a c,.dat i64 d]) []):=by kernel_rfl
end T187
namespace T127
def T[Srt](a b:List Int):Tr:=tree KX false 9 127<|Af ([zg i64,zg i64]) (a,b)
def L1[Srt](v0:List Int)(c:Nat)(v9:List Int)(b:Int)(a:Nat)(o1 d:List Int):Tr:=re ((T [] []).L.R.R.L.L.L.L.L)<|AI 206 [(0,.dat (zg i64) v0),(8,.sl 0 1 0 c none),(9,.dat (zg i64) v9),(10,.dat i64 b),(11,.sl 1 1 0 a none)] [(1,.arr false 3 i64 o1),(0,.arr true 3 i64 d)] 2
theorem Al[Srt](a b:List Int):T a b=let c:=(length b:Int);let f:=getD b (toNat<|zc .i64<|c-1) 0+1;let d:=zx 1000000000<|zc .i64 f;let b':=Aj a*Aj [zc .i64 d];let e:=BA<|Aj b*Aj [zc .i64 d];.ck (AW a&&AW b) (.di (B3 (Aj a) (Aj b)<0) (.leaf (.tup [.nil,.dat (zg i64) a]) [])<|.ite (c==1) (.cd (0<c)<|.ck (Jj a&&decide (0<getD b 0 0)&&decide (getD b 0 0<1000000000))<|.ck (decide (1<=1)&&true&&decide (1<=20000))<|.leaf (.tup [.dat (zg i64)<|BA<|Aj a/getD b 0 0,.dat (zg i64)<|Aw [Aj a % getD b 0 0]]) [])<|.ck (decide (0<=zc .i64 (c-1))&&decide (zc .i64 (c-1)<c))<|.cd (zc .i64 f≠0)<|.ck (decide (1<=1)&&true&&(Sp.hR b&&Sp.hR [zc .i64 d]))<|.ck (decide (1<=1)&&true&&(Sp.hR a&&Sp.hR [zc .i64 d]))<|.cd ((3*(0+length (BA b'))+2000)*8<=562949953421312)<|L1 a 1 e ((↑(length e):Int)) (yj 0<|length<|BA b') ([]++BA b')<|[zc .i64 d]):=by kernel_rfl
def L2[Srt](e:Nat)(v9:List Int)(d:Int)(b a:Nat)(c:Int)(f o1 g:List Int):Tr:=re ((stepT KX<|L1 [] 0 [] 0 0 [] []).R.L)<|AI 206 [(8,.sl 0 1 0 e none),(9,.dat (zg i64) v9),(10,.dat i64 d),(11,.sl 1 1 0 b none),(12,.sl 2 1 0 a none),(13,.dat i64 c)] [(2,.arr false 3 i64 f),(1,.arr false 3 i64 o1),(0,.arr true 3 i64 g)] 3
theorem As[Srt](v0:List Int)(c:Nat)(v9:List Int)(b:Int)(a:Nat)(o1 e:List Int):stepT KX (L1 v0 c v9 b a o1 e)=let d:=(↑a:Int)-b;let b':=zc .i64 d;.di ((↑a:Int)<zc .i64 ((length v0:Int)+1)) (.ck (decide (a=length o1)&&decide ((3*(a+1)+2000)*8<=562949953421312))<|L1 v0 c v9 b (yj a 1) (o1++[0]) e) (.ck (decide (0<=zc .i64 d)&&decide (zc .i64 d=zc .i64 d)&&decide (8*toNat b'<=281474976710656)&&decide (zc .i64 d<9223372036854775808))<|L2 c v9 b a (toNat b') (zc .i64<|zc .i64 d-1) (replicate (toNat b') 0) o1 e):=by kernel_rfl
def L3[Srt](f:Nat)(v9:List Int)(e:Int)(b a:Nat)(d:Int)(m o1 n:List Int)(j:Nat)(v1:List Int)(v2 l:Int)(g:Int)(c:Int)(i:List Int)(h:List Int)(k:List Int):Tr:=re ((stepT KX<|L2 f v9 e b a d m o1 n).L.L.L.L.L.L.L.L.L)<|AI 77 [(0,.sl 1 1 0 j none),(1,.dat (zg i64) v1),(2,.dat i64 v2),(7,.dat i64 l),(9,.dat i64 g),(10,.dat i64 c)] [(2,.arr false 3 i64 i),(1,.arr false 3 i64 h),(0,.arr true 3 i64 k)] 3
theorem A5[Srt](f:Nat)(v9:List Int)(d:Int)(a b:Nat)(c:Int)(h o1 g:List Int):stepT KX (L2 f v9 d a b c h o1 g)=let e:=(length v9:Int);let j:=take (toNat d) o1;let k:=toNat<|zc .i64<|e-1;let i:=zc .i64 (c+e)-1;let l:=decide (0<=zc .i64 (e-1))&&decide (zc .i64 (e-1)<e);let m:=zc .i64<|c+e;let b':=zc .i64<|zc .i64 (getD o1 (toNat m) 0*1000000000)+getD o1 (toNat<|zc .i64 i) 0;let h':=decide (getD v9 k 0≠0);.di (c>=0) (.ck (decide (0<=zc .i64 (c+e))&&decide (zc .i64 (c+e)<(↑a:Int)))<|.cd (toNat m<length o1)<|.ck (decide (0<=zc .i64 i)&&decide (zc .i64 i<(↑a:Int)))<|.cd (toNat (zc .i64 i)<length o1)<|.ck l<|.ck h'<|.ck l<|.ck h'<|L3 f v9 d a b c h o1 g a v9 c e (zc .i64<|zx b'<|getD v9 k 0) (yc b'<|getD v9 k 0) h o1 g) (.ck (decide (0<=d)&&true&&decide (0<=toNat d)&&decide (toNat d<=Option.getD none a)&&decide (Option.getD none a<=Option.getD none a)&&true)<|.cd (0<(↑f:Int))<|.cd (0<length g)<|.ck (decide (0+toNat d<=length o1)&&true&&decide (length j<=20000))<|.ck (Jj (Aw j)&&decide (0<getD g 0 0)&&decide (getD g 0 0<1000000000))<|.ck (decide (0+b<=length h)&&true&&decide (length (take b h)<=20000))<|.leaf (.tup [.dat (zg i64)<|Aw<|take b h,.dat (zg i64)<|BA<|Aj (Aw j)/getD g 0 0]) []):=by kernel_rfl
def L4[Srt](e:Nat)(v9:List Int)(d:Int)(b a:Nat)(c h f g:Int)(j o1 i:List Int):Tr:=re ((stepT KX<|L3 0 [] 0 0 0 0 [] [] [] 0 [] 0 0 0 0 [] [] []).L.L.L)<|AI 206 [(8,.sl 0 1 0 e none),(9,.dat (zg i64) v9),(10,.dat i64 d),(11,.sl 1 1 0 b none),(12,.sl 2 1 0 a none),(13,.dat i64 c),(14,.dat i64 h),(15,.dat i64 f),(16,.dat i64 g)] [(2,.arr false 3 i64 j),(1,.arr false 3 i64 o1),(0,.arr true 3 i64 i)] 3
theorem C5[Srt](k:Nat)(v9:List Int)(j:Int)(a b:Nat)(f:Int)(o o1 q:List Int)(l:Nat)(v1:List Int)(v2 g:Int)(d:Int)(e:Int)(h:List Int)(c:List Int)(i:List Int):stepT KX (L3 k v9 j a b f o o1 q l v1 v2 g d e h c i)=let b':=zc .i64 (v2+g)-2;let p:=e+getD v1 (toNat<|zc .i64<|g-1) 0;let n:=zc .i64<|d-1;let m:Tr:=.ck (decide (0<=zc .i64 (g-1))&&decide (zc .i64 (g-1)<(length v1:Int)))<|.di (zc .i64 p>=1000000000) (L4 k v9 j a b f n 0 0 h c i)<|L3 k v9 j a b f o o1 q l v1 v2 g n (zc .i64 p) h c i;.di (d>=1000000000) m (.ck (decide (0<=zc .i64 (g-2))&&decide (zc .i64 (g-2)<(length v1:Int)))<|.ck (decide (0<=zc .i64 b')&&decide (zc .i64 b'<(↑l:Int)))<|.cd (toNat (zc .i64 b')<length c)<|.di (zc .i64 (d*getD v1 (toNat<|zc .i64<|g-2) 0)>zc .i64 (zc .i64 (e*1000000000)+getD c (toNat<|zc .i64 b') 0)) m<|L4 k v9 j a b f d 0 0 h c i):=by kernel_rfl
def L5[Srt](e:Nat)(v9:List Int)(d:Int)(b a:Nat)(c g f v20:Int)(i o1 h:List Int):Tr:=re ((stepT KX<|L4 0 [] 0 0 0 0 0 0 0 [] [] []).R.L.L.L.L.L.L.L)<|AI 206 [(8,.sl 0 1 0 e none),(9,.dat (zg i64) v9),(10,.dat i64 d),(11,.sl 1 1 0 b none),(12,.sl 2 1 0 a none),(13,.dat i64 c),(14,.dat i64 g),(19,.dat i64 f),(20,.dat i64 v20)] [(2,.arr false 3 i64 i),(1,.arr false 3 i64 o1),(0,.arr true 3 i64 h)] 3
theorem Dh[Srt](g:Nat)(v9:List Int)(d:Int)(b c:Nat)(a f h e:Int)(i o1 k:List Int):stepT KX (L4 g v9 d b c a f h e i o1 k)=let o:=decide (0<=zc .i64 (e+a))&&decide (zc .i64 (e+a)<(↑b:Int));let n:=decide (0<=zc .i64 (a+d))&&decide (zc .i64 (a+d)<(↑b:Int));let r:=zc .i64<|zc .i64 (f*getD v9 (toNat e) 0)+h;let m:=zc .i64<|e+a;let j:=zc .i64<|a+d;let s:=zc .i64<|e+1;let l:=set o1 (toNat j)<|zc .i64<|getD o1 (toNat j) 0-h;let b':=getD o1 (toNat m) 0-yc r 1000000000;let h':=decide (toNat m<length o1);let q:=decide (toNat j<length o1);let p:=zx r 1000000000;.di (e<d) (.ck (decide (0<=e)&&decide (e<(length v9:Int)))<|.ck o<|.ck h'<|.ck true<|.ck true<|.di (zc .i64 b'<0) (.ck o<|.ck h'<|L4 g v9 d b c a f (zc .i64<|zc .i64 p+1) s i (set o1 (toNat m)<|zc .i64<|zc .i64 b'+1000000000) k)<|.ck o<|.ck h'<|L4 g v9 d b c a f (zc .i64 p) s i (set o1 (toNat m)<|zc .i64 b') k) (.ck n<|.ck q<|.ck n<|.ck q<|.ck n<|.cd (toNat j<length l)<|.di (getD l (toNat j) 0<0) (L5 g v9 d b c a (zc .i64<|f-1) 0 0 i l k)<|.ck (decide (0<=a)&&decide (a<(↑c:Int)))<|.cd (toNat a<length i)<|L2 g v9 d b c (zc .i64<|a-1) (set i (toNat a) f) l k):=by kernel_rfl
theorem Gb[Srt](f:Nat)(v9:List Int)(c:Int)(b d:Nat)(a e g v20:Int)(h o1 k:List Int):stepT KX (L5 f v9 c b d a e g v20 h o1 k)=let b':=decide (0<=zc .i64 (v20+a))&&decide (zc .i64 (v20+a)<(↑b:Int));let o:=decide (0<=zc .i64 (a+c))&&decide (zc .i64 (a+c)<(↑b:Int));let i:=zc .i64<|v20+a;let j:=zc .i64<|a+c;let l:=zc .i64<|zc .i64 (getD o1 (toNat i) 0+getD v9 (toNat v20) 0)+g;let n:=decide (toNat i<length o1);let m:=decide (toNat j<length o1);.di (v20<c) (.ck b'<|.ck n<|.ck (decide (0<=v20)&&decide (v20<(length v9:Int)))<|.ck true<|.ck b'<|.ck n<|.ck true<|L5 f v9 c b d a e (zc .i64<|zx l 1000000000) (zc .i64<|v20+1) h (set o1 (toNat i)<|yc l 1000000000) k) (.ck o<|.ck m<|.ck o<|.ck m<|.ck (decide (0<=a)&&decide (a<(↑d:Int)))<|.cd (toNat a<length h)<|L2 f v9 c b d (zc .i64<|a-1) (set h (toNat a) e) (set o1 (toNat j)<|zc .i64<|getD o1 (toNat j) 0+g) k):=by kernel_rfl
end T127
namespace T106
def T[Srt](a b:List Int):Tr:=tree vE false 9 106<|Af ([zg i64,zg i64]) (a,b)
def L1[Srt](v0 v1:List Int):Tr:=re ((T [] []))<|AI 19 [(0,.dat (zg i64) v0),(1,.dat (zg i64) v1)] [] 0
theorem Al[Srt](a b:List Int):T a b=L1 a b:=by kernel_rfl
theorem As[Srt](v0 v1:List Int):stepT vE (L1 v0 v1)=.di ((length v1:Int)>0) (.ck (AW v0&&AW v1&&decide (length v0<=9000)&&decide (length v1<=9000)&&decide (0<Aj v1))<|L1 v1<|BA<|Aj v0 % Aj v1) (.leaf (.dat (zg i64) v0) []):=by kernel_rfl
end T106
namespace T125
def T[Srt](s:Rd):Tr:=tree fX false 9 125<|Af ([zf]) s
def L1[Srt](v0:Rd)(v3 v4:Int):Tr:=re ((T []))<|AI 20 [(0,.dat zf v0),(3,.dat i64 v3),(4,.dat i64 v4)] [] 0
theorem Al[Srt](s:Rd):T s=L1 s 0 0:=by kernel_rfl
theorem As[Srt](v0:Rd)(v3 v4:Int):stepT fX (L1 v0 v3 v4)=let a:=decide (v4<(length v0:Int));.ite a (.ck (decide (0<=v4)&&a)<|L1 v0 (zc .i64<|zc .i64 (zc .i64 (10*v3)+zc .i64 (↑(ze<|getD v0 (toNat v4) (0:UInt8)):Int))-48)<|zc .i64<|v4+1) (.leaf (.dat i64 v3) []):=by kernel_rfl
end T125
namespace T124
def T[Srt](s:Rd):Tr:=tree Yz false 9 124<|Af ([zf]) s
def L1[Srt](v0:Rd)(v3:Bool):Tr:=re ((T []).L.L.L.L)<|AI 40 [(0,.dat zf v0),(2,.ptr 0 0),(3,.dat zj v3),(4,.nil)] [(0,.box [.bl false,.nil])] 1
def L2[Srt](v0:Rd):Tr:=re ((T []).R)<|AI 40 [(0,.dat zf v0),(2,.ptr 0 0),(3,.bl false),(4,.nil)] [(0,.box [.bl false,.nil])] 1
theorem Al[Srt](s:Rd):T s=let a:=(↑(ze<|getD s 0 (0:UInt8)):Int)==45;.di ((length s:Int)>0) (.cd (0<(length s:Int))<|.ite a (.ck (decide (1<=length s)&&decide (length s<=length s))<|L1 (take (z6 (length s) 1)<|drop 1 s) a)<|L1 s a) (L2 s):=by kernel_rfl
def L3[Srt](v0:Rd)(v3:Bool)(a:Nat)(o1:List Int):Tr:=re ((stepT Yz<|L1 [] false).L.L.L.L.L)<|AI 40 [(0,.dat zf v0),(2,.ptr 0 0),(3,.dat zj v3),(4,.sl 1 1 0 a none)] [(1,.arr false 3 i64 o1),(0,.box [.bl false,.nil])] 2
theorem As[Srt](v0:Rd)(v3:Bool):stepT Yz (L1 v0 v3)=let b':=aa 8;let b:=(length v0:Int);let a:=zc .i64<|b-9;let e:=decide (0<=zc .i64 (b-9));let d:=take (z6 (length v0)<|toNat a)<|drop (toNat a) v0;let c:=decide (toNat a<=length v0);.di (b>9) (.ck (e&&true&&c&&decide (length v0<=length v0))<|.ck (Dq d)<|.ck b'<|.ck (e&&decide (0<=toNat a)&&c)<|L3 (take (toNat a) v0) v3 1<|[BE d]) (.ck (Dq v0)<|.ck b'<|.ck (decide (0+1<=1)&&true&&decide (1<=20000))<|.leaf (zt [.dat zj<|Cj v3 [BE v0],.dat (zg i64)<|Aw [BE v0]]) []):=by kernel_rfl
def L4[Srt](v0:Rd)(a:Nat)(o1:List Int):Tr:=re ((stepT Yz<|L2 []).L.L.L.L.L)<|AI 40 [(0,.dat zf v0),(2,.ptr 0 0),(3,.bl false),(4,.sl 1 1 0 a none)] [(1,.arr false 3 i64 o1),(0,.box [.bl false,.nil])] 2
theorem A5[Srt](v0:Rd):stepT Yz (L2 v0)=let b':=aa 8;let b:=(length v0:Int);let a:=zc .i64<|b-9;let e:=decide (0<=zc .i64 (b-9));let d:=take (z6 (length v0)<|toNat a)<|drop (toNat a) v0;let c:=decide (toNat a<=length v0);.di (b>9) (.ck (e&&true&&c&&decide (length v0<=length v0))<|.ck (Dq d)<|.ck b'<|.ck (e&&decide (0<=toNat a)&&c)<|L4 (take (toNat a) v0) 1<|[BE d]) (.ck (Dq v0)<|.ck b'<|.ck (decide (0+1<=1)&&true&&decide (1<=20000))<|.leaf (zt [.dat zj<|Cj false [BE v0],.dat (zg i64)<|Aw [BE v0]]) []):=by kernel_rfl
theorem C5[Srt](v0:Rd)(v3:Bool)(a:Nat)(o1:List Int):stepT Yz (L3 v0 v3 a o1)=let b':=ac a (length o1) 8;let d:=take (yj a 1)<|o1++[BE v0];let c:=(length v0:Int);let b:=zc .i64<|c-9;let f:=decide (0<=zc .i64 (c-9));let e:=take (z6 (length v0)<|toNat b)<|drop (toNat b) v0;let g:=decide (toNat b<=length v0);.di (c>9) (.ck (f&&true&&g&&decide (length v0<=length v0))<|.ck (Dq e)<|.ck b'<|.ck (f&&decide (0<=toNat b)&&g)<|L3 (take (toNat b) v0) v3 (yj a 1)<|o1++[BE e]) (.ck (Dq v0)<|.ck b'<|.ck (decide (0+yj a 1<=length (o1++[BE v0]))&&true&&decide (length d<=20000))<|.leaf (zt [.dat zj<|Cj v3 d,.dat (zg i64)<|Aw d]) []):=by kernel_rfl
theorem Dh[Srt](v0:Rd)(a:Nat)(o1:List Int):stepT Yz (L4 v0 a o1)=let b':=ac a (length o1) 8;let d:=take (yj a 1)<|o1++[BE v0];let c:=(length v0:Int);let b:=zc .i64<|c-9;let f:=decide (0<=zc .i64 (c-9));let e:=take (z6 (length v0)<|toNat b)<|drop (toNat b) v0;let g:=decide (toNat b<=length v0);.di (c>9) (.ck (f&&true&&g&&decide (length v0<=length v0))<|.ck (Dq e)<|.ck b'<|.ck (f&&decide (0<=toNat b)&&g)<|L4 (take (toNat b) v0) (yj a 1)<|o1++[BE e]) (.ck (Dq v0)<|.ck b'<|.ck (decide (0+yj a 1<=length (o1++[BE v0]))&&true&&decide (length d<=20000))<|.leaf (zt [.dat zj<|Cj false d,.dat (zg i64)<|Aw d]) []):=by kernel_rfl
end T124
end
end Go.Pe
